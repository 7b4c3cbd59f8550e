-- PRINTED by print.py (a twelfth state) out of the translation. Not trusted: Lean checks it.
import Derived.Test.YthnehlphifegaaaPx0
import Derived.Test.YthnehlphifegaaaPx2
import Derived.Test.YthnehlphifegaaaPx5
namespace Go.Proofs.Ythnehlphifegaaa.P
open Go.RowKit Go.Proofs.YthnehlphifegaaaW.PrintWords Go.Proofs.YthnehlphifegaaaW.PrintLast Go.Proofs.YthnehlphifegaaaW.PrintMore
attribute [local go_sem] max2_int min2_int max_two min_two max_three min_three max_four min_four   -- for this text's walks alone
set_option linter.unusedVariables false
set_option linter.unusedSimpArgs false
set_option maxHeartbeats 8000000
set_option maxRecDepth 100000

/-! ### spec_maStep: function 49 -/
open Kd
open Kd
/-- The colour that comes next. -/
def mNxt (e1 e3 c : Int) : Int := if e1 = 1 then (if wrap64 (2 * e3) < c then 0 else 1) else 2
def spec_maStep.f (k : Nat) (a0_0 : Int) (a0_1 : Int) (l0_2 : List (S98)) (a0_3 : Int) (a0_4 : Int) (a0_5 : Int) (a0_6 : Int) (a0_7 : Int) : Option (Int × Int × (List (S98)) × Int × Int × Int × Int × Int × Int × Int × Int) := (spec_flRun.f k a0_0 a0_1 l0_2 (if a0_7 = 0 then a0_3 else a0_4)).bind fun q => some (q.2.2.2.1, q.2.2.2.2.1, q.2.2.2.2.2, a0_3, a0_4, (if a0_7 = 0 then wrap64 (a0_5 - 1) else a0_5), (if a0_7 = 0 then a0_6 else wrap64 (a0_6 - 1)), mNxt q.1 q.2.2.1 a0_1, q.1, q.2.1, q.2.2.1)
theorem spec_maStep.mono : ∀ a0 a1 a2 a3 a4 a5 a6 a7 k, LeO (spec_maStep.f k a0 a1 a2 a3 a4 a5 a6 a7) (spec_maStep.f (k + 1) a0 a1 a2 a3 a4 a5 a6 a7) := fun _ _ _ _ _ _ _ _ _ => LeO.bind (spec_flRun.mono _ _ _ _ _) fun _ => LeO.refl _
/-- The blocks of a step: the machine that came, the two results, the machine that goes, the fall, the board. -/
def MSt (w0 wc : World) (v : Value) (cs : List S98) (ga gb gc gd ge gf : Nat) (A B C D E F : Array Value) : Prop :=
 Kd.R k98 98 wc w0.heap.size (fun _ => True) v cs /\ wc.heap[ga]? = some (.cells A 35 (0, 0)) /\ wc.heap[gb]? = some (.cells B 35 (0, 0)) /\ wc.heap[gc]? = some (.cells C 61 (0, 0)) /\ wc.heap[gd]? = some (.cells D 35 (0, 0)) /\ wc.heap[ge]? = some (.cells E 61 (0, 0)) /\ wc.heap[gf]? = some (.cells F 33 (0, 0)) /\ Below w0.heap.size w0 wc
theorem MSt.setB {w0 wc : World} {v : Value} {cs : List S98} {ga gb gc gd ge gf : Nat} {A B C D E F D' : Array Value} (h : MSt w0 wc v cs ga gb gc gd ge gf A B C D E F) (nga : ga ≠ gb) (ngc : gc ≠ gb) (ngd : gd ≠ gb) (nge : ge ≠ gb) (ngf : gf ≠ gb) (hg : w0.heap.size <= gb) (i : Nat) (u : Value) (e : B.setIfInBounds i u = D') : MSt w0 (wc.setCell ⟨gb, i, none⟩ u) v cs ga gb gc gd ge gf A D' C D E F :=
 ⟨R_set h.1 h.2.2.1 (by decide) i u, blk_far h.2.1 (p := ⟨gb, i, none⟩) nga u, blk_put h.2.2.1 i u e, blk_far h.2.2.2.1 (p := ⟨gb, i, none⟩) ngc u, blk_far h.2.2.2.2.1 (p := ⟨gb, i, none⟩) ngd u, blk_far h.2.2.2.2.2.1 (p := ⟨gb, i, none⟩) nge u, blk_far h.2.2.2.2.2.2.1 (p := ⟨gb, i, none⟩) ngf u, h.2.2.2.2.2.2.2.setCell (p := ⟨gb, i, none⟩) hg u⟩
theorem MSt.setC {w0 wc : World} {v : Value} {cs : List S98} {ga gb gc gd ge gf : Nat} {A B C D E F D' : Array Value} (h : MSt w0 wc v cs ga gb gc gd ge gf A B C D E F) (nga : ga ≠ gc) (ngb : gb ≠ gc) (ngd : gd ≠ gc) (nge : ge ≠ gc) (ngf : gf ≠ gc) (hg : w0.heap.size <= gc) (i : Nat) (u : Value) (e : C.setIfInBounds i u = D') : MSt w0 (wc.setCell ⟨gc, i, none⟩ u) v cs ga gb gc gd ge gf A B D' D E F :=
 ⟨R_set h.1 h.2.2.2.1 (by decide) i u, blk_far h.2.1 (p := ⟨gc, i, none⟩) nga u, blk_far h.2.2.1 (p := ⟨gc, i, none⟩) ngb u, blk_put h.2.2.2.1 i u e, blk_far h.2.2.2.2.1 (p := ⟨gc, i, none⟩) ngd u, blk_far h.2.2.2.2.2.1 (p := ⟨gc, i, none⟩) nge u, blk_far h.2.2.2.2.2.2.1 (p := ⟨gc, i, none⟩) ngf u, h.2.2.2.2.2.2.2.setCell (p := ⟨gc, i, none⟩) hg u⟩
theorem MSt.setD {w0 wc : World} {v : Value} {cs : List S98} {ga gb gc gd ge gf : Nat} {A B C D E F D' : Array Value} (h : MSt w0 wc v cs ga gb gc gd ge gf A B C D E F) (nga : ga ≠ gd) (ngb : gb ≠ gd) (ngc : gc ≠ gd) (nge : ge ≠ gd) (ngf : gf ≠ gd) (hg : w0.heap.size <= gd) (i : Nat) (u : Value) (e : D.setIfInBounds i u = D') : MSt w0 (wc.setCell ⟨gd, i, none⟩ u) v cs ga gb gc gd ge gf A B C D' E F :=
 ⟨R_set h.1 h.2.2.2.2.1 (by decide) i u, blk_far h.2.1 (p := ⟨gd, i, none⟩) nga u, blk_far h.2.2.1 (p := ⟨gd, i, none⟩) ngb u, blk_far h.2.2.2.1 (p := ⟨gd, i, none⟩) ngc u, blk_put h.2.2.2.2.1 i u e, blk_far h.2.2.2.2.2.1 (p := ⟨gd, i, none⟩) nge u, blk_far h.2.2.2.2.2.2.1 (p := ⟨gd, i, none⟩) ngf u, h.2.2.2.2.2.2.2.setCell (p := ⟨gd, i, none⟩) hg u⟩
theorem MSt.setE {w0 wc : World} {v : Value} {cs : List S98} {ga gb gc gd ge gf : Nat} {A B C D E F D' : Array Value} (h : MSt w0 wc v cs ga gb gc gd ge gf A B C D E F) (nga : ga ≠ ge) (ngb : gb ≠ ge) (ngc : gc ≠ ge) (ngd : gd ≠ ge) (ngf : gf ≠ ge) (hg : w0.heap.size <= ge) (i : Nat) (u : Value) (e : E.setIfInBounds i u = D') : MSt w0 (wc.setCell ⟨ge, i, none⟩ u) v cs ga gb gc gd ge gf A B C D D' F :=
 ⟨R_set h.1 h.2.2.2.2.2.1 (by decide) i u, blk_far h.2.1 (p := ⟨ge, i, none⟩) nga u, blk_far h.2.2.1 (p := ⟨ge, i, none⟩) ngb u, blk_far h.2.2.2.1 (p := ⟨ge, i, none⟩) ngc u, blk_far h.2.2.2.2.1 (p := ⟨ge, i, none⟩) ngd u, blk_put h.2.2.2.2.2.1 i u e, blk_far h.2.2.2.2.2.2.1 (p := ⟨ge, i, none⟩) ngf u, h.2.2.2.2.2.2.2.setCell (p := ⟨ge, i, none⟩) hg u⟩
theorem MSt.setF {w0 wc : World} {v : Value} {cs : List S98} {ga gb gc gd ge gf : Nat} {A B C D E F D' : Array Value} (h : MSt w0 wc v cs ga gb gc gd ge gf A B C D E F) (nga : ga ≠ gf) (ngb : gb ≠ gf) (ngc : gc ≠ gf) (ngd : gd ≠ gf) (nge : ge ≠ gf) (hg : w0.heap.size <= gf) (i : Nat) (u : Value) (e : F.setIfInBounds i u = D') : MSt w0 (wc.setCell ⟨gf, i, none⟩ u) v cs ga gb gc gd ge gf A B C D E D' :=
 ⟨R_set h.1 h.2.2.2.2.2.2.1 (by decide) i u, blk_far h.2.1 (p := ⟨gf, i, none⟩) nga u, blk_far h.2.2.1 (p := ⟨gf, i, none⟩) ngb u, blk_far h.2.2.2.1 (p := ⟨gf, i, none⟩) ngc u, blk_far h.2.2.2.2.1 (p := ⟨gf, i, none⟩) ngd u, blk_far h.2.2.2.2.2.1 (p := ⟨gf, i, none⟩) nge u, blk_put h.2.2.2.2.2.2.1 i u e, h.2.2.2.2.2.2.2.setCell (p := ⟨gf, i, none⟩) hg u⟩
theorem MSt.drew {w0 wc : World} {v : Value} {cs : List S98} {ga gb gc gd ge gf : Nat} {A B C D E F : Array Value} (h : MSt w0 wc v cs ga gb gc gd ge gf A B C D E F) : MSt w0 wc.drew v cs ga gb gc gd ge gf A B C D E F :=
 ⟨R_drew h.1, blk_drew h.2.1, blk_drew h.2.2.1, blk_drew h.2.2.2.1, blk_drew h.2.2.2.2.1, blk_drew h.2.2.2.2.2.1, blk_drew h.2.2.2.2.2.2.1, below_drew h.2.2.2.2.2.2.2⟩
theorem spec_maStep.calls (k : Nat) (a0_0 : Int) (a0_1 : Int) (A0_2 : Option Addr) (c0_2 : Nat) (l0_2 : List (S98)) (a0_3 : Int) (a0_4 : Int) (a0_5 : Int) (a0_6 : Int) (a0_7 : Int) (r1 : Int) (r2 : Int) (r3 : List (S98)) (r4 : Int) (r5 : Int) (r6 : Int) (r7 : Int) (r8 : Int) (r9 : Int) (r10 : Int) (r11 : Int) (w : World) (hr0_2 : Kd.C k98 w A0_2 l0_2.length l0_2) (hc0_2 : l0_2.length <= c0_2) (h : spec_maStep.f k a0_0 a0_1 l0_2 a0_3 a0_4 a0_5 a0_6 a0_7 = some (r1, r2, r3, r4, r5, r6, r7, r8, r9, r10, r11)) :
 Calls Try.prog 49 #[.agg #[.int .i64 a0_0, .int .i64 a0_1, .slice A0_2 l0_2.length c0_2, .int .i64 a0_3, .int .i64 a0_4, .int .i64 a0_5, .int .i64 a0_6, .int .i64 a0_7]] w fun e w' => ∃ v2_ : Value, e = .returned (.tuple #[.agg #[.int .i64 r1, .int .i64 r2, v2_, .int .i64 r4, .int .i64 r5, .int .i64 r6, .int .i64 r7, .int .i64 r8], .agg #[.int .i64 r9, .int .i64 r10, .int .i64 r11]]) /\ Kd.R k98 98 w' w.heap.size (fun _ => True) v2_ r3 /\ Below w.heap.size w w' := by
 have hu35 := Try.underlying35
 have hu61 := Try.underlying61
 have hu33 := Try.underlying33
 have HR0_2 := Aside0.mk hr0_2
 have HC0_2 := Aside0.mk hc0_2
 clear hr0_2 hc0_2
 have HB := Aside0.mk (Below.refl w.heap.size w)
 have H := h
 clear h
 unfold spec_maStep.f at H
 replace H := bindA H; obtain ⟨⟨e1, e2, e3, t1, t2, t3⟩, A28, H⟩ := H
 simp only [Option.some.injEq, Prod.mk.injEq] at H
 obtain ⟨rfl, rfl, rfl, rfl, rfl, h5, h6, h7, rfl, rfl, rfl⟩ := H
 have H5 := Aside0.mk h5
 have H6 := Aside0.mk h6
 have H7 := Aside0.mk h7
 clear h5 h6 h7
 go_enter Try.func49, Try.ntmps49
 go_upto_if 13 with (first | ((with_reducible refine gate_dst (N := 1) rfl ?_); refine boxE (cs := #[.int .i64 a0_0, .int .i64 a0_1, .slice A0_2 l0_2.length c0_2, .int .i64 a0_3, .int .i64 a0_4, .int .i64 a0_5, .int .i64 a0_6, .int .i64 a0_7]) (t := 35) ?_; intro gb234 hg w3 hbox hb; refine E4b HB.1 hg hbox hb ?_; clear HB; intro HB BK234 GW234 GE234; clear hb hbox hg) | ((with_reducible refine gate_dst (N := 2) rfl ?_); refine boxE (cs := #[.int .i64 0, .int .i64 0, .slice none 0 0, .int .i64 0, .int .i64 0, .int .i64 0, .int .i64 0, .int .i64 0]) (t := 35) ?_; intro gb235 hg w4 hbox hb; refine E7 (bB BK234.1 hb) (bS HB.1 hb) (hbox) (gX HB.1 hg) (gX HB.1 hg) (nB BK234.1 hg) (nC BK234.1 hg) ?_; clear BK234 HB; intro BK234 HB BK235 GW235 GE235 NB234_235 NB235_234; clear hb hbox hg) | ((with_reducible refine gate_dst (N := 3) rfl ?_); refine boxE (cs := #[.int .i64 0, .int .i64 0, .int .i64 0]) (t := 61) ?_; intro gb236 hg w5 hbox hb; refine E10 (bB BK234.1 hb) (bB BK235.1 hb) (bS HB.1 hb) (hbox) (gX HB.1 hg) (gX HB.1 hg) (nB BK234.1 hg) (nC BK234.1 hg) (nB BK235.1 hg) (nC BK235.1 hg) ?_; clear BK234 BK235 HB; intro BK234 BK235 HB BK236 GW236 GE236 NB234_236 NB236_234 NB235_236 NB236_235; clear hb hbox hg; have hnb6 := NB234_235.1; have hnc6 := NB235_234.1; have hnb7 := NB234_236.1; have hnc7 := NB236_234.1; obtain ⟨hcz8_0, hcz8_1, hcz8_2, hcz8_3, hcz8_4, hcz8_5, hcz8_6, hcz8_7, hfz8_0, hfz8_1, hfz8_2, hfz8_3, hfz8_4, hfz8_5, hfz8_6, hfz8_7⟩ := cz8 BK234.1) | ((with_reducible refine gate_dst (N := 4) rfl ?_); refine boxE (cs := #[.int .i64 0, .int .i64 0, .slice none 0 0, .int .i64 0, .int .i64 0, .int .i64 0, .int .i64 0, .int .i64 0]) (t := 35) ?_; intro gb237 hg w9 hbox hb; refine E13 (bB BK234.1 hb) (bB BK235.1 hb) (bB BK236.1 hb) (bS HB.1 hb) (hbox) (gX HB.1 hg) (gX HB.1 hg) (nB BK234.1 hg) (nC BK234.1 hg) (nB BK235.1 hg) (nC BK235.1 hg) (nB BK236.1 hg) (nC BK236.1 hg) ?_; clear BK234 BK235 BK236 HB; intro BK234 BK235 BK236 HB BK237 GW237 GE237 NB234_237 NB237_234 NB235_237 NB237_235 NB236_237 NB237_236; clear hb hbox hg; have hnb10 := NB237_234.1; have hnc10 := NB234_237.1; have hnb11 := NB237_235.1; have hnc11 := NB235_237.1; have hnb12 := NB237_236.1; have hnc12 := NB236_237.1; obtain ⟨hcz13_0, hcz13_1, hcz13_2, hcz13_3, hcz13_4, hcz13_5, hcz13_6, hcz13_7, hfz13_0, hfz13_1, hfz13_2, hfz13_3, hfz13_4, hfz13_5, hfz13_6, hfz13_7⟩ := cz8 BK237.1; obtain ⟨hcz14_0, hcz14_1, hcz14_2, hcz14_3, hcz14_4, hcz14_5, hcz14_6, hcz14_7, hfz14_0, hfz14_1, hfz14_2, hfz14_3, hfz14_4, hfz14_5, hfz14_6, hfz14_7⟩ := cz8 BK234.1))
 (try simp only [Act.put, List.setIfInBounds_toArray, List.set_cons_zero, List.set_cons_succ])
 go_cut [5] (fun v5 wc => ∃ (x x5 x6 : Int), v5 = .int .i64 x /\ Aside0 (x = if a0_7 = 0 then a0_3 else a0_4) /\ Aside0 (x5 = if a0_7 = 0 then wrap64 (a0_5 - 1) else a0_5) /\ Aside0 (x6 = if a0_7 = 0 then a0_6 else wrap64 (a0_6 - 1)) /\ Aside0 (wc.heap[gb234]? = some (.cells #[.int .i64 a0_0, .int .i64 a0_1, .slice A0_2 l0_2.length c0_2, .int .i64 a0_3, .int .i64 a0_4, .int .i64 a0_5, .int .i64 a0_6, .int .i64 a0_7] 35 (0, 0))) /\ Aside0 (wc.heap[gb235]? = some (.cells #[.int .i64 0, .int .i64 0, .slice none 0 0, .int .i64 0, .int .i64 0, .int .i64 0, .int .i64 0, .int .i64 0] 35 (0, 0))) /\ Aside0 (wc.heap[gb236]? = some (.cells #[.int .i64 0, .int .i64 0, .int .i64 0] 61 (0, 0))) /\ Aside0 (wc.heap[gb237]? = some (.cells #[.int .i64 a0_0, .int .i64 a0_1, .slice A0_2 l0_2.length c0_2, .int .i64 a0_3, .int .i64 a0_4, .int .i64 x5, .int .i64 x6, .int .i64 a0_7] 35 (0, 0))) /\ Aside0 (Below w.heap.size w wc))
 case first =>
  by_cases c15 : a0_7 = 0
  · have c15b0 := beq_iff_eq.mpr c15
    have c15b1 := bne_eq_false_iff_eq.mpr c15
    have HC15 := Aside0.mk c15
    clear c15
    (first | rw [c15b0] | (simp only [i64_w, i32_w]; rw [c15b0]) | skip)
    obtain ⟨hcz19_0, hcz19_1, hcz19_2, hcz19_3, hcz19_4, hcz19_5, hcz19_6, hcz19_7, hfz19_0, hfz19_1, hfz19_2, hfz19_3, hfz19_4, hfz19_5, hfz19_6, hfz19_7⟩ := cz8 BK237.1
    go_wp2
    go_meet
    case rel => exact ⟨a0_3, wrap64 (a0_5 - 1), a0_6, RG, ⟨(if_pos HC15.1).symm⟩, ⟨(if_pos HC15.1).symm⟩, ⟨(if_pos HC15.1).symm⟩, ⟨by (with_reducible repeat (first | refine blk_drewN ?_ _ | refine blk_drew ?_ | refine blk_alloc ?_ _)); refine blk_far ?_ NB234_237.1 _; (with_reducible repeat (first | refine blk_drewN ?_ _ | refine blk_drew ?_ | refine blk_alloc ?_ _)); refine blk_far ?_ NB234_237.1 _; (with_reducible repeat (first | refine blk_drewN ?_ _ | refine blk_drew ?_ | refine blk_alloc ?_ _)); refine blk_far ?_ NB234_237.1 _; (with_reducible repeat (first | refine blk_drewN ?_ _ | refine blk_drew ?_ | refine blk_alloc ?_ _)); refine blk_far ?_ NB234_237.1 _; (with_reducible repeat (first | refine blk_drewN ?_ _ | refine blk_drew ?_ | refine blk_alloc ?_ _)); refine blk_far ?_ NB234_237.1 _; (with_reducible repeat (first | refine blk_drewN ?_ _ | refine blk_drew ?_ | refine blk_alloc ?_ _)); refine blk_far ?_ NB234_237.1 _; (with_reducible repeat (first | refine blk_drewN ?_ _ | refine blk_drew ?_ | refine blk_alloc ?_ _)); refine blk_far ?_ NB234_237.1 _; (with_reducible repeat (first | refine blk_drewN ?_ _ | refine blk_drew ?_ | refine blk_alloc ?_ _)); refine blk_far ?_ NB234_237.1 _; (with_reducible repeat (first | refine blk_drewN ?_ _ | refine blk_drew ?_ | refine blk_alloc ?_ _)); refine blk_far ?_ NB234_237.1 _; (with_reducible repeat (first | refine blk_drewN ?_ _ | refine blk_drew ?_ | refine blk_alloc ?_ _)); exact BK234.1⟩, ⟨by (with_reducible repeat (first | refine blk_drewN ?_ _ | refine blk_drew ?_ | refine blk_alloc ?_ _)); refine blk_far ?_ NB235_237.1 _; (with_reducible repeat (first | refine blk_drewN ?_ _ | refine blk_drew ?_ | refine blk_alloc ?_ _)); refine blk_far ?_ NB235_237.1 _; (with_reducible repeat (first | refine blk_drewN ?_ _ | refine blk_drew ?_ | refine blk_alloc ?_ _)); refine blk_far ?_ NB235_237.1 _; (with_reducible repeat (first | refine blk_drewN ?_ _ | refine blk_drew ?_ | refine blk_alloc ?_ _)); refine blk_far ?_ NB235_237.1 _; (with_reducible repeat (first | refine blk_drewN ?_ _ | refine blk_drew ?_ | refine blk_alloc ?_ _)); refine blk_far ?_ NB235_237.1 _; (with_reducible repeat (first | refine blk_drewN ?_ _ | refine blk_drew ?_ | refine blk_alloc ?_ _)); refine blk_far ?_ NB235_237.1 _; (with_reducible repeat (first | refine blk_drewN ?_ _ | refine blk_drew ?_ | refine blk_alloc ?_ _)); refine blk_far ?_ NB235_237.1 _; (with_reducible repeat (first | refine blk_drewN ?_ _ | refine blk_drew ?_ | refine blk_alloc ?_ _)); refine blk_far ?_ NB235_237.1 _; (with_reducible repeat (first | refine blk_drewN ?_ _ | refine blk_drew ?_ | refine blk_alloc ?_ _)); refine blk_far ?_ NB235_237.1 _; (with_reducible repeat (first | refine blk_drewN ?_ _ | refine blk_drew ?_ | refine blk_alloc ?_ _)); exact BK235.1⟩, ⟨by (with_reducible repeat (first | refine blk_drewN ?_ _ | refine blk_drew ?_ | refine blk_alloc ?_ _)); refine blk_far ?_ NB236_237.1 _; (with_reducible repeat (first | refine blk_drewN ?_ _ | refine blk_drew ?_ | refine blk_alloc ?_ _)); refine blk_far ?_ NB236_237.1 _; (with_reducible repeat (first | refine blk_drewN ?_ _ | refine blk_drew ?_ | refine blk_alloc ?_ _)); refine blk_far ?_ NB236_237.1 _; (with_reducible repeat (first | refine blk_drewN ?_ _ | refine blk_drew ?_ | refine blk_alloc ?_ _)); refine blk_far ?_ NB236_237.1 _; (with_reducible repeat (first | refine blk_drewN ?_ _ | refine blk_drew ?_ | refine blk_alloc ?_ _)); refine blk_far ?_ NB236_237.1 _; (with_reducible repeat (first | refine blk_drewN ?_ _ | refine blk_drew ?_ | refine blk_alloc ?_ _)); refine blk_far ?_ NB236_237.1 _; (with_reducible repeat (first | refine blk_drewN ?_ _ | refine blk_drew ?_ | refine blk_alloc ?_ _)); refine blk_far ?_ NB236_237.1 _; (with_reducible repeat (first | refine blk_drewN ?_ _ | refine blk_drew ?_ | refine blk_alloc ?_ _)); refine blk_far ?_ NB236_237.1 _; (with_reducible repeat (first | refine blk_drewN ?_ _ | refine blk_drew ?_ | refine blk_alloc ?_ _)); refine blk_far ?_ NB236_237.1 _; (with_reducible repeat (first | refine blk_drewN ?_ _ | refine blk_drew ?_ | refine blk_alloc ?_ _)); exact BK236.1⟩, ⟨by (with_reducible repeat (first | refine blk_drewN ?_ _ | refine blk_drew ?_ | refine blk_alloc ?_ _)); refine blk_put (cs := #[.int .i64 a0_0, .int .i64 a0_1, .slice A0_2 l0_2.length c0_2, .int .i64 a0_3, .int .i64 a0_4, .int .i64 a0_5, .int .i64 a0_6, .int .i64 a0_7]) ?_ 5 _ rfl; (with_reducible repeat (first | refine blk_drewN ?_ _ | refine blk_drew ?_ | refine blk_alloc ?_ _)); refine blk_put (cs := #[.int .i64 a0_0, .int .i64 a0_1, .slice A0_2 l0_2.length c0_2, .int .i64 a0_3, .int .i64 a0_4, .int .i64 a0_5, .int .i64 a0_6, .int .i64 0]) ?_ 7 _ rfl; (with_reducible repeat (first | refine blk_drewN ?_ _ | refine blk_drew ?_ | refine blk_alloc ?_ _)); refine blk_put (cs := #[.int .i64 a0_0, .int .i64 a0_1, .slice A0_2 l0_2.length c0_2, .int .i64 a0_3, .int .i64 a0_4, .int .i64 a0_5, .int .i64 0, .int .i64 0]) ?_ 6 _ rfl; (with_reducible repeat (first | refine blk_drewN ?_ _ | refine blk_drew ?_ | refine blk_alloc ?_ _)); refine blk_put (cs := #[.int .i64 a0_0, .int .i64 a0_1, .slice A0_2 l0_2.length c0_2, .int .i64 a0_3, .int .i64 a0_4, .int .i64 0, .int .i64 0, .int .i64 0]) ?_ 5 _ rfl; (with_reducible repeat (first | refine blk_drewN ?_ _ | refine blk_drew ?_ | refine blk_alloc ?_ _)); refine blk_put (cs := #[.int .i64 a0_0, .int .i64 a0_1, .slice A0_2 l0_2.length c0_2, .int .i64 a0_3, .int .i64 0, .int .i64 0, .int .i64 0, .int .i64 0]) ?_ 4 _ rfl; (with_reducible repeat (first | refine blk_drewN ?_ _ | refine blk_drew ?_ | refine blk_alloc ?_ _)); refine blk_put (cs := #[.int .i64 a0_0, .int .i64 a0_1, .slice A0_2 l0_2.length c0_2, .int .i64 0, .int .i64 0, .int .i64 0, .int .i64 0, .int .i64 0]) ?_ 3 _ rfl; (with_reducible repeat (first | refine blk_drewN ?_ _ | refine blk_drew ?_ | refine blk_alloc ?_ _)); refine blk_put (cs := #[.int .i64 a0_0, .int .i64 a0_1, .slice none 0 0, .int .i64 0, .int .i64 0, .int .i64 0, .int .i64 0, .int .i64 0]) ?_ 2 _ rfl; (with_reducible repeat (first | refine blk_drewN ?_ _ | refine blk_drew ?_ | refine blk_alloc ?_ _)); refine blk_put (cs := #[.int .i64 a0_0, .int .i64 0, .slice none 0 0, .int .i64 0, .int .i64 0, .int .i64 0, .int .i64 0, .int .i64 0]) ?_ 1 _ rfl; (with_reducible repeat (first | refine blk_drewN ?_ _ | refine blk_drew ?_ | refine blk_alloc ?_ _)); refine blk_put (cs := #[.int .i64 0, .int .i64 0, .slice none 0 0, .int .i64 0, .int .i64 0, .int .i64 0, .int .i64 0, .int .i64 0]) ?_ 0 _ rfl; (with_reducible repeat (first | refine blk_drewN ?_ _ | refine blk_drew ?_ | refine blk_alloc ?_ _)); exact BK237.1⟩, ⟨BL HB.1⟩⟩
  have c15b0 := beq_eq_false_iff_ne.mpr c15
  have c15b1 := bne_iff_ne.mpr c15
  have HC15 := Aside0.mk c15
  clear c15
  (first | rw [c15b0] | (simp only [i64_w, i32_w]; rw [c15b0]) | skip)
  obtain ⟨hcz23_0, hcz23_1, hcz23_2, hcz23_3, hcz23_4, hcz23_5, hcz23_6, hcz23_7, hfz23_0, hfz23_1, hfz23_2, hfz23_3, hfz23_4, hfz23_5, hfz23_6, hfz23_7⟩ := cz8 BK237.1
  obtain ⟨hcz26_0, hcz26_1, hcz26_2, hcz26_3, hcz26_4, hcz26_5, hcz26_6, hcz26_7, hfz26_0, hfz26_1, hfz26_2, hfz26_3, hfz26_4, hfz26_5, hfz26_6, hfz26_7⟩ := cz8 BK234.1
  go_wp2
  go_meet
  case rel => exact ⟨a0_4, a0_5, wrap64 (a0_6 - 1), RG, ⟨(if_neg HC15.1).symm⟩, ⟨(if_neg HC15.1).symm⟩, ⟨(if_neg HC15.1).symm⟩, ⟨by (with_reducible repeat (first | refine blk_drewN ?_ _ | refine blk_drew ?_ | refine blk_alloc ?_ _)); refine blk_far ?_ NB234_237.1 _; (with_reducible repeat (first | refine blk_drewN ?_ _ | refine blk_drew ?_ | refine blk_alloc ?_ _)); refine blk_far ?_ NB234_237.1 _; (with_reducible repeat (first | refine blk_drewN ?_ _ | refine blk_drew ?_ | refine blk_alloc ?_ _)); refine blk_far ?_ NB234_237.1 _; (with_reducible repeat (first | refine blk_drewN ?_ _ | refine blk_drew ?_ | refine blk_alloc ?_ _)); refine blk_far ?_ NB234_237.1 _; (with_reducible repeat (first | refine blk_drewN ?_ _ | refine blk_drew ?_ | refine blk_alloc ?_ _)); refine blk_far ?_ NB234_237.1 _; (with_reducible repeat (first | refine blk_drewN ?_ _ | refine blk_drew ?_ | refine blk_alloc ?_ _)); refine blk_far ?_ NB234_237.1 _; (with_reducible repeat (first | refine blk_drewN ?_ _ | refine blk_drew ?_ | refine blk_alloc ?_ _)); refine blk_far ?_ NB234_237.1 _; (with_reducible repeat (first | refine blk_drewN ?_ _ | refine blk_drew ?_ | refine blk_alloc ?_ _)); refine blk_far ?_ NB234_237.1 _; (with_reducible repeat (first | refine blk_drewN ?_ _ | refine blk_drew ?_ | refine blk_alloc ?_ _)); refine blk_far ?_ NB234_237.1 _; (with_reducible repeat (first | refine blk_drewN ?_ _ | refine blk_drew ?_ | refine blk_alloc ?_ _)); exact BK234.1⟩, ⟨by (with_reducible repeat (first | refine blk_drewN ?_ _ | refine blk_drew ?_ | refine blk_alloc ?_ _)); refine blk_far ?_ NB235_237.1 _; (with_reducible repeat (first | refine blk_drewN ?_ _ | refine blk_drew ?_ | refine blk_alloc ?_ _)); refine blk_far ?_ NB235_237.1 _; (with_reducible repeat (first | refine blk_drewN ?_ _ | refine blk_drew ?_ | refine blk_alloc ?_ _)); refine blk_far ?_ NB235_237.1 _; (with_reducible repeat (first | refine blk_drewN ?_ _ | refine blk_drew ?_ | refine blk_alloc ?_ _)); refine blk_far ?_ NB235_237.1 _; (with_reducible repeat (first | refine blk_drewN ?_ _ | refine blk_drew ?_ | refine blk_alloc ?_ _)); refine blk_far ?_ NB235_237.1 _; (with_reducible repeat (first | refine blk_drewN ?_ _ | refine blk_drew ?_ | refine blk_alloc ?_ _)); refine blk_far ?_ NB235_237.1 _; (with_reducible repeat (first | refine blk_drewN ?_ _ | refine blk_drew ?_ | refine blk_alloc ?_ _)); refine blk_far ?_ NB235_237.1 _; (with_reducible repeat (first | refine blk_drewN ?_ _ | refine blk_drew ?_ | refine blk_alloc ?_ _)); refine blk_far ?_ NB235_237.1 _; (with_reducible repeat (first | refine blk_drewN ?_ _ | refine blk_drew ?_ | refine blk_alloc ?_ _)); refine blk_far ?_ NB235_237.1 _; (with_reducible repeat (first | refine blk_drewN ?_ _ | refine blk_drew ?_ | refine blk_alloc ?_ _)); exact BK235.1⟩, ⟨by (with_reducible repeat (first | refine blk_drewN ?_ _ | refine blk_drew ?_ | refine blk_alloc ?_ _)); refine blk_far ?_ NB236_237.1 _; (with_reducible repeat (first | refine blk_drewN ?_ _ | refine blk_drew ?_ | refine blk_alloc ?_ _)); refine blk_far ?_ NB236_237.1 _; (with_reducible repeat (first | refine blk_drewN ?_ _ | refine blk_drew ?_ | refine blk_alloc ?_ _)); refine blk_far ?_ NB236_237.1 _; (with_reducible repeat (first | refine blk_drewN ?_ _ | refine blk_drew ?_ | refine blk_alloc ?_ _)); refine blk_far ?_ NB236_237.1 _; (with_reducible repeat (first | refine blk_drewN ?_ _ | refine blk_drew ?_ | refine blk_alloc ?_ _)); refine blk_far ?_ NB236_237.1 _; (with_reducible repeat (first | refine blk_drewN ?_ _ | refine blk_drew ?_ | refine blk_alloc ?_ _)); refine blk_far ?_ NB236_237.1 _; (with_reducible repeat (first | refine blk_drewN ?_ _ | refine blk_drew ?_ | refine blk_alloc ?_ _)); refine blk_far ?_ NB236_237.1 _; (with_reducible repeat (first | refine blk_drewN ?_ _ | refine blk_drew ?_ | refine blk_alloc ?_ _)); refine blk_far ?_ NB236_237.1 _; (with_reducible repeat (first | refine blk_drewN ?_ _ | refine blk_drew ?_ | refine blk_alloc ?_ _)); refine blk_far ?_ NB236_237.1 _; (with_reducible repeat (first | refine blk_drewN ?_ _ | refine blk_drew ?_ | refine blk_alloc ?_ _)); exact BK236.1⟩, ⟨by (with_reducible repeat (first | refine blk_drewN ?_ _ | refine blk_drew ?_ | refine blk_alloc ?_ _)); refine blk_put (cs := #[.int .i64 a0_0, .int .i64 a0_1, .slice A0_2 l0_2.length c0_2, .int .i64 a0_3, .int .i64 a0_4, .int .i64 a0_5, .int .i64 a0_6, .int .i64 a0_7]) ?_ 6 _ rfl; (with_reducible repeat (first | refine blk_drewN ?_ _ | refine blk_drew ?_ | refine blk_alloc ?_ _)); refine blk_put (cs := #[.int .i64 a0_0, .int .i64 a0_1, .slice A0_2 l0_2.length c0_2, .int .i64 a0_3, .int .i64 a0_4, .int .i64 a0_5, .int .i64 a0_6, .int .i64 0]) ?_ 7 _ rfl; (with_reducible repeat (first | refine blk_drewN ?_ _ | refine blk_drew ?_ | refine blk_alloc ?_ _)); refine blk_put (cs := #[.int .i64 a0_0, .int .i64 a0_1, .slice A0_2 l0_2.length c0_2, .int .i64 a0_3, .int .i64 a0_4, .int .i64 a0_5, .int .i64 0, .int .i64 0]) ?_ 6 _ rfl; (with_reducible repeat (first | refine blk_drewN ?_ _ | refine blk_drew ?_ | refine blk_alloc ?_ _)); refine blk_put (cs := #[.int .i64 a0_0, .int .i64 a0_1, .slice A0_2 l0_2.length c0_2, .int .i64 a0_3, .int .i64 a0_4, .int .i64 0, .int .i64 0, .int .i64 0]) ?_ 5 _ rfl; (with_reducible repeat (first | refine blk_drewN ?_ _ | refine blk_drew ?_ | refine blk_alloc ?_ _)); refine blk_put (cs := #[.int .i64 a0_0, .int .i64 a0_1, .slice A0_2 l0_2.length c0_2, .int .i64 a0_3, .int .i64 0, .int .i64 0, .int .i64 0, .int .i64 0]) ?_ 4 _ rfl; (with_reducible repeat (first | refine blk_drewN ?_ _ | refine blk_drew ?_ | refine blk_alloc ?_ _)); refine blk_put (cs := #[.int .i64 a0_0, .int .i64 a0_1, .slice A0_2 l0_2.length c0_2, .int .i64 0, .int .i64 0, .int .i64 0, .int .i64 0, .int .i64 0]) ?_ 3 _ rfl; (with_reducible repeat (first | refine blk_drewN ?_ _ | refine blk_drew ?_ | refine blk_alloc ?_ _)); refine blk_put (cs := #[.int .i64 a0_0, .int .i64 a0_1, .slice none 0 0, .int .i64 0, .int .i64 0, .int .i64 0, .int .i64 0, .int .i64 0]) ?_ 2 _ rfl; (with_reducible repeat (first | refine blk_drewN ?_ _ | refine blk_drew ?_ | refine blk_alloc ?_ _)); refine blk_put (cs := #[.int .i64 a0_0, .int .i64 0, .slice none 0 0, .int .i64 0, .int .i64 0, .int .i64 0, .int .i64 0, .int .i64 0]) ?_ 1 _ rfl; (with_reducible repeat (first | refine blk_drewN ?_ _ | refine blk_drew ?_ | refine blk_alloc ?_ _)); refine blk_put (cs := #[.int .i64 0, .int .i64 0, .slice none 0 0, .int .i64 0, .int .i64 0, .int .i64 0, .int .i64 0, .int .i64 0]) ?_ 0 _ rfl; (with_reducible repeat (first | refine blk_drewN ?_ _ | refine blk_drew ?_ | refine blk_alloc ?_ _)); exact BK237.1⟩, ⟨BL HB.1⟩⟩
 clear hcz13_0 hcz13_1 hcz13_2 hcz13_3 hcz13_4 hcz13_5 hcz13_6 hcz13_7 hcz14_0 hcz14_1 hcz14_2 hcz14_3 hcz14_4 hcz14_5 hcz14_6 hcz14_7 hcz8_0 hcz8_1 hcz8_2 hcz8_3 hcz8_4 hcz8_5 hcz8_6 hcz8_7 hfz13_0 hfz13_1 hfz13_2 hfz13_3 hfz13_4 hfz13_5 hfz13_6 hfz13_7 hfz14_0 hfz14_1 hfz14_2 hfz14_3 hfz14_4 hfz14_5 hfz14_6 hfz14_7 hfz8_0 hfz8_1 hfz8_2 hfz8_3 hfz8_4 hfz8_5 hfz8_6 hfz8_7
 obtain ⟨x, x5, x6, rfl, EX, EY5, EY6, BK234, BK235, BK236, BK237, HB⟩ := hcut
 rw [<- EX.1] at A28
 obtain rfl : x5 = r6 := EY5.1.trans H5.1
 obtain rfl : x6 = r7 := EY6.1.trans H6.1
 obtain ⟨yac0, yac1, yac2, yac3, yac4, yac5, yac6, yac7, yaf0, yaf1, yaf2, yaf3, yaf4, yaf5, yaf6, yaf7⟩ := cz8 BK234.1
 go_upto_if 36 with (first
  | ((with_reducible refine gate_callee (f := 63) rfl ?_); refine goesM (N := (some 28)) #[.agg #[.int .i64 a0_0, .int .i64 a0_1, .slice A0_2 l0_2.length c0_2], .int .i64 x] Try.func63 ?_; (with_reducible refine (spec_flRun.calls k a0_0 a0_1 _ _ l0_2 x e1 e2 e3 t1 t2 t3 _ ?side1 ?side2 A28.1).mono ?_); (case side1 => exact CB (C_below HR0_2.1 HB.1)); (case side2 => exact HC0_2.1); rintro e w34 ⟨v244, rfl, ho0, hb⟩; refine ⟨_, rfl, ?_⟩; refine E6 (R_lower ho0 (bZ HB.1)) (bB BK234.1 hb) (bB BK235.1 hb) (bB BK236.1 hb) (bB BK237.1 hb) (bS HB.1 hb) ?_; clear BK234 BK235 BK236 BK237 HB; intro HO245 BK234 BK235 BK236 BK237 HB; clear yac0 yac1 yac2 yac3 yac4 yac5 yac6 yac7 yaf0 yaf1 yaf2 yaf3 yaf4 yaf5 yaf6 yaf7; obtain ⟨Ao, co, eo⟩ := R_slice HO245.1; subst eo; (try clear hb); (try clear ho0))
  | ((with_reducible refine gate_dst (N := 6) rfl ?_); refine boxE (cs := #[.int .i64 0, .int .i64 0, .int .i64 0]) (t := 61) ?_; intro ge hg w35 hbox hb; refine E6 (rB HO245.1 hb) (bB BK234.1 hb) (bB BK235.1 hb) (bB BK236.1 hb) (bB BK237.1 hb) (bS HB.1 hb) ?_; have BKe := Aside0.mk hbox; have GEe := Aside0.mk (hg ▸ HB.1.size : w.heap.size <= ge); have N2e := Aside0.mk (nB BK234.1 hg); have N3e := Aside0.mk (nB BK235.1 hg); have N4e := Aside0.mk (nB BK236.1 hg); have N7e := Aside0.mk (nB BK237.1 hg); have Ned := Aside0.mk (nB BK237.1 hg).symm; clear HO245 BK234 BK235 BK236 BK237 HB; intro HO245 BK234 BK235 BK236 BK237 HB; clear hb hbox hg)
  | ((with_reducible refine gate_dst (N := 7) rfl ?_); refine boxE (cs := #[.int .i64 0, .int .i64 0, .slice none 0 0]) (t := 33) ?_; intro gf hg w36 hbox hb; have GEf := Aside0.mk (hg ▸ HB.1.size : w.heap.size <= gf); have N2f := Aside0.mk (nB BK234.1 hg); have N3f := Aside0.mk (nB BK235.1 hg); have N4f := Aside0.mk (nB BK236.1 hg); have N7f := Aside0.mk (nB BK237.1 hg); have Nef := Aside0.mk (nB BKe.1 hg); have Nfd := Aside0.mk (nB BK237.1 hg).symm; have Nfe := Aside0.mk (nB BKe.1 hg).symm; have MS : Aside0 (MSt w w36 (.slice Ao t3.length co) t3 gb234 gb235 gb236 gb237 ge gf #[.int .i64 a0_0, .int .i64 a0_1, .slice A0_2 l0_2.length c0_2, .int .i64 a0_3, .int .i64 a0_4, .int .i64 a0_5, .int .i64 a0_6, .int .i64 a0_7] #[.int .i64 0, .int .i64 0, .slice none 0 0, .int .i64 0, .int .i64 0, .int .i64 0, .int .i64 0, .int .i64 0] #[.int .i64 0, .int .i64 0, .int .i64 0] #[.int .i64 a0_0, .int .i64 a0_1, .slice A0_2 l0_2.length c0_2, .int .i64 a0_3, .int .i64 a0_4, .int .i64 x5, .int .i64 x6, .int .i64 a0_7] #[.int .i64 0, .int .i64 0, .int .i64 0] #[.int .i64 0, .int .i64 0, .slice none 0 0]) := ⟨R_below HO245.1 hb, blk_below BK234.1 hb, blk_below BK235.1 hb, blk_below BK236.1 hb, blk_below BK237.1 hb, blk_below BKe.1 hb, hbox, bS HB.1 hb⟩; clear HO245 BK234 BK235 BK236 BK237 BKe HB hb hbox hg; obtain ⟨ydc0, ydc1, ydc2, ydc3, ydc4, ydc5, ydc6, ydc7, ydf0, ydf1, ydf2, ydf3, ydf4, ydf5, ydf6, ydf7⟩ := cz8 MS.1.2.2.2.2.1; obtain ⟨yec0, yec1, yec2, yef0, yef1, yef2⟩ := cz3 MS.1.2.2.2.2.2.1; obtain ⟨yfc0, yfc1, yfc2, yff0, yff1, yff2⟩ := cz3 MS.1.2.2.2.2.2.2.1; obtain ⟨yac0, yac1, yac2, yac3, yac4, yac5, yac6, yac7, yaf0, yaf1, yaf2, yaf3, yaf4, yaf5, yaf6, yaf7⟩ := cz8 MS.1.2.1)
  | ((with_reducible refine gate_store (t := 61) (p := 6) rfl ?_); refine storeE (t := 61) (p := 6) (w1 := (((w36.setCell ⟨ge, 0, none⟩ (.int .i64 e1)).setCell ⟨ge, 1, none⟩ (.int .i64 e2)).setCell ⟨ge, 2, none⟩ (.int .i64 e3))) ?_; intro w37 hw; have n0_ := Aside0.mk (((MS.1.setE N2e.1 N3e.1 N4e.1 N7e.1 Nfe.1 GEe.1 0 (.int .i64 e1) (D' := #[.int .i64 e1, .int .i64 0, .int .i64 0]) rfl).setE N2e.1 N3e.1 N4e.1 N7e.1 Nfe.1 GEe.1 1 (.int .i64 e2) (D' := #[.int .i64 e1, .int .i64 e2, .int .i64 0]) rfl).setE N2e.1 N3e.1 N4e.1 N7e.1 Nfe.1 GEe.1 2 (.int .i64 e3) (D' := #[.int .i64 e1, .int .i64 e2, .int .i64 e3]) rfl); rw [<- hw] at n0_; clear MS hw; clear ydc0 ydc1 ydc2 ydc3 ydc4 ydc5 ydc6 ydc7 ydf0 ydf1 ydf2 ydf3 ydf4 ydf5 ydf6 ydf7 yec0 yec1 yec2 yef0 yef1 yef2 yfc0 yfc1 yfc2 yff0 yff1 yff2 yac0 yac1 yac2 yac3 yac4 yac5 yac6 yac7 yaf0 yaf1 yaf2 yaf3 yaf4 yaf5 yaf6 yaf7; have MS := n0_; clear n0_; obtain ⟨ydc0, ydc1, ydc2, ydc3, ydc4, ydc5, ydc6, ydc7, ydf0, ydf1, ydf2, ydf3, ydf4, ydf5, ydf6, ydf7⟩ := cz8 MS.1.2.2.2.2.1; obtain ⟨yec0, yec1, yec2, yef0, yef1, yef2⟩ := cz3 MS.1.2.2.2.2.2.1; obtain ⟨yfc0, yfc1, yfc2, yff0, yff1, yff2⟩ := cz3 MS.1.2.2.2.2.2.2.1; obtain ⟨yac0, yac1, yac2, yac3, yac4, yac5, yac6, yac7, yaf0, yaf1, yaf2, yaf3, yaf4, yaf5, yaf6, yaf7⟩ := cz8 MS.1.2.1)
  | ((with_reducible refine gate_store (t := 33) (p := 7) rfl ?_); refine storeE (t := 33) (p := 7) (w1 := (((w37.setCell ⟨gf, 0, none⟩ (.int .i64 t1)).setCell ⟨gf, 1, none⟩ (.int .i64 t2)).setCell ⟨gf, 2, none⟩ (.slice Ao t3.length co))) ?_; intro w38 hw; have n0_ := Aside0.mk (((MS.1.setF N2f.1 N3f.1 N4f.1 N7f.1 Nef.1 GEf.1 0 (.int .i64 t1) (D' := #[.int .i64 t1, .int .i64 0, .slice none 0 0]) rfl).setF N2f.1 N3f.1 N4f.1 N7f.1 Nef.1 GEf.1 1 (.int .i64 t2) (D' := #[.int .i64 t1, .int .i64 t2, .slice none 0 0]) rfl).setF N2f.1 N3f.1 N4f.1 N7f.1 Nef.1 GEf.1 2 (.slice Ao t3.length co) (D' := #[.int .i64 t1, .int .i64 t2, .slice Ao t3.length co]) rfl); rw [<- hw] at n0_; clear MS hw; clear ydc0 ydc1 ydc2 ydc3 ydc4 ydc5 ydc6 ydc7 ydf0 ydf1 ydf2 ydf3 ydf4 ydf5 ydf6 ydf7 yec0 yec1 yec2 yef0 yef1 yef2 yfc0 yfc1 yfc2 yff0 yff1 yff2 yac0 yac1 yac2 yac3 yac4 yac5 yac6 yac7 yaf0 yaf1 yaf2 yaf3 yaf4 yaf5 yaf6 yaf7; have MS := n0_; clear n0_; obtain ⟨ydc0, ydc1, ydc2, ydc3, ydc4, ydc5, ydc6, ydc7, ydf0, ydf1, ydf2, ydf3, ydf4, ydf5, ydf6, ydf7⟩ := cz8 MS.1.2.2.2.2.1; obtain ⟨yec0, yec1, yec2, yef0, yef1, yef2⟩ := cz3 MS.1.2.2.2.2.2.1; obtain ⟨yfc0, yfc1, yfc2, yff0, yff1, yff2⟩ := cz3 MS.1.2.2.2.2.2.2.1; obtain ⟨yac0, yac1, yac2, yac3, yac4, yac5, yac6, yac7, yaf0, yaf1, yaf2, yaf3, yaf4, yaf5, yaf6, yaf7⟩ := cz8 MS.1.2.1)
  | ((with_reducible refine gate_store (t := 33) (p := 32) rfl ?_); refine storeE (t := 33) (p := 32) (w1 := (((w38.setCell ⟨gb237, 0, none⟩ (.int .i64 t1)).setCell ⟨gb237, 1, none⟩ (.int .i64 t2)).setCell ⟨gb237, 2, none⟩ (.slice Ao t3.length co))) ?_; intro w39 hw; have n0_ := Aside0.mk (((MS.1.setD NB234_237.1 NB235_237.1 NB236_237.1 Ned.1 Nfd.1 GE237.1 0 (.int .i64 t1) (D' := #[.int .i64 t1, .int .i64 a0_1, .slice A0_2 l0_2.length c0_2, .int .i64 a0_3, .int .i64 a0_4, .int .i64 x5, .int .i64 x6, .int .i64 a0_7]) rfl).setD NB234_237.1 NB235_237.1 NB236_237.1 Ned.1 Nfd.1 GE237.1 1 (.int .i64 t2) (D' := #[.int .i64 t1, .int .i64 t2, .slice A0_2 l0_2.length c0_2, .int .i64 a0_3, .int .i64 a0_4, .int .i64 x5, .int .i64 x6, .int .i64 a0_7]) rfl).setD NB234_237.1 NB235_237.1 NB236_237.1 Ned.1 Nfd.1 GE237.1 2 (.slice Ao t3.length co) (D' := #[.int .i64 t1, .int .i64 t2, .slice Ao t3.length co, .int .i64 a0_3, .int .i64 a0_4, .int .i64 x5, .int .i64 x6, .int .i64 a0_7]) rfl); rw [<- hw] at n0_; clear MS hw; clear ydc0 ydc1 ydc2 ydc3 ydc4 ydc5 ydc6 ydc7 ydf0 ydf1 ydf2 ydf3 ydf4 ydf5 ydf6 ydf7 yec0 yec1 yec2 yef0 yef1 yef2 yfc0 yfc1 yfc2 yff0 yff1 yff2 yac0 yac1 yac2 yac3 yac4 yac5 yac6 yac7 yaf0 yaf1 yaf2 yaf3 yaf4 yaf5 yaf6 yaf7; have MS := n0_; clear n0_; obtain ⟨ydc0, ydc1, ydc2, ydc3, ydc4, ydc5, ydc6, ydc7, ydf0, ydf1, ydf2, ydf3, ydf4, ydf5, ydf6, ydf7⟩ := cz8 MS.1.2.2.2.2.1; obtain ⟨yec0, yec1, yec2, yef0, yef1, yef2⟩ := cz3 MS.1.2.2.2.2.2.1; obtain ⟨yfc0, yfc1, yfc2, yff0, yff1, yff2⟩ := cz3 MS.1.2.2.2.2.2.2.1; obtain ⟨yac0, yac1, yac2, yac3, yac4, yac5, yac6, yac7, yaf0, yaf1, yaf2, yaf3, yaf4, yaf5, yaf6, yaf7⟩ := cz8 MS.1.2.1)
  | ((with_reducible refine gate_store (t := 3) (p := 33) rfl ?_); refine storeE (t := 3) (p := 33) (w1 := (w39.setCell ⟨gb237, 7, none⟩ (.int .i64 2))) ?_; intro w40 hw; have n0_ := Aside0.mk (MS.1.setD NB234_237.1 NB235_237.1 NB236_237.1 Ned.1 Nfd.1 GE237.1 7 (.int .i64 2) (D' := #[.int .i64 t1, .int .i64 t2, .slice Ao t3.length co, .int .i64 a0_3, .int .i64 a0_4, .int .i64 x5, .int .i64 x6, .int .i64 2]) rfl); rw [<- hw] at n0_; clear MS hw; clear ydc0 ydc1 ydc2 ydc3 ydc4 ydc5 ydc6 ydc7 ydf0 ydf1 ydf2 ydf3 ydf4 ydf5 ydf6 ydf7 yec0 yec1 yec2 yef0 yef1 yef2 yfc0 yfc1 yfc2 yff0 yff1 yff2 yac0 yac1 yac2 yac3 yac4 yac5 yac6 yac7 yaf0 yaf1 yaf2 yaf3 yaf4 yaf5 yaf6 yaf7; have MS := n0_; clear n0_; obtain ⟨ydc0, ydc1, ydc2, ydc3, ydc4, ydc5, ydc6, ydc7, ydf0, ydf1, ydf2, ydf3, ydf4, ydf5, ydf6, ydf7⟩ := cz8 MS.1.2.2.2.2.1; obtain ⟨yec0, yec1, yec2, yef0, yef1, yef2⟩ := cz3 MS.1.2.2.2.2.2.1; obtain ⟨yfc0, yfc1, yfc2, yff0, yff1, yff2⟩ := cz3 MS.1.2.2.2.2.2.2.1; obtain ⟨yac0, yac1, yac2, yac3, yac4, yac5, yac6, yac7, yaf0, yaf1, yaf2, yaf3, yaf4, yaf5, yaf6, yaf7⟩ := cz8 MS.1.2.1))
 (try simp only [Act.put, List.setIfInBounds_toArray, List.set_cons_zero, List.set_cons_succ])
 go_cut [] (fun wc => Aside0 (MSt w wc (.slice Ao t3.length co) t3 gb234 gb235 gb236 gb237 ge gf #[.int .i64 a0_0, .int .i64 a0_1, .slice A0_2 l0_2.length c0_2, .int .i64 a0_3, .int .i64 a0_4, .int .i64 a0_5, .int .i64 a0_6, .int .i64 a0_7] #[.int .i64 0, .int .i64 0, .slice none 0 0, .int .i64 0, .int .i64 0, .int .i64 0, .int .i64 0, .int .i64 0] #[.int .i64 0, .int .i64 0, .int .i64 0] #[.int .i64 t1, .int .i64 t2, .slice Ao t3.length co, .int .i64 a0_3, .int .i64 a0_4, .int .i64 x5, .int .i64 x6, .int .i64 (mNxt e1 e3 a0_1)] #[.int .i64 e1, .int .i64 e2, .int .i64 e3] #[.int .i64 t1, .int .i64 t2, .slice Ao t3.length co]))
 case first =>
  by_cases h1 : e1 = 1
  · by_cases h2 : wrap64 (2 * e3) < a0_1
    · have HH := Aside0.mk (show mNxt e1 e3 a0_1 = 0 by unfold mNxt; rw [if_pos h1, if_pos h2])
      have c1 := beq_iff_eq.mpr h1
      have c2 := bne_eq_false_iff_eq.mpr h1
      have c3 := decide_eq_true h2
      clear h1 h2
      (first | rw [c1] | (simp only [i64_w, i32_w]; rw [c1]) | skip)
      go_wp2_with (first
       | ((with_reducible refine gate_store (t := 3) (p := 37) rfl ?_); refine storeE (t := 3) (p := 37) (w1 := (w40.setCell ⟨gb237, 7, none⟩ (.int .i64 1))) ?_; intro w41 hw; have n0_ := Aside0.mk (MS.1.setD NB234_237.1 NB235_237.1 NB236_237.1 Ned.1 Nfd.1 GE237.1 7 (.int .i64 1) (D' := #[.int .i64 t1, .int .i64 t2, .slice Ao t3.length co, .int .i64 a0_3, .int .i64 a0_4, .int .i64 x5, .int .i64 x6, .int .i64 1]) rfl); rw [<- hw] at n0_; clear MS hw; clear ydc0 ydc1 ydc2 ydc3 ydc4 ydc5 ydc6 ydc7 ydf0 ydf1 ydf2 ydf3 ydf4 ydf5 ydf6 ydf7 yec0 yec1 yec2 yef0 yef1 yef2 yfc0 yfc1 yfc2 yff0 yff1 yff2 yac0 yac1 yac2 yac3 yac4 yac5 yac6 yac7 yaf0 yaf1 yaf2 yaf3 yaf4 yaf5 yaf6 yaf7; have MS := n0_; clear n0_; obtain ⟨ydc0, ydc1, ydc2, ydc3, ydc4, ydc5, ydc6, ydc7, ydf0, ydf1, ydf2, ydf3, ydf4, ydf5, ydf6, ydf7⟩ := cz8 MS.1.2.2.2.2.1; obtain ⟨yec0, yec1, yec2, yef0, yef1, yef2⟩ := cz3 MS.1.2.2.2.2.2.1; obtain ⟨yfc0, yfc1, yfc2, yff0, yff1, yff2⟩ := cz3 MS.1.2.2.2.2.2.2.1; obtain ⟨yac0, yac1, yac2, yac3, yac4, yac5, yac6, yac7, yaf0, yaf1, yaf2, yaf3, yaf4, yaf5, yaf6, yaf7⟩ := cz8 MS.1.2.1)
       | ((with_reducible refine gate_store (t := 3) (p := 45) rfl ?_); refine storeE (t := 3) (p := 45) (w1 := (w41.setCell ⟨gb237, 7, none⟩ (.int .i64 0))) ?_; intro w42 hw; have n0_ := Aside0.mk (MS.1.setD NB234_237.1 NB235_237.1 NB236_237.1 Ned.1 Nfd.1 GE237.1 7 (.int .i64 0) (D' := #[.int .i64 t1, .int .i64 t2, .slice Ao t3.length co, .int .i64 a0_3, .int .i64 a0_4, .int .i64 x5, .int .i64 x6, .int .i64 0]) rfl); rw [<- hw] at n0_; clear MS hw; clear ydc0 ydc1 ydc2 ydc3 ydc4 ydc5 ydc6 ydc7 ydf0 ydf1 ydf2 ydf3 ydf4 ydf5 ydf6 ydf7 yec0 yec1 yec2 yef0 yef1 yef2 yfc0 yfc1 yfc2 yff0 yff1 yff2 yac0 yac1 yac2 yac3 yac4 yac5 yac6 yac7 yaf0 yaf1 yaf2 yaf3 yaf4 yaf5 yaf6 yaf7; have MS := n0_; clear n0_; obtain ⟨ydc0, ydc1, ydc2, ydc3, ydc4, ydc5, ydc6, ydc7, ydf0, ydf1, ydf2, ydf3, ydf4, ydf5, ydf6, ydf7⟩ := cz8 MS.1.2.2.2.2.1; obtain ⟨yec0, yec1, yec2, yef0, yef1, yef2⟩ := cz3 MS.1.2.2.2.2.2.1; obtain ⟨yfc0, yfc1, yfc2, yff0, yff1, yff2⟩ := cz3 MS.1.2.2.2.2.2.2.1; obtain ⟨yac0, yac1, yac2, yac3, yac4, yac5, yac6, yac7, yaf0, yaf1, yaf2, yaf3, yaf4, yaf5, yaf6, yaf7⟩ := cz8 MS.1.2.1))
      go_meet
      case rel => exact ⟨by rw [HH.1]; exact MS.1⟩
    · have HH := Aside0.mk (show mNxt e1 e3 a0_1 = 1 by unfold mNxt; rw [if_pos h1, if_neg h2])
      have c1 := beq_iff_eq.mpr h1
      have c2 := bne_eq_false_iff_eq.mpr h1
      have c3 := decide_eq_false h2
      clear h1 h2
      (first | rw [c1] | (simp only [i64_w, i32_w]; rw [c1]) | skip)
      go_wp2_with (first
       | ((with_reducible refine gate_store (t := 3) (p := 37) rfl ?_); refine storeE (t := 3) (p := 37) (w1 := (w40.setCell ⟨gb237, 7, none⟩ (.int .i64 1))) ?_; intro w41 hw; have n0_ := Aside0.mk (MS.1.setD NB234_237.1 NB235_237.1 NB236_237.1 Ned.1 Nfd.1 GE237.1 7 (.int .i64 1) (D' := #[.int .i64 t1, .int .i64 t2, .slice Ao t3.length co, .int .i64 a0_3, .int .i64 a0_4, .int .i64 x5, .int .i64 x6, .int .i64 1]) rfl); rw [<- hw] at n0_; clear MS hw; clear ydc0 ydc1 ydc2 ydc3 ydc4 ydc5 ydc6 ydc7 ydf0 ydf1 ydf2 ydf3 ydf4 ydf5 ydf6 ydf7 yec0 yec1 yec2 yef0 yef1 yef2 yfc0 yfc1 yfc2 yff0 yff1 yff2 yac0 yac1 yac2 yac3 yac4 yac5 yac6 yac7 yaf0 yaf1 yaf2 yaf3 yaf4 yaf5 yaf6 yaf7; have MS := n0_; clear n0_; obtain ⟨ydc0, ydc1, ydc2, ydc3, ydc4, ydc5, ydc6, ydc7, ydf0, ydf1, ydf2, ydf3, ydf4, ydf5, ydf6, ydf7⟩ := cz8 MS.1.2.2.2.2.1; obtain ⟨yec0, yec1, yec2, yef0, yef1, yef2⟩ := cz3 MS.1.2.2.2.2.2.1; obtain ⟨yfc0, yfc1, yfc2, yff0, yff1, yff2⟩ := cz3 MS.1.2.2.2.2.2.2.1; obtain ⟨yac0, yac1, yac2, yac3, yac4, yac5, yac6, yac7, yaf0, yaf1, yaf2, yaf3, yaf4, yaf5, yaf6, yaf7⟩ := cz8 MS.1.2.1))
      go_meet
      case rel => exact ⟨by rw [HH.1]; exact MS.1⟩
  · have HH := Aside0.mk (show mNxt e1 e3 a0_1 = 2 by unfold mNxt; rw [if_neg h1])
    have c1 := beq_eq_false_iff_ne.mpr h1
    have c2 := bne_iff_ne.mpr h1
    clear h1
    (first | rw [c1] | (simp only [i64_w, i32_w]; rw [c1]) | skip)
    go_wp2
    go_meet
    case rel => exact ⟨by rw [HH.1]; exact MS.1⟩
 clear MS
 clear ydc0 ydc1 ydc2 ydc3 ydc4 ydc5 ydc6 ydc7 ydf0 ydf1 ydf2 ydf3 ydf4 ydf5 ydf6 ydf7 yec0 yec1 yec2 yef0 yef1 yef2 yfc0 yfc1 yfc2 yff0 yff1 yff2 yac0 yac1 yac2 yac3 yac4 yac5 yac6 yac7 yaf0 yaf1 yaf2 yaf3 yaf4 yaf5 yaf6 yaf7
 have MS := hcut
 clear hcut
 rw [H7.1] at MS
 go_wp2_with fail
 replace MS := Aside0.mk MS.1.drew
 refine start_ (n := 4) (S := fun w' => w'.cell? ⟨gb237, 0, none⟩ = some (.int .i64 t1) /\ w'.cell? ⟨gb237, 1, none⟩ = some (.int .i64 t2) /\ w'.cell? ⟨gb237, 2, none⟩ = some (.slice Ao t3.length co) /\ w'.cell? ⟨gb237, 3, none⟩ = some (.int .i64 a0_3) /\ w'.cell? ⟨gb237, 4, none⟩ = some (.int .i64 a0_4) /\ w'.cell? ⟨gb237, 5, none⟩ = some (.int .i64 x5) /\ w'.cell? ⟨gb237, 6, none⟩ = some (.int .i64 x6) /\ w'.cell? ⟨gb237, 7, none⟩ = some (.int .i64 r8) /\ w'.cell? ⟨ge, 0, none⟩ = some (.int .i64 e1) /\ w'.cell? ⟨ge, 1, none⟩ = some (.int .i64 e2) /\ w'.cell? ⟨ge, 2, none⟩ = some (.int .i64 e3)) (ds := []) #[Zz,Zz,Zz,Zz] (by kernel_rfl) rfl rfl ⟨(blk_cell MS.1.2.2.2.2.1 0).trans rfl, (blk_cell MS.1.2.2.2.2.1 1).trans rfl, (blk_cell MS.1.2.2.2.2.1 2).trans rfl, (blk_cell MS.1.2.2.2.2.1 3).trans rfl, (blk_cell MS.1.2.2.2.2.1 4).trans rfl, (blk_cell MS.1.2.2.2.2.1 5).trans rfl, (blk_cell MS.1.2.2.2.2.1 6).trans rfl, (blk_cell MS.1.2.2.2.2.1 7).trans rfl, (blk_cell MS.1.2.2.2.2.2.1 0).trans rfl, (blk_cell MS.1.2.2.2.2.2.1 1).trans rfl, (blk_cell MS.1.2.2.2.2.2.1 2).trans rfl⟩ (fun hHeld => ?_)
 generalize wc.drew = w54 at MS hHeld ⊢
 refine takeF 0 (N := some 46) hHeld ?_
 refine takeF 1 (N := some 47) hHeld ?_
 refine one_ (i := 2) (N := none) #[Yy,Yy,Yy,Zz] rfl rfl (by kernel_rfl) (by decide) (fun K hK => ?_)
 obtain ⟨ybc0, ybc1, ybc2, ybc3, ybc4, ybc5, ybc6, ybc7, ybf0, ybf1, ybf2, ybf3, ybf4, ybf5, ybf6, ybf7⟩ := cz8 MS.1.2.2.1
 refine skip_ (w1 := ?_) (by rfl) rfl ?_ ?_
 rotate_left
 · go_simp
   rfl
 have n0_ := Aside0.mk (((((((((MS.1).setB NB234_235.1 NB236_235.1 NB237_235.1 N3e.1.symm N3f.1.symm GE235.1 0 (.int .i64 t1) (D' := #[.int .i64 t1, .int .i64 0, .slice none 0 0, .int .i64 0, .int .i64 0, .int .i64 0, .int .i64 0, .int .i64 0]) rfl).setB NB234_235.1 NB236_235.1 NB237_235.1 N3e.1.symm N3f.1.symm GE235.1 1 (.int .i64 t2) (D' := #[.int .i64 t1, .int .i64 t2, .slice none 0 0, .int .i64 0, .int .i64 0, .int .i64 0, .int .i64 0, .int .i64 0]) rfl).setB NB234_235.1 NB236_235.1 NB237_235.1 N3e.1.symm N3f.1.symm GE235.1 2 (.slice Ao t3.length co) (D' := #[.int .i64 t1, .int .i64 t2, .slice Ao t3.length co, .int .i64 0, .int .i64 0, .int .i64 0, .int .i64 0, .int .i64 0]) rfl).setB NB234_235.1 NB236_235.1 NB237_235.1 N3e.1.symm N3f.1.symm GE235.1 3 (.int .i64 a0_3) (D' := #[.int .i64 t1, .int .i64 t2, .slice Ao t3.length co, .int .i64 a0_3, .int .i64 0, .int .i64 0, .int .i64 0, .int .i64 0]) rfl).setB NB234_235.1 NB236_235.1 NB237_235.1 N3e.1.symm N3f.1.symm GE235.1 4 (.int .i64 a0_4) (D' := #[.int .i64 t1, .int .i64 t2, .slice Ao t3.length co, .int .i64 a0_3, .int .i64 a0_4, .int .i64 0, .int .i64 0, .int .i64 0]) rfl).setB NB234_235.1 NB236_235.1 NB237_235.1 N3e.1.symm N3f.1.symm GE235.1 5 (.int .i64 x5) (D' := #[.int .i64 t1, .int .i64 t2, .slice Ao t3.length co, .int .i64 a0_3, .int .i64 a0_4, .int .i64 x5, .int .i64 0, .int .i64 0]) rfl).setB NB234_235.1 NB236_235.1 NB237_235.1 N3e.1.symm N3f.1.symm GE235.1 6 (.int .i64 x6) (D' := #[.int .i64 t1, .int .i64 t2, .slice Ao t3.length co, .int .i64 a0_3, .int .i64 a0_4, .int .i64 x5, .int .i64 x6, .int .i64 0]) rfl).setB NB234_235.1 NB236_235.1 NB237_235.1 N3e.1.symm N3f.1.symm GE235.1 7 (.int .i64 r8) (D' := #[.int .i64 t1, .int .i64 t2, .slice Ao t3.length co, .int .i64 a0_3, .int .i64 a0_4, .int .i64 x5, .int .i64 x6, .int .i64 r8]) rfl)
 refine hK.out _ _ ⟨(blk_cell n0_.1.2.2.2.2.1 0).trans rfl, (blk_cell n0_.1.2.2.2.2.1 1).trans rfl, (blk_cell n0_.1.2.2.2.2.1 2).trans rfl, (blk_cell n0_.1.2.2.2.2.1 3).trans rfl, (blk_cell n0_.1.2.2.2.2.1 4).trans rfl, (blk_cell n0_.1.2.2.2.2.1 5).trans rfl, (blk_cell n0_.1.2.2.2.2.1 6).trans rfl, (blk_cell n0_.1.2.2.2.2.1 7).trans rfl, (blk_cell n0_.1.2.2.2.2.2.1 0).trans rfl, (blk_cell n0_.1.2.2.2.2.2.1 1).trans rfl, (blk_cell n0_.1.2.2.2.2.2.1 2).trans rfl⟩ (fun hHeld => ?_)
 clear hK K MS ybc0 ybc1 ybc2 ybc3 ybc4 ybc5 ybc6 ybc7 ybf0 ybf1 ybf2 ybf3 ybf4 ybf5 ybf6 ybf7
 have MS := n0_
 clear n0_
 generalize ((((((((w54.setCell ⟨gb235, 0, none⟩ (.int .i64 t1)).setCell ⟨gb235, 1, none⟩ (.int .i64 t2)).setCell ⟨gb235, 2, none⟩ (.slice Ao t3.length co)).setCell ⟨gb235, 3, none⟩ (.int .i64 a0_3)).setCell ⟨gb235, 4, none⟩ (.int .i64 a0_4)).setCell ⟨gb235, 5, none⟩ (.int .i64 x5)).setCell ⟨gb235, 6, none⟩ (.int .i64 x6)).setCell ⟨gb235, 7, none⟩ (.int .i64 r8)) = w55 at MS hHeld ⊢
 refine one_ (i := 3) (N := none) #[Yy,Yy,Yy,Yy] rfl rfl (by kernel_rfl) (by decide) (fun K hK => ?_)
 obtain ⟨ycc0, ycc1, ycc2, ycf0, ycf1, ycf2⟩ := cz3 MS.1.2.2.2.1
 refine skip_ (w1 := ?_) (by rfl) rfl ?_ ?_
 rotate_left
 · go_simp
   rfl
 have n0_ := Aside0.mk ((((MS.1).setC NB234_236.1 NB235_236.1 NB237_236.1 N4e.1.symm N4f.1.symm GE236.1 0 (.int .i64 e1) (D' := #[.int .i64 e1, .int .i64 0, .int .i64 0]) rfl).setC NB234_236.1 NB235_236.1 NB237_236.1 N4e.1.symm N4f.1.symm GE236.1 1 (.int .i64 e2) (D' := #[.int .i64 e1, .int .i64 e2, .int .i64 0]) rfl).setC NB234_236.1 NB235_236.1 NB237_236.1 N4e.1.symm N4f.1.symm GE236.1 2 (.int .i64 e3) (D' := #[.int .i64 e1, .int .i64 e2, .int .i64 e3]) rfl)
 refine hK.out _ _ ⟨(blk_cell n0_.1.2.2.2.2.1 0).trans rfl, (blk_cell n0_.1.2.2.2.2.1 1).trans rfl, (blk_cell n0_.1.2.2.2.2.1 2).trans rfl, (blk_cell n0_.1.2.2.2.2.1 3).trans rfl, (blk_cell n0_.1.2.2.2.2.1 4).trans rfl, (blk_cell n0_.1.2.2.2.2.1 5).trans rfl, (blk_cell n0_.1.2.2.2.2.1 6).trans rfl, (blk_cell n0_.1.2.2.2.2.1 7).trans rfl, (blk_cell n0_.1.2.2.2.2.2.1 0).trans rfl, (blk_cell n0_.1.2.2.2.2.2.1 1).trans rfl, (blk_cell n0_.1.2.2.2.2.2.1 2).trans rfl⟩ (fun hHeld => ?_)
 clear hK K MS ycc0 ycc1 ycc2 ycf0 ycf1 ycf2
 have MS := n0_
 clear n0_
 refine done_ (by kernel_rfl) ?_
 try go_wp2
 refine bodyPost_ret (results_cc rfl _ _ gb235 gb236 35 61 #[.int .i64 t1, .int .i64 t2, .slice Ao t3.length co, .int .i64 a0_3, .int .i64 a0_4, .int .i64 x5, .int .i64 x6, .int .i64 r8] #[.int .i64 e1, .int .i64 e2, .int .i64 e3] (0, 0) (0, 0) _ _ rfl MS.1.2.2.1 Try.underlying35 rfl (by kernel_rfl) rfl MS.1.2.2.2.1 Try.underlying61 rfl (by kernel_rfl)) rfl ?_
 exact ⟨_, rfl, MS.1.1, MS.1.2.2.2.2.2.2.2⟩

/-! ### spec_maRun: function 30 -/
open Kd
def spec_maRun.l0 : Nat -> Int -> List Int -> List (S61) -> Int -> Int -> List (S98) -> Int -> Int -> Int -> Int -> Int -> Option (Int × Int × (List (S98)) × Int × Int × Int × Int × Int × List Int × (List (S61)))
 | 0, _, _, _, _, _, _, _, _, _, _, _ => none
 | k + 1, x1, x7, x8, x235000, x235001, x235002, x235003, x235004, x235005, x235006, x235007 => if (x8.length : Int) < x1 then ((spec_maCan.f x235000 x235001 x235002 x235003 x235004 x235005 x235006 x235007).bind fun t241 => (if t241 = true then (if x7.length < 17592186044416 then ((spec_maStep.f k x235000 x235001 x235002 x235003 x235004 x235005 x235006 x235007).bind fun bt245 => (if x8.length < 5864062014805 then (spec_maRun.l0 k x1 (x7 ++ [x235007]) (x8 ++ [(⟨bt245.2.2.2.2.2.2.2.2.1, bt245.2.2.2.2.2.2.2.2.2.1, bt245.2.2.2.2.2.2.2.2.2.2⟩ : S61)]) bt245.1 bt245.2.1 bt245.2.2.1 bt245.2.2.2.1 bt245.2.2.2.2.1 bt245.2.2.2.2.2.1 bt245.2.2.2.2.2.2.1 bt245.2.2.2.2.2.2.2.1) else (none))) else (none)) else (some (x235000, x235001, x235002, x235003, x235004, x235005, x235006, x235007, x7, x8)))) else (some (x235000, x235001, x235002, x235003, x235004, x235005, x235006, x235007, x7, x8))
def spec_maRun.f (k : Nat) (a0_0 : Int) (a0_1 : Int) (l0_2 : List (S98)) (a0_3 : Int) (a0_4 : Int) (a0_5 : Int) (a0_6 : Int) (a0_7 : Int) (a1 : Int) : Option (Int × Int × (List (S98)) × Int × Int × Int × Int × Int × List Int × (List (S61))) := (spec_boOwn.f a0_0 a0_1 l0_2).bind fun bt236 => (spec_maRun.l0 k a1 ([] : List Int) ([] : List (S61)) bt236.1 bt236.2.1 bt236.2.2 a0_3 a0_4 a0_5 a0_6 a0_7)
theorem spec_maRun.mono_l : ∀ k, (∀ y0 y1 y2 y3 y4 y5 y6 y7 y8 y9 y10, LeO (spec_maRun.l0 k y0 y1 y2 y3 y4 y5 y6 y7 y8 y9 y10) (spec_maRun.l0 (k + 1) y0 y1 y2 y3 y4 y5 y6 y7 y8 y9 y10))
 | 0 => fun _ _ _ _ _ _ _ _ _ _ _ r h => by simp [spec_maRun.l0] at h
 | k + 1 => by
  have ih0 := spec_maRun.mono_l k
  intros
  first | unfold spec_maRun.l0
  exact LM2 ih0 spec_maStep.mono
theorem spec_maRun.mono : ∀ a0 a1 a2 a3 a4 a5 a6 a7 a8 k, LeO (spec_maRun.f k a0 a1 a2 a3 a4 a5 a6 a7 a8) (spec_maRun.f (k + 1) a0 a1 a2 a3 a4 a5 a6 a7 a8) := by
 intro a0 a1 a2 a3 a4 a5 a6 a7 a8 k
 have ih0 := spec_maRun.mono_l k
 unfold spec_maRun.f
 exact LM2 ih0 spec_maStep.mono
theorem spec_maRun.calls (k : Nat) (a0_0 : Int) (a0_1 : Int) (A0_2 : Option Addr) (c0_2 : Nat) (l0_2 : List (S98)) (a0_3 : Int) (a0_4 : Int) (a0_5 : Int) (a0_6 : Int) (a0_7 : Int) (a1 : Int) (r1 : Int) (r2 : Int) (r3 : List (S98)) (r4 : Int) (r5 : Int) (r6 : Int) (r7 : Int) (r8 : Int) (r9 : List Int) (r10 : List (S61)) (w : World) (hr0_2 : Kd.C k98 w A0_2 l0_2.length l0_2) (hc0_2 : l0_2.length <= c0_2) (h : spec_maRun.f k a0_0 a0_1 l0_2 a0_3 a0_4 a0_5 a0_6 a0_7 a1 = some (r1, r2, r3, r4, r5, r6, r7, r8, r9, r10)) :
 Calls Try.prog 30 #[.agg #[.int .i64 a0_0, .int .i64 a0_1, .slice A0_2 l0_2.length c0_2, .int .i64 a0_3, .int .i64 a0_4, .int .i64 a0_5, .int .i64 a0_6, .int .i64 a0_7], .int .i64 a1] w fun e w' => ∃ v2_ v8_ v9_ : Value, e = .returned (.tuple #[.agg #[.int .i64 r1, .int .i64 r2, v2_, .int .i64 r4, .int .i64 r5, .int .i64 r6, .int .i64 r7, .int .i64 r8], v8_, v9_]) /\ Kd.R k98 98 w' w.heap.size (fun _ => True) v2_ r3 /\ Kd.R (Kd.int .i64) 3 w' w.heap.size (fun _ => True) v8_ r9 /\ Kd.R k61 61 w' w.heap.size (fun _ => True) v9_ r10 /\ Below w.heap.size w w' := by
 have hu35 := Try.underlying35
 have hu33 := Try.underlying33
 have hu61 := Try.underlying61
 have HR0_2 := Aside0.mk hr0_2
 have HC0_2 := Aside0.mk hc0_2
 clear hr0_2 hc0_2
 have HB := Aside0.mk (Below.refl w.heap.size w)
 have H := h
 clear h
 unfold spec_maRun.f at H
 replace H := bindA H; obtain ⟨⟨t236, t237, t238⟩, A3, H⟩ := H
 dsimp only at H
 have H' := Aside0.mk H
 clear H
 go_enter Try.func30, Try.ntmps30
 go_wp2_with (first | ((with_reducible refine gate_dst (N := 2) rfl ?_); refine boxE (cs := #[.int .i64 a0_0, .int .i64 a0_1, .slice A0_2 l0_2.length c0_2, .int .i64 a0_3, .int .i64 a0_4, .int .i64 a0_5, .int .i64 a0_6, .int .i64 a0_7]) (t := 35) ?_; intro gb234 hg w4 hbox hb; refine E4b HB.1 hg hbox hb ?_; clear HB; intro HB BK234 GW234 GE234; clear hb hbox hg) | ((with_reducible refine gate_dst (N := 4) rfl ?_); refine boxE (cs := #[.int .i64 0, .int .i64 0, .slice none 0 0, .int .i64 0, .int .i64 0, .int .i64 0, .int .i64 0, .int .i64 0]) (t := 35) ?_; intro gb235 hg w5 hbox hb; refine E7 (bB BK234.1 hb) (bS HB.1 hb) (hbox) (gX HB.1 hg) (gX HB.1 hg) (nB BK234.1 hg) (nC BK234.1 hg) ?_; clear BK234 HB; intro BK234 HB BK235 GW235 GE235 NB234_235 NB235_234; clear hb hbox hg; have hnb6 := NB234_235.1; have hnc6 := NB235_234.1; obtain ⟨hcz7_0, hcz7_1, hcz7_2, hcz7_3, hcz7_4, hcz7_5, hcz7_6, hcz7_7, hfz7_0, hfz7_1, hfz7_2, hfz7_3, hfz7_4, hfz7_5, hfz7_6, hfz7_7⟩ := cz8 BK234.1) | ((with_reducible refine gate_callee (f := 47) rfl ?_); refine goesM (N := (some 13)) #[.agg #[.int .i64 a0_0, .int .i64 a0_1, .slice A0_2 l0_2.length c0_2]] Try.func47 ?_; (with_reducible refine (spec_boOwn.calls a0_0 a0_1 _ _ l0_2 t236 t237 t238 _ ?side1 ?side2 A3.1).mono ?_); (case side1 => exact CB (C_below HR0_2.1 HB.1)); (case side2 => exact HC0_2.1); rintro e w8 ⟨v239, rfl, ho0, hb⟩; refine ⟨_, rfl, ?_⟩; refine E4 (R_lower ho0 (bZ HB.1)) (bB BK234.1 hb) (bB BK235.1 hb) (bS HB.1 hb) ?_; clear BK234 BK235 HB; intro HO240 BK234 BK235 HB; (try clear hb); (try clear ho0); obtain ⟨hcz9_0, hcz9_1, hcz9_2, hcz9_3, hcz9_4, hcz9_5, hcz9_6, hcz9_7, hfz9_0, hfz9_1, hfz9_2, hfz9_3, hfz9_4, hfz9_5, hfz9_6, hfz9_7⟩ := cz8 BK234.1; obtain ⟨Ao10, co10, eo10⟩ := R_slice HO240.1; subst eo10))
 go_loopg [7, 8] k (fun kq v7 v8 w' => ∃ (x7_1 : List Int) (x8_1 : List (S61)) (x235000_1 : Int) (x235001_1 : Int) (x235002_1 : List (S98)) (x235003_1 : Int) (x235004_1 : Int) (x235005_1 : Int) (x235006_1 : Int) (x235007_1 : Int) (u235002 : Value), Aside0 (spec_maRun.l0 kq a1 x7_1 x8_1 x235000_1 x235001_1 x235002_1 x235003_1 x235004_1 x235005_1 x235006_1 x235007_1 = some (r1, r2, r3, r4, r5, r6, r7, r8, r9, r10)) /\ Aside0 (kq <= k) /\ Aside0 (Kd.R (Kd.int .i64) 3 w' w.heap.size (fun _ => True) v7 x7_1) /\ Aside0 (Kd.R k61 61 w' w.heap.size (fun _ => True) v8 x8_1) /\ Aside0 (Kd.R k98 98 w' w.heap.size (fun _ => True) u235002 x235002_1) /\ Aside0 (w'.heap[gb234]? = some (.cells #[.int .i64 x235000_1, .int .i64 x235001_1, u235002, .int .i64 x235003_1, .int .i64 x235004_1, .int .i64 x235005_1, .int .i64 x235006_1, .int .i64 x235007_1] 35 (0, 0))) /\ Aside0 (w'.heap[gb235]? = some (.cells #[.int .i64 0, .int .i64 0, (.slice none 0 0), .int .i64 0, .int .i64 0, .int .i64 0, .int .i64 0, .int .i64 0] 35 (0, 0))) /\ Aside0 (Below w.heap.size w w'))
 case atStart => exact ⟨(([] : List Int)), (([] : List (S61))), (t236), (t237), (t238), (a0_3), (a0_4), (a0_5), (a0_6), (a0_7), (.slice Ao10 t238.length co10), H', ⟨Nat.le_refl _⟩, ⟨by first | exact R_nil _ _ _ _ _ | exact N_nil _ _ _ _ _ | exact V_nil _ _ _ _ _ | exact Q_nil _ _ _ _ _ | exact S_nil _ _ _ _ _⟩, ⟨by first | exact R_nil _ _ _ _ _ | exact N_nil _ _ _ _ _ | exact V_nil _ _ _ _ _ | exact Q_nil _ _ _ _ _ | exact S_nil _ _ _ _ _⟩, ⟨by (with_reducible repeat (first | apply R_alloc | apply R_drewN | apply R_drew)); exact R_mono (RQ gb234 2 (RQ gb234 1 (RQ gb234 0 (R_types HO240.1 BK234.1 (by decide)) _) _) _) (fun _ hk => trivial)⟩, ⟨by (with_reducible repeat (first | refine blk_drewN ?_ _ | refine blk_drew ?_ | refine blk_alloc ?_ _)); refine blk_put (cs := #[.int .i64 t236, .int .i64 t237, .slice A0_2 l0_2.length c0_2, .int .i64 a0_3, .int .i64 a0_4, .int .i64 a0_5, .int .i64 a0_6, .int .i64 a0_7]) ?_ 2 _ rfl; (with_reducible repeat (first | refine blk_drewN ?_ _ | refine blk_drew ?_ | refine blk_alloc ?_ _)); refine blk_put (cs := #[.int .i64 t236, .int .i64 a0_1, .slice A0_2 l0_2.length c0_2, .int .i64 a0_3, .int .i64 a0_4, .int .i64 a0_5, .int .i64 a0_6, .int .i64 a0_7]) ?_ 1 _ rfl; (with_reducible repeat (first | refine blk_drewN ?_ _ | refine blk_drew ?_ | refine blk_alloc ?_ _)); refine blk_put (cs := #[.int .i64 a0_0, .int .i64 a0_1, .slice A0_2 l0_2.length c0_2, .int .i64 a0_3, .int .i64 a0_4, .int .i64 a0_5, .int .i64 a0_6, .int .i64 a0_7]) ?_ 0 _ rfl; (with_reducible repeat (first | refine blk_drewN ?_ _ | refine blk_drew ?_ | refine blk_alloc ?_ _)); exact BK234.1⟩, ⟨by (with_reducible repeat (first | refine blk_drewN ?_ _ | refine blk_drew ?_ | refine blk_alloc ?_ _)); refine blk_far ?_ NB235_234.1 _; (with_reducible repeat (first | refine blk_drewN ?_ _ | refine blk_drew ?_ | refine blk_alloc ?_ _)); refine blk_far ?_ NB235_234.1 _; (with_reducible repeat (first | refine blk_drewN ?_ _ | refine blk_drew ?_ | refine blk_alloc ?_ _)); refine blk_far ?_ NB235_234.1 _; (with_reducible repeat (first | refine blk_drewN ?_ _ | refine blk_drew ?_ | refine blk_alloc ?_ _)); exact BK235.1⟩, ⟨BL HB.1⟩⟩
 clear H'
 clear hcz7_0 hcz7_1 hcz7_2 hcz7_3 hcz7_4 hcz7_5 hcz7_6 hcz7_7 hcz9_0 hcz9_1 hcz9_2 hcz9_3 hcz9_4 hcz9_5 hcz9_6 hcz9_7 hfz7_0 hfz7_1 hfz7_2 hfz7_3 hfz7_4 hfz7_5 hfz7_6 hfz7_7 hfz9_0 hfz9_1 hfz9_2 hfz9_3 hfz9_4 hfz9_5 hfz9_6 hfz9_7
 obtain ⟨x7_1, x8_1, x235000_1, x235001_1, x235002_1, x235003_1, x235004_1, x235005_1, x235006_1, x235007_1, u235002, HA, HK1, HO_7, HO_8, HO_235002, BK234, BK235, HB⟩ := hrel
 cases gk with
 | zero => exact absurd HA.1 (by simp [spec_maRun.l0])
 | succ k1 => ?_
 have H := HA.1
 clear HA
 simp only [spec_maRun.l0] at H
 replace H := ifB H; rcases H with ⟨c11b0, H⟩ | ⟨c11b0, H⟩
 · replace H := bindA H; obtain ⟨t241, A12, H⟩ := H
   replace H := ifX H; rcases H with ⟨rfl, H⟩ | ⟨rfl, H⟩
   · replace H := ifP H; obtain ⟨c14, H⟩ := H
     have LMc14 := Aside0.mk c14
     clear c14
     generalize hy242 : ((x7_1 ++ [x235007_1]) : List Int) = y242 at H
     have Ny242 := Aside0.mk hy242.symm; clear hy242
     replace H := bindA H; obtain ⟨⟨t245, t246, t247, t250, t251, t252, t253, t254, t255, t256, t257⟩, A15, H⟩ := H
     dsimp only at H
     replace H := ifP H; obtain ⟨c16, H⟩ := H
     have LMc16 := Aside0.mk c16
     clear c16
     generalize hy260 : ((x8_1 ++ [(⟨t255, t256, t257⟩ : S61)]) : List (S61)) = y260 at H
     have Ny260 := Aside0.mk hy260.symm; clear hy260
     have H' := Aside0.mk H
     clear H
     obtain ⟨Ao17, co17, eo17⟩ := R_slice HO_8.1
     subst eo17
     obtain ⟨hcz19_0, hcz19_1, hcz19_2, hcz19_3, hcz19_4, hcz19_5, hcz19_6, hcz19_7, hfz19_0, hfz19_1, hfz19_2, hfz19_3, hfz19_4, hfz19_5, hfz19_6, hfz19_7⟩ := cz8 BK234.1
     obtain ⟨Ao20, co20, eo20⟩ := R_slice HO_235002.1
     subst eo20
     go_wp2_with (first | (go_at_call 48; (with_reducible refine (spec_maCan.calls x235000_1 x235001_1 _ _ x235002_1 x235003_1 x235004_1 x235005_1 x235006_1 x235007_1 true _ ?side1 ?side2 A12.1).mono ?_); (case side1 => exact CB (R_reads' HO_235002.1).2.2); (case side2 => exact (R_reads' HO_235002.1).2.1); rintro e w21 ⟨rfl, hb⟩; refine E6 (rB HO_7.1 hb) (rB HO_8.1 hb) (rB HO_235002.1 hb) (bB BK234.1 hb) (bB BK235.1 hb) (bS HB.1 hb) ?_; clear HO_7 HO_8 HO_235002 BK234 BK235 HB; intro HO_7 HO_8 HO_235002 BK234 BK235 HB; (try clear hb); obtain ⟨hcz22_0, hcz22_1, hcz22_2, hcz22_3, hcz22_4, hcz22_5, hcz22_6, hcz22_7, hfz22_0, hfz22_1, hfz22_2, hfz22_3, hfz22_4, hfz22_5, hfz22_6, hfz22_7⟩ := cz8 BK234.1) | ((with_reducible refine gate_builtin (b := .append) (xs := #[.tmp 23, .tmp 26]) rfl ?_); at_builtin; refine R_append (Kd.int .i64) (w0 := w) w.heap.size rfl (.tmp 23) (.tmp 26) 28 3 (.int .i64 0) 8 rfl Try.underlying28 info3 rfl (by decide) (by omega) u7 x7_1 x235007_1 [.int .i64 x235007_1] (fun _ => True) (fun _ => False) rfl rfl ?aP (fun _ hk => hk.elim) ?aF ?aO ?aB ?aS ?aL ?_; (case aP => exact rfl); (case aB => exact (BL HB.1)); (case aF => exact (fun _ _ => trivial)); (case aO => exact (PR HO_7.1)); (case aS => exact (bZ HB.1)); (case aL => have := LMc14.1; omega); intro v243 w23 ho hb hg hat; rw [<- Ny242.1] at ho; refine E6 (R_over' (PR HO_8.1) (R_typed (PR HO_7.1)) (by decide) hg) (R_over' (PR HO_235002.1) (R_typed (PR HO_7.1)) (by decide) hg) (bG BK234.1 hg (R_ne HO_7.1 BK234.1 (by decide))) (bG BK235.1 hg (R_ne HO_7.1 BK235.1 (by decide))) (hb) (ho) ?_; clear HO_8 HO_235002 BK234 BK235 HB HO_7; intro HO_8 HO_235002 BK234 BK235 HB HO244; clear ho hb hg hat; obtain ⟨hcz24_0, hcz24_1, hcz24_2, hcz24_3, hcz24_4, hcz24_5, hcz24_6, hcz24_7, hfz24_0, hfz24_1, hfz24_2, hfz24_3, hfz24_4, hfz24_5, hfz24_6, hfz24_7⟩ := cz8 BK234.1) | ((with_reducible refine gate_callee (f := 49) rfl ?_); refine goesM (N := (some 30)) #[.agg #[.int .i64 x235000_1, .int .i64 x235001_1, .slice Ao20 x235002_1.length co20, .int .i64 x235003_1, .int .i64 x235004_1, .int .i64 x235005_1, .int .i64 x235006_1, .int .i64 x235007_1]] Try.func49 ?_; (with_reducible refine (spec_maStep.calls k1 x235000_1 x235001_1 _ _ x235002_1 x235003_1 x235004_1 x235005_1 x235006_1 x235007_1 t245 t246 t247 t250 t251 t252 t253 t254 t255 t256 t257 _ ?side1 ?side2 A15.1).mono ?_); (case side1 => exact CB (R_reads' HO_235002.1).2.2); (case side2 => exact (R_reads' HO_235002.1).2.1); rintro e w25 ⟨v248, rfl, ho0, hb⟩; refine ⟨_, rfl, ?_⟩; refine E7 (rB HO_8.1 hb) (R_elder' (PR HO_235002.1) (R_base ho0) hb) (rB HO244.1 hb) (R_lower (R_new' ho0 (R_lt (PR HO_235002.1))) (bZ HB.1)) (bB BK234.1 hb) (bB BK235.1 hb) (bS HB.1 hb) ?_; clear HO_8 HO_235002 HO244 BK234 BK235 HB; intro HO_8 HO_235002 HO244 HO249 BK234 BK235 HB; (try clear hb); (try clear ho0)) | ((with_reducible refine gate_dst (N := 9) rfl ?_); refine boxE (cs := #[.int .i64 0, .int .i64 0, .slice none 0 0, .int .i64 0, .int .i64 0, .int .i64 0, .int .i64 0, .int .i64 0]) (t := 35) ?_; intro gb258 hg w26 hbox hb; refine E14 (rB HO_8.1 hb) (rB HO_235002.1 hb) (rB HO244.1 hb) (rB HO249.1 hb) (bB BK234.1 hb) (bB BK235.1 hb) (bS HB.1 hb) (hbox) (gX HB.1 hg) (gX HB.1 hg) (nB BK234.1 hg) (nC BK234.1 hg) (nB BK235.1 hg) (nC BK235.1 hg) ?_; clear HO_8 HO_235002 HO244 HO249 BK234 BK235 HB; intro HO_8 HO_235002 HO244 HO249 BK234 BK235 HB BK258 GW258 GE258 NB234_258 NB258_234 NB235_258 NB258_235; clear hb hbox hg) | ((with_reducible refine gate_dst (N := 10) rfl ?_); refine boxE (cs := #[.int .i64 0, .int .i64 0, .int .i64 0]) (t := 61) ?_; intro gb259 hg w27 hbox hb; refine E17 (R_below (R_elderB (PR HO_8.1) gb259 (Nat.le_of_eq hg.symm)) hb) (rB HO_235002.1 hb) (rB HO244.1 hb) (rB HO249.1 hb) (bB BK234.1 hb) (bB BK235.1 hb) (bB BK258.1 hb) (bS HB.1 hb) (hbox) (gX HB.1 hg) (gX HB.1 hg) (nB BK234.1 hg) (nC BK234.1 hg) (nB BK235.1 hg) (nC BK235.1 hg) (nB BK258.1 hg) (nC BK258.1 hg) ?_; clear HO_8 HO_235002 HO244 HO249 BK234 BK235 BK258 HB; intro HO_8 HO_235002 HO244 HO249 BK234 BK235 BK258 HB BK259 GW259 GE259 NB234_259 NB259_234 NB235_259 NB259_235 NB258_259 NB259_258; clear hb hbox hg; have hnb28 := NB258_234.1; have hnc28 := NB234_258.1; have hnb29 := NB258_235.1; have hnc29 := NB235_258.1; have hnb30 := NB258_259.1; have hnc30 := NB259_258.1; obtain ⟨hcz31_0, hcz31_1, hcz31_2, hcz31_3, hcz31_4, hcz31_5, hcz31_6, hcz31_7, hfz31_0, hfz31_1, hfz31_2, hfz31_3, hfz31_4, hfz31_5, hfz31_6, hfz31_7⟩ := cz8 BK258.1; obtain ⟨Ao32, co32, eo32⟩ := R_slice HO249.1; subst eo32; have hnb33 := NB259_234.1; have hnc33 := NB234_259.1; have hnb34 := NB259_235.1; have hnc34 := NB235_259.1; obtain ⟨hcz35_0, hcz35_1, hcz35_2, hfz35_0, hfz35_1, hfz35_2⟩ := cz3 BK259.1) | ((with_reducible refine gate_builtin (b := .append) (xs := #[.tmp 33, .tmp 35]) rfl ?_); at_builtin; refine R_append k61 (w0 := w) w.heap.size rfl (.tmp 33) (.tmp 35) 57 61 (.agg #[(.int .i64 0), (.int .i64 0), (.int .i64 0)]) 24 rfl Try.underlying57 info61 rfl (by decide) (by omega) (.slice Ao17 x8_1.length co17) x8_1 (⟨t255, t256, t257⟩ : S61) [.int .i64 t255, .int .i64 t256, .int .i64 t257] (fun k_ => k_ ≠ gb259) (fun _ => False) rfl (by first | (go_simp; done) | (go_simp; rfl)) ?aP (fun _ hk => hk.elim) ?aF ?aO ?aB ?aS ?aL ?_; (case aP => exact k61_mkM _ _ _ (⟨t255, t256, t257⟩ : S61)); (case aB => exact (BL HB.1)); (case aF => exact (fun k_ hk => Kd.freshB (g := gb259) (o := .cells #[.int .i64 t255, .int .i64 t256, .int .i64 t257] 61 (0, 0)) (PF1 NB259_258.1 BK259.1) k_ hk)); (case aO => exact (by (with_reducible repeat (first | apply R_alloc | apply R_drewN | apply R_drew)); exact R_mono (RQ gb259 2 (RQ gb259 1 (RQ gb259 0 (R_far (p := ⟨gb258, 7, none⟩) (R_far (p := ⟨gb258, 6, none⟩) (R_far (p := ⟨gb258, 5, none⟩) (R_far (p := ⟨gb258, 4, none⟩) (R_far (p := ⟨gb258, 3, none⟩) (R_far (p := ⟨gb258, 2, none⟩) (R_far (p := ⟨gb258, 1, none⟩) (R_far (p := ⟨gb258, 0, none⟩) (R_mono (R_types HO_8.1 BK258.1 (by decide)) (fun k_ hk => (⟨hk, hk.1.2⟩ : _ /\ k_ ≠ gb259))) (fun _ hk => hk.1.2) (.int .i64 t245)) (fun _ hk => hk.1.2) (.int .i64 t246)) (fun _ hk => hk.1.2) (.slice Ao32 t247.length co32)) (fun _ hk => hk.1.2) (.int .i64 t250)) (fun _ hk => hk.1.2) (.int .i64 t251)) (fun _ hk => hk.1.2) (.int .i64 t252)) (fun _ hk => hk.1.2) (.int .i64 t253)) (fun _ hk => hk.1.2) (.int .i64 t254)) _) _) _) (fun _ hk => hk.1.1.2))); (case aS => exact (bZ HB.1)); (case aL => have := LMc16.1; omega); intro v261 w36 ho hb hg hat; rw [<- Ny260.1] at ho; refine E9 (R_over' (by (with_reducible repeat (first | apply R_alloc | apply R_drewN | apply R_drew)); exact (R_mono (R_mono (RQ gb259 2 (RQ gb259 1 (RQ gb259 0 (R_far (p := ⟨gb258, 7, none⟩) (R_far (p := ⟨gb258, 6, none⟩) (R_far (p := ⟨gb258, 5, none⟩) (R_far (p := ⟨gb258, 4, none⟩) (R_far (p := ⟨gb258, 3, none⟩) (R_far (p := ⟨gb258, 2, none⟩) (R_far (p := ⟨gb258, 1, none⟩) (R_far (p := ⟨gb258, 0, none⟩) (R_types (R_types HO_235002.1 BK258.1 (by decide)) BK259.1 (by decide)) (fun _ hk => hk.1.2) (.int .i64 t245)) (fun _ hk => hk.1.2) (.int .i64 t246)) (fun _ hk => hk.1.2) (.slice Ao32 t247.length co32)) (fun _ hk => hk.1.2) (.int .i64 t250)) (fun _ hk => hk.1.2) (.int .i64 t251)) (fun _ hk => hk.1.2) (.int .i64 t252)) (fun _ hk => hk.1.2) (.int .i64 t253)) (fun _ hk => hk.1.2) (.int .i64 t254)) _) _) _) (fun _ h_ => h_.1)) (fun _ h_ => h_.1))) (R_typed (by (with_reducible repeat (first | apply R_alloc | apply R_drewN | apply R_drew)); exact (R_mono (R_mono (RQ gb259 2 (RQ gb259 1 (RQ gb259 0 (R_far (p := ⟨gb258, 7, none⟩) (R_far (p := ⟨gb258, 6, none⟩) (R_far (p := ⟨gb258, 5, none⟩) (R_far (p := ⟨gb258, 4, none⟩) (R_far (p := ⟨gb258, 3, none⟩) (R_far (p := ⟨gb258, 2, none⟩) (R_far (p := ⟨gb258, 1, none⟩) (R_far (p := ⟨gb258, 0, none⟩) (R_mono (R_types HO_8.1 BK258.1 (by decide)) (fun k_ hk => (⟨hk, hk.1.2⟩ : _ /\ k_ ≠ gb259))) (fun _ hk => hk.1.2) (.int .i64 t245)) (fun _ hk => hk.1.2) (.int .i64 t246)) (fun _ hk => hk.1.2) (.slice Ao32 t247.length co32)) (fun _ hk => hk.1.2) (.int .i64 t250)) (fun _ hk => hk.1.2) (.int .i64 t251)) (fun _ hk => hk.1.2) (.int .i64 t252)) (fun _ hk => hk.1.2) (.int .i64 t253)) (fun _ hk => hk.1.2) (.int .i64 t254)) _) _) _) (fun _ h_ => h_.1)) (fun _ h_ => h_.1)))) (by decide) hg) (blk_grown (g := gb234) (o := .cells #[.int .i64 x235000_1, .int .i64 x235001_1, .slice Ao20 x235002_1.length co20, .int .i64 x235003_1, .int .i64 x235004_1, .int .i64 x235005_1, .int .i64 x235006_1, .int .i64 x235007_1] 35 (0, 0)) (PF2 NB234_259.1 NB234_258.1 BK234.1) hg (R_ne HO_8.1 BK234.1 (by decide))) (blk_grown (g := gb235) (o := .cells #[.int .i64 0, .int .i64 0, .slice none 0 0, .int .i64 0, .int .i64 0, .int .i64 0, .int .i64 0, .int .i64 0] 35 (0, 0)) (PF2 NB235_259.1 NB235_258.1 BK235.1) hg (R_ne HO_8.1 BK235.1 (by decide))) (R_over' (by (with_reducible repeat (first | apply R_alloc | apply R_drewN | apply R_drew)); exact (R_mono (R_mono (RQ gb259 2 (RQ gb259 1 (RQ gb259 0 (R_far (p := ⟨gb258, 7, none⟩) (R_far (p := ⟨gb258, 6, none⟩) (R_far (p := ⟨gb258, 5, none⟩) (R_far (p := ⟨gb258, 4, none⟩) (R_far (p := ⟨gb258, 3, none⟩) (R_far (p := ⟨gb258, 2, none⟩) (R_far (p := ⟨gb258, 1, none⟩) (R_far (p := ⟨gb258, 0, none⟩) (R_types (R_types HO244.1 BK258.1 (by decide)) BK259.1 (by decide)) (fun _ hk => hk.1.2) (.int .i64 t245)) (fun _ hk => hk.1.2) (.int .i64 t246)) (fun _ hk => hk.1.2) (.slice Ao32 t247.length co32)) (fun _ hk => hk.1.2) (.int .i64 t250)) (fun _ hk => hk.1.2) (.int .i64 t251)) (fun _ hk => hk.1.2) (.int .i64 t252)) (fun _ hk => hk.1.2) (.int .i64 t253)) (fun _ hk => hk.1.2) (.int .i64 t254)) _) _) _) (fun _ h_ => h_.1)) (fun _ h_ => h_.1))) (R_typed (by (with_reducible repeat (first | apply R_alloc | apply R_drewN | apply R_drew)); exact (R_mono (R_mono (RQ gb259 2 (RQ gb259 1 (RQ gb259 0 (R_far (p := ⟨gb258, 7, none⟩) (R_far (p := ⟨gb258, 6, none⟩) (R_far (p := ⟨gb258, 5, none⟩) (R_far (p := ⟨gb258, 4, none⟩) (R_far (p := ⟨gb258, 3, none⟩) (R_far (p := ⟨gb258, 2, none⟩) (R_far (p := ⟨gb258, 1, none⟩) (R_far (p := ⟨gb258, 0, none⟩) (R_mono (R_types HO_8.1 BK258.1 (by decide)) (fun k_ hk => (⟨hk, hk.1.2⟩ : _ /\ k_ ≠ gb259))) (fun _ hk => hk.1.2) (.int .i64 t245)) (fun _ hk => hk.1.2) (.int .i64 t246)) (fun _ hk => hk.1.2) (.slice Ao32 t247.length co32)) (fun _ hk => hk.1.2) (.int .i64 t250)) (fun _ hk => hk.1.2) (.int .i64 t251)) (fun _ hk => hk.1.2) (.int .i64 t252)) (fun _ hk => hk.1.2) (.int .i64 t253)) (fun _ hk => hk.1.2) (.int .i64 t254)) _) _) _) (fun _ h_ => h_.1)) (fun _ h_ => h_.1)))) (by decide) hg) (R_over' (by (with_reducible repeat (first | apply R_alloc | apply R_drewN | apply R_drew)); exact (R_mono (R_mono (RQ gb259 2 (RQ gb259 1 (RQ gb259 0 (R_far (p := ⟨gb258, 7, none⟩) (R_far (p := ⟨gb258, 6, none⟩) (R_far (p := ⟨gb258, 5, none⟩) (R_far (p := ⟨gb258, 4, none⟩) (R_far (p := ⟨gb258, 3, none⟩) (R_far (p := ⟨gb258, 2, none⟩) (R_far (p := ⟨gb258, 1, none⟩) (R_far (p := ⟨gb258, 0, none⟩) (R_types (R_types HO249.1 BK258.1 (by decide)) BK259.1 (by decide)) (fun _ hk => hk.1.2) (.int .i64 t245)) (fun _ hk => hk.1.2) (.int .i64 t246)) (fun _ hk => hk.1.2) (.slice Ao32 t247.length co32)) (fun _ hk => hk.1.2) (.int .i64 t250)) (fun _ hk => hk.1.2) (.int .i64 t251)) (fun _ hk => hk.1.2) (.int .i64 t252)) (fun _ hk => hk.1.2) (.int .i64 t253)) (fun _ hk => hk.1.2) (.int .i64 t254)) _) _) _) (fun _ h_ => h_.1)) (fun _ h_ => h_.1))) (R_typed (by (with_reducible repeat (first | apply R_alloc | apply R_drewN | apply R_drew)); exact (R_mono (R_mono (RQ gb259 2 (RQ gb259 1 (RQ gb259 0 (R_far (p := ⟨gb258, 7, none⟩) (R_far (p := ⟨gb258, 6, none⟩) (R_far (p := ⟨gb258, 5, none⟩) (R_far (p := ⟨gb258, 4, none⟩) (R_far (p := ⟨gb258, 3, none⟩) (R_far (p := ⟨gb258, 2, none⟩) (R_far (p := ⟨gb258, 1, none⟩) (R_far (p := ⟨gb258, 0, none⟩) (R_mono (R_types HO_8.1 BK258.1 (by decide)) (fun k_ hk => (⟨hk, hk.1.2⟩ : _ /\ k_ ≠ gb259))) (fun _ hk => hk.1.2) (.int .i64 t245)) (fun _ hk => hk.1.2) (.int .i64 t246)) (fun _ hk => hk.1.2) (.slice Ao32 t247.length co32)) (fun _ hk => hk.1.2) (.int .i64 t250)) (fun _ hk => hk.1.2) (.int .i64 t251)) (fun _ hk => hk.1.2) (.int .i64 t252)) (fun _ hk => hk.1.2) (.int .i64 t253)) (fun _ hk => hk.1.2) (.int .i64 t254)) _) _) _) (fun _ h_ => h_.1)) (fun _ h_ => h_.1)))) (by decide) hg) (blk_grown (g := gb258) (o := .cells #[.int .i64 t245, .int .i64 t246, .slice Ao32 t247.length co32, .int .i64 t250, .int .i64 t251, .int .i64 t252, .int .i64 t253, .int .i64 t254] 35 (0, 0)) (PF1 NB258_259.1 BK258.1) hg (R_ne HO_8.1 BK258.1 (by decide))) (blk_grown (g := gb259) (o := .cells #[.int .i64 t255, .int .i64 t256, .int .i64 t257] 61 (0, 0)) (PF1 NB259_258.1 BK259.1) hg (R_away HO_8.1 (fun _ hk => hk.2))) (hb) (ho) ?_; clear HO_235002 BK234 BK235 HO244 HO249 BK258 BK259 HB HO_8; intro HO_235002 BK234 BK235 HO244 HO249 BK258 BK259 HB HO262; clear ho hb hg hat; obtain ⟨hcz37_0, hcz37_1, hcz37_2, hcz37_3, hcz37_4, hcz37_5, hcz37_6, hcz37_7, hfz37_0, hfz37_1, hfz37_2, hfz37_3, hfz37_4, hfz37_5, hfz37_6, hfz37_7⟩ := cz8 BK258.1; obtain ⟨hcz38_0, hcz38_1, hcz38_2, hcz38_3, hcz38_4, hcz38_5, hcz38_6, hcz38_7, hfz38_0, hfz38_1, hfz38_2, hfz38_3, hfz38_4, hfz38_5, hfz38_6, hfz38_7⟩ := cz8 BK234.1))
     go_roundg k1
     case measure => have := HK1.1; omega
     case rel => exact ⟨(y242), (y260), (t245), (t246), (t247), (t250), (t251), (t252), (t253), (t254), (.slice Ao32 t247.length co32), H', ⟨by have := HK1.1; omega⟩, ⟨by (with_reducible repeat (first | apply R_alloc | apply R_drewN | apply R_drew)); exact R_mono (RQ gb234 7 (RQ gb234 6 (RQ gb234 5 (RQ gb234 4 (RQ gb234 3 (RQ gb234 2 (RQ gb234 1 (RQ gb234 0 (R_types HO244.1 BK234.1 (by decide)) _) _) _) _) _) _) _) _) (fun _ hk => trivial)⟩, ⟨by (with_reducible repeat (first | apply R_alloc | apply R_drewN | apply R_drew)); exact R_mono (RQ gb234 7 (RQ gb234 6 (RQ gb234 5 (RQ gb234 4 (RQ gb234 3 (RQ gb234 2 (RQ gb234 1 (RQ gb234 0 (R_types HO262.1 BK234.1 (by decide)) _) _) _) _) _) _) _) _) (fun _ hk => trivial)⟩, ⟨by (with_reducible repeat (first | apply R_alloc | apply R_drewN | apply R_drew)); exact R_mono (RQ gb234 7 (RQ gb234 6 (RQ gb234 5 (RQ gb234 4 (RQ gb234 3 (RQ gb234 2 (RQ gb234 1 (RQ gb234 0 (R_types HO249.1 BK234.1 (by decide)) _) _) _) _) _) _) _) _) (fun _ hk => trivial)⟩, ⟨by (with_reducible repeat (first | refine blk_drewN ?_ _ | refine blk_drew ?_ | refine blk_alloc ?_ _)); refine blk_put (cs := #[.int .i64 t245, .int .i64 t246, .slice Ao32 t247.length co32, .int .i64 t250, .int .i64 t251, .int .i64 t252, .int .i64 t253, .int .i64 x235007_1]) ?_ 7 _ rfl; (with_reducible repeat (first | refine blk_drewN ?_ _ | refine blk_drew ?_ | refine blk_alloc ?_ _)); refine blk_put (cs := #[.int .i64 t245, .int .i64 t246, .slice Ao32 t247.length co32, .int .i64 t250, .int .i64 t251, .int .i64 t252, .int .i64 x235006_1, .int .i64 x235007_1]) ?_ 6 _ rfl; (with_reducible repeat (first | refine blk_drewN ?_ _ | refine blk_drew ?_ | refine blk_alloc ?_ _)); refine blk_put (cs := #[.int .i64 t245, .int .i64 t246, .slice Ao32 t247.length co32, .int .i64 t250, .int .i64 t251, .int .i64 x235005_1, .int .i64 x235006_1, .int .i64 x235007_1]) ?_ 5 _ rfl; (with_reducible repeat (first | refine blk_drewN ?_ _ | refine blk_drew ?_ | refine blk_alloc ?_ _)); refine blk_put (cs := #[.int .i64 t245, .int .i64 t246, .slice Ao32 t247.length co32, .int .i64 t250, .int .i64 x235004_1, .int .i64 x235005_1, .int .i64 x235006_1, .int .i64 x235007_1]) ?_ 4 _ rfl; (with_reducible repeat (first | refine blk_drewN ?_ _ | refine blk_drew ?_ | refine blk_alloc ?_ _)); refine blk_put (cs := #[.int .i64 t245, .int .i64 t246, .slice Ao32 t247.length co32, .int .i64 x235003_1, .int .i64 x235004_1, .int .i64 x235005_1, .int .i64 x235006_1, .int .i64 x235007_1]) ?_ 3 _ rfl; (with_reducible repeat (first | refine blk_drewN ?_ _ | refine blk_drew ?_ | refine blk_alloc ?_ _)); refine blk_put (cs := #[.int .i64 t245, .int .i64 t246, .slice Ao20 x235002_1.length co20, .int .i64 x235003_1, .int .i64 x235004_1, .int .i64 x235005_1, .int .i64 x235006_1, .int .i64 x235007_1]) ?_ 2 _ rfl; (with_reducible repeat (first | refine blk_drewN ?_ _ | refine blk_drew ?_ | refine blk_alloc ?_ _)); refine blk_put (cs := #[.int .i64 t245, .int .i64 x235001_1, .slice Ao20 x235002_1.length co20, .int .i64 x235003_1, .int .i64 x235004_1, .int .i64 x235005_1, .int .i64 x235006_1, .int .i64 x235007_1]) ?_ 1 _ rfl; (with_reducible repeat (first | refine blk_drewN ?_ _ | refine blk_drew ?_ | refine blk_alloc ?_ _)); refine blk_put (cs := #[.int .i64 x235000_1, .int .i64 x235001_1, .slice Ao20 x235002_1.length co20, .int .i64 x235003_1, .int .i64 x235004_1, .int .i64 x235005_1, .int .i64 x235006_1, .int .i64 x235007_1]) ?_ 0 _ rfl; (with_reducible repeat (first | refine blk_drewN ?_ _ | refine blk_drew ?_ | refine blk_alloc ?_ _)); exact BK234.1⟩, ⟨by (with_reducible repeat (first | refine blk_drewN ?_ _ | refine blk_drew ?_ | refine blk_alloc ?_ _)); refine blk_far ?_ NB235_234.1 _; (with_reducible repeat (first | refine blk_drewN ?_ _ | refine blk_drew ?_ | refine blk_alloc ?_ _)); refine blk_far ?_ NB235_234.1 _; (with_reducible repeat (first | refine blk_drewN ?_ _ | refine blk_drew ?_ | refine blk_alloc ?_ _)); refine blk_far ?_ NB235_234.1 _; (with_reducible repeat (first | refine blk_drewN ?_ _ | refine blk_drew ?_ | refine blk_alloc ?_ _)); refine blk_far ?_ NB235_234.1 _; (with_reducible repeat (first | refine blk_drewN ?_ _ | refine blk_drew ?_ | refine blk_alloc ?_ _)); refine blk_far ?_ NB235_234.1 _; (with_reducible repeat (first | refine blk_drewN ?_ _ | refine blk_drew ?_ | refine blk_alloc ?_ _)); refine blk_far ?_ NB235_234.1 _; (with_reducible repeat (first | refine blk_drewN ?_ _ | refine blk_drew ?_ | refine blk_alloc ?_ _)); refine blk_far ?_ NB235_234.1 _; (with_reducible repeat (first | refine blk_drewN ?_ _ | refine blk_drew ?_ | refine blk_alloc ?_ _)); refine blk_far ?_ NB235_234.1 _; (with_reducible repeat (first | refine blk_drewN ?_ _ | refine blk_drew ?_ | refine blk_alloc ?_ _)); exact BK235.1⟩, ⟨BL HB.1⟩⟩
   simp only [Option.some.injEq, Prod.mk.injEq] at H
   obtain ⟨rfl, rfl, rfl, rfl, rfl, rfl, rfl, rfl, rfl, rfl⟩ := H
   obtain ⟨Ao39, co39, eo39⟩ := R_slice HO_8.1
   subst eo39
   obtain ⟨hcz41_0, hcz41_1, hcz41_2, hcz41_3, hcz41_4, hcz41_5, hcz41_6, hcz41_7, hfz41_0, hfz41_1, hfz41_2, hfz41_3, hfz41_4, hfz41_5, hfz41_6, hfz41_7⟩ := cz8 BK234.1
   obtain ⟨Ao42, co42, eo42⟩ := R_slice HO_235002.1
   subst eo42
   go_wp2_with (first | (go_at_call 48; (with_reducible refine (spec_maCan.calls x235000_1 x235001_1 _ _ x235002_1 x235003_1 x235004_1 x235005_1 x235006_1 x235007_1 false _ ?side1 ?side2 A12.1).mono ?_); (case side1 => exact CB (R_reads' HO_235002.1).2.2); (case side2 => exact (R_reads' HO_235002.1).2.1); rintro e w43 ⟨rfl, hb⟩; refine E6 (rB HO_7.1 hb) (rB HO_8.1 hb) (rB HO_235002.1 hb) (bB BK234.1 hb) (bB BK235.1 hb) (bS HB.1 hb) ?_; clear HO_7 HO_8 HO_235002 BK234 BK235 HB; intro HO_7 HO_8 HO_235002 BK234 BK235 HB; (try clear hb); obtain ⟨hcz44_0, hcz44_1, hcz44_2, hcz44_3, hcz44_4, hcz44_5, hcz44_6, hcz44_7, hfz44_0, hfz44_1, hfz44_2, hfz44_3, hfz44_4, hfz44_5, hfz44_6, hfz44_7⟩ := cz8 BK234.1; obtain ⟨hcz45_0, hcz45_1, hcz45_2, hcz45_3, hcz45_4, hcz45_5, hcz45_6, hcz45_7, hfz45_0, hfz45_1, hfz45_2, hfz45_3, hfz45_4, hfz45_5, hfz45_6, hfz45_7⟩ := cz8 BK235.1))
   refine bodyPost_ret (results_ctt rfl _ _ gb235 35 #[.int .i64 x235000_1, .int .i64 x235001_1, .slice Ao42 x235002_1.length co42, .int .i64 x235003_1, .int .i64 x235004_1, .int .i64 x235005_1, .int .i64 x235006_1, .int .i64 x235007_1] (0, 0) _ rfl (PF0 BK235.1) Try.underlying35 rfl (by kernel_rfl)) rfl ?_
   exact ⟨_, _, _, RF, by (with_reducible repeat (first | apply R_alloc | apply R_drewN | apply R_drew)); exact R_mono (RQ gb235 7 (RQ gb235 6 (RQ gb235 5 (RQ gb235 4 (RQ gb235 3 (RQ gb235 2 (RQ gb235 1 (RQ gb235 0 (R_types HO_235002.1 BK235.1 (by decide)) _) _) _) _) _) _) _) _) (fun _ hk => trivial), by (with_reducible repeat (first | apply R_alloc | apply R_drewN | apply R_drew)); exact R_mono (RQ gb235 7 (RQ gb235 6 (RQ gb235 5 (RQ gb235 4 (RQ gb235 3 (RQ gb235 2 (RQ gb235 1 (RQ gb235 0 (R_types HO_7.1 BK235.1 (by decide)) _) _) _) _) _) _) _) _) (fun _ hk => trivial), by (with_reducible repeat (first | apply R_alloc | apply R_drewN | apply R_drew)); exact R_mono (RQ gb235 7 (RQ gb235 6 (RQ gb235 5 (RQ gb235 4 (RQ gb235 3 (RQ gb235 2 (RQ gb235 1 (RQ gb235 0 (R_types HO_8.1 BK235.1 (by decide)) _) _) _) _) _) _) _) _) (fun _ hk => trivial), BL HB.1⟩
 simp only [Option.some.injEq, Prod.mk.injEq] at H
 obtain ⟨rfl, rfl, rfl, rfl, rfl, rfl, rfl, rfl, rfl, rfl⟩ := H
 obtain ⟨Ao46, co46, eo46⟩ := R_slice HO_8.1
 subst eo46
 obtain ⟨hcz48_0, hcz48_1, hcz48_2, hcz48_3, hcz48_4, hcz48_5, hcz48_6, hcz48_7, hfz48_0, hfz48_1, hfz48_2, hfz48_3, hfz48_4, hfz48_5, hfz48_6, hfz48_7⟩ := cz8 BK234.1
 obtain ⟨hcz49_0, hcz49_1, hcz49_2, hcz49_3, hcz49_4, hcz49_5, hcz49_6, hcz49_7, hfz49_0, hfz49_1, hfz49_2, hfz49_3, hfz49_4, hfz49_5, hfz49_6, hfz49_7⟩ := cz8 BK235.1
 obtain ⟨Ao50, co50, eo50⟩ := R_slice HO_235002.1
 subst eo50
 go_wp2
 refine bodyPost_ret (results_ctt rfl _ _ gb235 35 #[.int .i64 x235000_1, .int .i64 x235001_1, .slice Ao50 x235002_1.length co50, .int .i64 x235003_1, .int .i64 x235004_1, .int .i64 x235005_1, .int .i64 x235006_1, .int .i64 x235007_1] (0, 0) _ rfl (PF0 BK235.1) Try.underlying35 rfl (by kernel_rfl)) rfl ?_
 exact ⟨_, _, _, RF, by (with_reducible repeat (first | apply R_alloc | apply R_drewN | apply R_drew)); exact R_mono (RQ gb235 7 (RQ gb235 6 (RQ gb235 5 (RQ gb235 4 (RQ gb235 3 (RQ gb235 2 (RQ gb235 1 (RQ gb235 0 (R_types HO_235002.1 BK235.1 (by decide)) _) _) _) _) _) _) _) _) (fun _ hk => trivial), by (with_reducible repeat (first | apply R_alloc | apply R_drewN | apply R_drew)); exact R_mono (RQ gb235 7 (RQ gb235 6 (RQ gb235 5 (RQ gb235 4 (RQ gb235 3 (RQ gb235 2 (RQ gb235 1 (RQ gb235 0 (R_types HO_7.1 BK235.1 (by decide)) _) _) _) _) _) _) _) _) (fun _ hk => trivial), by (with_reducible repeat (first | apply R_alloc | apply R_drewN | apply R_drew)); exact R_mono (RQ gb235 7 (RQ gb235 6 (RQ gb235 5 (RQ gb235 4 (RQ gb235 3 (RQ gb235 2 (RQ gb235 1 (RQ gb235 0 (R_types HO_8.1 BK235.1 (by decide)) _) _) _) _) _) _) _) _) (fun _ hk => trivial), BL HB.1⟩
/-! ### laws_toCell: function 64 -/
open Kd
def laws_toCell.f (a0_0 : Int) (a0_1 : Int) : Option (Int × Int) := some (a0_0, a0_1)
theorem laws_toCell.calls (a0_0 : Int) (a0_1 : Int) (r1 : Int) (r2 : Int) (w : World) (h : laws_toCell.f a0_0 a0_1 = some (r1, r2)) :
 Calls Try.prog 64 #[.agg #[.int .i64 a0_0, .int .i64 a0_1]] w fun e w' => e = .returned (.agg #[.int .i64 r1, .int .i64 r2]) /\ Below w.heap.size w w' := by
 have hu100 := Try.underlying100
 have hu98 := Try.underlying98
 have HB := Aside0.mk (Below.refl w.heap.size w)
 have H := h
 clear h
 unfold laws_toCell.f at H
 simp only [Option.some.injEq, Prod.mk.injEq] at H
 obtain ⟨rfl, rfl⟩ := H
 go_enter Try.func64, Try.ntmps64
 go_wp2_with (first | ((with_reducible refine gate_dst (N := 1) rfl ?_); refine boxE (cs := #[.int .i64 a0_0, .int .i64 a0_1]) (t := 100) ?_; intro gb287 hg w2 hbox hb; refine E4b HB.1 hg hbox hb ?_; clear HB; intro HB BK287 GW287 GE287; clear hb hbox hg) | ((with_reducible refine gate_dst (N := 2) rfl ?_); refine boxE (cs := #[.int .i64 0, .int .i64 0]) (t := 98) ?_; intro gb288 hg w3 hbox hb; refine E7 (bB BK287.1 hb) (bS HB.1 hb) (hbox) (gX HB.1 hg) (gX HB.1 hg) (nB BK287.1 hg) (nC BK287.1 hg) ?_; clear BK287 HB; intro BK287 HB BK288 GW288 GE288 NB287_288 NB288_287; clear hb hbox hg) | ((with_reducible refine gate_dst (N := 3) rfl ?_); refine boxE (cs := #[.int .i64 0, .int .i64 0]) (t := 98) ?_; intro gb289 hg w4 hbox hb; refine E10 (bB BK287.1 hb) (bB BK288.1 hb) (bS HB.1 hb) (hbox) (gX HB.1 hg) (gX HB.1 hg) (nB BK287.1 hg) (nC BK287.1 hg) (nB BK288.1 hg) (nC BK288.1 hg) ?_; clear BK287 BK288 HB; intro BK287 BK288 HB BK289 GW289 GE289 NB287_289 NB289_287 NB288_289 NB289_288; clear hb hbox hg; have hnb5 := NB287_288.1; have hnc5 := NB288_287.1; have hnb6 := NB287_289.1; have hnc6 := NB289_287.1; obtain ⟨hcz7_0, hcz7_1, hfz7_0, hfz7_1⟩ := cz2 BK287.1; have hnb8 := NB289_288.1; have hnc8 := NB288_289.1; obtain ⟨hcz9_0, hcz9_1, hfz9_0, hfz9_1⟩ := cz2 BK289.1; obtain ⟨hcz10_0, hcz10_1, hfz10_0, hfz10_1⟩ := cz2 BK288.1))
 refine bodyPost_ret (results_cell_row rfl _ _ gb288 98 #[.int .i64 a0_0, .int .i64 a0_1] (0, 0) _ rfl (PF1 NB288_289.1 BK288.1) Try.underlying98 rfl (by kernel_rfl)) rfl ?_
 exact ⟨RF, BL HB.1⟩

/-! ### laws_toCellS: function 50 -/
open Kd
def laws_toCellS.l0 : Nat -> List (S100) -> List (S98) -> Int -> Option ((List (S98)))
 | 0, _, _, _ => none
 | k + 1, x0, x3, x4 => if x4 < (x0.length : Int) then (if 0 <= x4 then ((laws_toCell.f ((rd_T100 x0 x4).f0) ((rd_T100 x0 x4).f1)).bind fun bt294 => (if x4 < (x3.length : Int) then (laws_toCellS.l0 k x0 (x3.set (x4 : Int).toNat (⟨bt294.1, bt294.2⟩ : S98)) (wrap64 (x4 + 1))) else (none))) else (none)) else (some x3)
def laws_toCellS.f (k : Nat) (l0 : List (S100)) : Option ((List (S98))) := if 0 <= (l0.length : Int) then (if ((l0.length : Int) : Int).toNat <= 17592186044416 then (laws_toCellS.l0 k l0 (List.replicate ((l0.length : Int) : Int).toNat z98) 0) else (none)) else (none)
theorem laws_toCellS.mono_l : ∀ k, (∀ y0 y1 y2, LeO (laws_toCellS.l0 k y0 y1 y2) (laws_toCellS.l0 (k + 1) y0 y1 y2))
 | 0 => fun _ _ _ r h => by simp [laws_toCellS.l0] at h
 | k + 1 => by
  have ih0 := laws_toCellS.mono_l k
  intros
  first | unfold laws_toCellS.l0
  exact LM1 ih0
theorem laws_toCellS.mono : ∀ a0 k, LeO (laws_toCellS.f k a0) (laws_toCellS.f (k + 1) a0) := by
 intro a0 k
 have ih0 := laws_toCellS.mono_l k
 unfold laws_toCellS.f
 exact LM1 ih0
theorem laws_toCellS.calls (k : Nat) (A0 : Option Addr) (c0 : Nat) (l0 : List (S100)) (r : List (S98)) (w : World) (hr0 : Kd.C k100 w A0 l0.length l0) (hc0 : l0.length <= c0) (h : laws_toCellS.f k l0 = some r) :
 Calls Try.prog 50 #[.slice A0 l0.length c0] w fun e w' => ∃ v0_ : Value, e = .returned (v0_) /\ Kd.R k98 98 w' w.heap.size (fun _ => True) v0_ r /\ Below w.heap.size w w' := by
 have hu100 := Try.underlying100
 have hu98 := Try.underlying98
 have HR0 := Aside0.mk hr0
 have HC0 := Aside0.mk hc0
 clear hr0 hc0
 have HB := Aside0.mk (Below.refl w.heap.size w)
 have H := h
 clear h
 unfold laws_toCellS.f at H
 replace H := ifP H; obtain ⟨c2, H⟩ := H
 have c2b0 := eq_true c2
 have c2b1 := decide_eq_true c2
 clear c2
 replace H := ifP H; obtain ⟨c3, H⟩ := H
 have c3b0 := eq_true c3
 have c3b1 := decide_eq_true c3
 clear c3
 generalize hy290 : ((List.replicate ((l0.length : Int) : Int).toNat z98) : List (S98)) = y290 at H
 have Ny290 := Aside0.mk hy290.symm; clear hy290
 have H' := Aside0.mk H
 clear H
 go_enter Try.func50, Try.ntmps50
 go_wp2_with (first | ((with_reducible refine gate_dst (N := 7) rfl ?_); refine R_make k98 _ 98 rfl (N := 7) rfl 31 _ _ rfl (l0.length : Int) rfl rfl Try.underlying31 (.agg #[(.int .i64 0), (.int .i64 0)]) 16 info98 rfl (by decide) (by omega) z98 (ok := fun _ => True) (okp := fun _ => True) (k98_mkM _ _ _ z98 ) (fun _ hk => hk) trivial (OD) (Nat.le_trans (Nat.mul_le_mul_right _ (OD : (l0.length : Int).toNat <= 17592186044416)) (by omega)) (Below.refl _ _) (Nat.le_refl _) ?_; intro v291 w4 ho5 hb hg_ hnew_; clear hg_ hnew_; (first | rw [<- Ny290.1] at ho5 | (simp only [Int.reduceToNat] at ho5; rw [<- Ny290.1] at ho5)); refine E2 (R_lower ho5 (bZ HB.1)) (bS HB.1 hb) ?_; clear HB; intro HO292 HB; clear hb ho5))
 go_loopg [4] k (fun kq v4 w' => ∃ (x3_1 : List (S98)) (x4_1 : Int), v4 = .int .i64 x4_1 /\ Aside0 (laws_toCellS.l0 kq l0 x3_1 x4_1 = some r) /\ Aside0 (kq <= k) /\ Aside0 (Kd.R k98 98 w' w.heap.size (fun _ => True) v291 x3_1) /\ Aside0 (Below w.heap.size w w'))
 case atStart => exact ⟨(y290), (0), RG, H', ⟨Nat.le_refl _⟩, ⟨PR HO292.1⟩, ⟨BL HB.1⟩⟩
 clear H'
 clear c2b0 c2b1 c3b0 c3b1
 obtain ⟨x3_1, x4_1, rfl, HA, HK1, HO_3, HB⟩ := hrel
 cases gk with
 | zero => exact absurd HA.1 (by simp [laws_toCellS.l0])
 | succ k1 => ?_
 have H := HA.1
 clear HA
 simp only [laws_toCellS.l0] at H
 replace H := ifB H; rcases H with ⟨c6b0, H⟩ | ⟨c6b0, H⟩
 · replace H := ifN H; obtain ⟨c7b0, H⟩ := H
   replace H := bindA H; obtain ⟨⟨t294, t295⟩, A8, H⟩ := H
   dsimp only at H
   replace H := ifN H; obtain ⟨c9b0, H⟩ := H
   generalize hy296 : ((x3_1.set (x4_1 : Int).toNat (⟨t294, t295⟩ : S98)) : List (S98)) = y296 at H
   have Ny296 := Aside0.mk hy296.symm; clear hy296
   have H' := Aside0.mk H
   clear H
   have p293 : 0 <= (x4_1 : Int) := OD
   have q293 : x4_1 < (l0.length : Int) := OD
   obtain ⟨ad293, e293, hx293_0, hx293_1⟩ := at_T100 HR0.1 x4_1 p293 q293
   cases e293
   replace hx293_0 := (HB.1.cell (World.block_lt_of_cell? w _ hx293_0)).trans hx293_0
   replace hx293_1 := (HB.1.cell (World.block_lt_of_cell? w _ hx293_1)).trans hx293_1
   replace p293 := eq_true p293
   replace q293 := eq_true q293
   go_wp2_with (first | ((with_reducible refine gate_callee (f := 64) rfl ?_); refine goesM (N := (some 20)) #[.agg #[.int .i64 ((rd_T100 l0 x4_1).f0), .int .i64 ((rd_T100 l0 x4_1).f1)]] Try.func64 ?_; (with_reducible refine (laws_toCell.calls ((rd_T100 l0 x4_1).f0) ((rd_T100 l0 x4_1).f1) t294 t295 _ A8.1).mono ?_); rintro e w11 ⟨rfl, hb⟩; refine ⟨_, rfl, ?_⟩; refine E2 (rB HO_3.1 hb) (bS HB.1 hb) ?_; clear HO_3 HB; intro HO_3 HB; (try clear hb); have p10 : 0 <= (x4_1 : Int) := OD; have q10 : (x4_1 : Int) < ((x3_1.length : Int) : Int) := OD; obtain ⟨go10, co10, eo10, gb10, gl10, cl10, HG10⟩ := R_form HO_3.1 (by omega); (first | cases eo10 | (injection eo10 with ea_ en_ ec_; (first | subst ea_ | (injection ea_ with ea_; subst ea_)); subst ec_; clear en_)); have GB10 := Aside0.mk gb10; have GG10 := Aside0.mk HG10; clear gb10 gl10 HG10; obtain ⟨ce10, hcl10, hM10, hcc10, hfr10⟩ := R_elem HO_3.1 z98 (x4_1 : Int) p10 q10; obtain rfl := k98_openM hM10; have hx10_0 : w11.cell? ⟨go10, (x4_1 : Int).toNat * 2, none⟩ = some (.int .i64 ((rd_T98 x3_1 x4_1).f0)) := hcc10 0 _ rfl; have hx10_1 : w11.cell? ⟨go10, (x4_1 : Int).toNat * 2 + 1, none⟩ = some (.int .i64 ((rd_T98 x3_1 x4_1).f1)) := hcc10 1 _ rfl; have hf10_0 : w11.frozen? ⟨go10, (x4_1 : Int).toNat * 2, none⟩ = false := hfr10 0; have hf10_1 : w11.frozen? ⟨go10, (x4_1 : Int).toNat * 2 + 1, none⟩ = false := hfr10 1; (try clear hM10); clear hcl10 hcc10 hfr10; replace p10 := eq_true p10; replace q10 := eq_true q10; have HX12 := Aside0.mk (show Kd.R k98 98 w11 w.heap.size (fun _ => True) (.slice (some ⟨go10, 0, none⟩) x3_1.length co10) x3_1 from (PR HO_3.1)); obtain ⟨ce12, hcl12, hM12, hcc12, hfr12⟩ := R_elem HX12.1 z98 (x4_1 : Int) (OD) (by have h_ : (x4_1 : Int) < ((x3_1.length : Int) : Int) := OD; first | exact h_ | (have e_ := (R_reads' HO_3.1).1; omega) | simpa using h_); obtain rfl := k98_openM hM12; have HP12 := R_seg HX12.1 (x4_1 : Int) (OD) (by have h_ : (x4_1 : Int) < ((x3_1.length : Int) : Int) := OD; first | exact h_ | (have e_ := (R_reads' HO_3.1).1; omega) | simpa using h_) (seg := [.int .i64 t294, .int .i64 t295]) (j := 0) hcl12 hcc12 (show 2 <= 2 from by decide) (x' := (⟨t294, t295⟩ : S98)) (k98_mkM _ _ _ (⟨t294, t295⟩ : S98) ) (fun _ hk => hk); have hx12_0 := hcc12 0 _ rfl; (try simp only [show (k98).sz = 2 from rfl, Nat.mul_one, Nat.add_zero] at hx12_0); have hf12_0 := hfr12 0; (try simp only [show (k98).sz = 2 from rfl, Nat.mul_one, Nat.add_zero] at hf12_0); have hx12_1 := hcc12 1 _ rfl; (try simp only [show (k98).sz = 2 from rfl, Nat.mul_one, Nat.add_zero] at hx12_1); have hf12_1 := hfr12 1; (try simp only [show (k98).sz = 2 from rfl, Nat.mul_one, Nat.add_zero] at hf12_1); clear hcl12 hcc12 hfr12) | ((with_reducible refine gate_store (t := 98) (p := 21) rfl ?_); refine storeE (t := 98) (p := 21) (w1 := ((w11.setCell ⟨go10, (x4_1 : Int).toNat * 2, none⟩ (.int .i64 t294)).setCell ⟨go10, (x4_1 : Int).toNat * 2 + 1, none⟩ (.int .i64 t295))) ?_; intro w13 hw; have hg : w11.grownBy w13 (some go10) := (by rw [hw]; exact HP12.2); have hp_ : Kd.R k98 98 w13 w.heap.size (fun _ => True) (.slice (some ⟨go10, 0, none⟩) x3_1.length co10) y296 := (by rw [hw, Ny296.1]; exact HP12.1); clear HP12; refine E2 (hp_) ((by rw [hw]; exact below_set (below_set (HB.1) GB10.1) GB10.1 : Below w.heap.size w w13)) ?_; clear HO_3 HB; intro HO_3 HB; clear hg hw hp_))
   go_roundg k1
   case measure => have := HK1.1; omega
   case rel => exact ⟨(y296), (wrap64 (x4_1 + 1)), RG, H', ⟨by have := HK1.1; omega⟩, ⟨PR HO_3.1⟩, ⟨BL HB.1⟩⟩
 obtain rfl := Option.some.inj H
 go_wp2
 go_ret
 exact ⟨_, RF, RPE (HO_3.1), BL HB.1⟩
/-! ### laws_toBoard: function 31 -/
open Kd
def laws_toBoard.f (k : Nat) (a0_0 : Int) (a0_1 : Int) (l0_2 : List (S100)) : Option (Int × Int × (List (S98))) := (laws_toCellS.f k l0_2).bind fun t300 => (some (a0_0, a0_1, t300))
theorem laws_toBoard.mono : ∀ a0 a1 a2 k, LeO (laws_toBoard.f k a0 a1 a2) (laws_toBoard.f (k + 1) a0 a1 a2) := by
 intro a0 a1 a2 k
 unfold laws_toBoard.f
 repeat' first
  | (with_reducible exact laws_toCellS.mono _ _)
  | (with_reducible exact LeO.refl _)
  | (with_reducible exact LeO.none _)
  | (with_reducible refine LeO.ite ?_ ?_)
  | (with_reducible refine LeO.bind ?_ (fun _ => ?_))
  | exact laws_toCellS.mono _ _
  | exact LeO.none _
  | refine LeO.ite ?_ ?_
  | refine LeO.bind ?_ (fun _ => ?_)
theorem laws_toBoard.calls (k : Nat) (a0_0 : Int) (a0_1 : Int) (A0_2 : Option Addr) (c0_2 : Nat) (l0_2 : List (S100)) (r1 : Int) (r2 : Int) (r3 : List (S98)) (w : World) (hr0_2 : Kd.C k100 w A0_2 l0_2.length l0_2) (hc0_2 : l0_2.length <= c0_2) (h : laws_toBoard.f k a0_0 a0_1 l0_2 = some (r1, r2, r3)) :
 Calls Try.prog 31 #[.agg #[.int .i64 a0_0, .int .i64 a0_1, .slice A0_2 l0_2.length c0_2]] w fun e w' => ∃ v2_ : Value, e = .returned (.agg #[.int .i64 r1, .int .i64 r2, v2_]) /\ Kd.R k98 98 w' w.heap.size (fun _ => True) v2_ r3 /\ Below w.heap.size w w' := by
 have hu24 := Try.underlying24
 have hu33 := Try.underlying33
 have HR0_2 := Aside0.mk hr0_2
 have HC0_2 := Aside0.mk hc0_2
 clear hr0_2 hc0_2
 have HB := Aside0.mk (Below.refl w.heap.size w)
 have H := h
 clear h
 unfold laws_toBoard.f at H
 replace H := bindA H; obtain ⟨t300, A2, H⟩ := H
 simp only [Option.some.injEq, Prod.mk.injEq] at H
 obtain ⟨rfl, rfl, rfl⟩ := H
 go_enter Try.func31, Try.ntmps31
 go_wp2_with (first | ((with_reducible refine gate_dst (N := 1) rfl ?_); refine boxE (cs := #[.int .i64 a0_0, .int .i64 a0_1, .slice A0_2 l0_2.length c0_2]) (t := 24) ?_; intro gb297 hg w3 hbox hb; refine E4b HB.1 hg hbox hb ?_; clear HB; intro HB BK297 GW297 GE297; clear hb hbox hg) | ((with_reducible refine gate_dst (N := 2) rfl ?_); refine boxE (cs := #[.int .i64 0, .int .i64 0, .slice none 0 0]) (t := 33) ?_; intro gb298 hg w4 hbox hb; refine E7 (bB BK297.1 hb) (bS HB.1 hb) (hbox) (gX HB.1 hg) (gX HB.1 hg) (nB BK297.1 hg) (nC BK297.1 hg) ?_; clear BK297 HB; intro BK297 HB BK298 GW298 GE298 NB297_298 NB298_297; clear hb hbox hg) | ((with_reducible refine gate_dst (N := 3) rfl ?_); refine boxE (cs := #[.int .i64 0, .int .i64 0, .slice none 0 0]) (t := 33) ?_; intro gb299 hg w5 hbox hb; refine E10 (bB BK297.1 hb) (bB BK298.1 hb) (bS HB.1 hb) (hbox) (gX HB.1 hg) (gX HB.1 hg) (nB BK297.1 hg) (nC BK297.1 hg) (nB BK298.1 hg) (nC BK298.1 hg) ?_; clear BK297 BK298 HB; intro BK297 BK298 HB BK299 GW299 GE299 NB297_299 NB299_297 NB298_299 NB299_298; clear hb hbox hg; have hnb6 := NB297_298.1; have hnc6 := NB298_297.1; have hnb7 := NB297_299.1; have hnc7 := NB299_297.1; obtain ⟨hcz8_0, hcz8_1, hcz8_2, hfz8_0, hfz8_1, hfz8_2⟩ := cz3 BK297.1; have hnb9 := NB299_298.1; have hnc9 := NB298_299.1; obtain ⟨hcz10_0, hcz10_1, hcz10_2, hfz10_0, hfz10_1, hfz10_2⟩ := cz3 BK299.1) | ((with_reducible refine gate_callee (f := 50) rfl ?_); refine goesM (N := (some 12)) #[.slice A0_2 l0_2.length c0_2] Try.func50 ?_; (with_reducible refine (laws_toCellS.calls k _ _ l0_2 t300 _ ?side1 ?side2 A2.1).mono ?_); (case side1 => exact C_below HR0_2.1 (BL HB.1)); (case side2 => exact HC0_2.1); rintro e w11 ⟨v301, rfl, ho0, hb⟩; refine ⟨_, rfl, ?_⟩; refine E5 (R_lower ho0 (bZ HB.1)) (blk_below (g := gb297) (o := .cells #[.int .i64 a0_0, .int .i64 a0_1, .slice A0_2 l0_2.length c0_2] 24 (0, 0)) (PF1 NB297_299.1 BK297.1) hb) (blk_below (g := gb298) (o := .cells #[.int .i64 0, .int .i64 0, .slice none 0 0] 33 (0, 0)) (PF1 NB298_299.1 BK298.1) hb) (blk_below (g := gb299) (o := .cells #[.int .i64 a0_0, .int .i64 a0_1, .slice none 0 0] 33 (0, 0)) (PF0 BK299.1) hb) (bS HB.1 hb) ?_; clear BK297 BK298 BK299 HB; intro HO302 BK297 BK298 BK299 HB; (try clear hb); (try clear ho0); obtain ⟨Ao12, co12, eo12⟩ := R_slice HO302.1; subst eo12; obtain ⟨hcz13_0, hcz13_1, hcz13_2, hfz13_0, hfz13_1, hfz13_2⟩ := cz3 BK299.1; obtain ⟨hcz14_0, hcz14_1, hcz14_2, hfz14_0, hfz14_1, hfz14_2⟩ := cz3 BK298.1))
 refine bodyPost_ret (results_cell_row rfl _ _ gb298 33 #[.int .i64 a0_0, .int .i64 a0_1, .slice Ao12 t300.length co12] (0, 0) _ rfl (PF1 NB298_299.1 BK298.1) Try.underlying33 rfl (by kernel_rfl)) rfl ?_
 exact ⟨_, RF, by (with_reducible repeat (first | apply R_alloc | apply R_drewN | apply R_drew)); exact R_mono (RQ gb298 2 (RQ gb298 1 (RQ gb298 0 (R_far (p := ⟨gb299, 2, none⟩) (R_types (R_types HO302.1 BK299.1 (by decide)) BK298.1 (by decide)) (fun _ hk => hk.1.2) (.slice Ao12 t300.length co12)) _) _) _) (fun _ hk => trivial), BL HB.1⟩

/-! ### laws_toMachine: function 9 -/
open Kd
def laws_toMachine.f (k : Nat) (a0_0 : Int) (a0_1 : Int) (l0_2 : List (S100)) (a0_3 : Int) (a0_4 : Int) (a0_5 : Int) (a0_6 : Int) (a0_7 : Int) : Option (Int × Int × (List (S98)) × Int × Int × Int × Int × Int) := (laws_toBoard.f k a0_0 a0_1 l0_2).bind fun bt306 => (some (bt306.1, bt306.2.1, bt306.2.2, a0_3, a0_4, a0_5, a0_6, a0_7))
theorem laws_toMachine.mono : ∀ a0 a1 a2 a3 a4 a5 a6 a7 k, LeO (laws_toMachine.f k a0 a1 a2 a3 a4 a5 a6 a7) (laws_toMachine.f (k + 1) a0 a1 a2 a3 a4 a5 a6 a7) := by
 intro a0 a1 a2 a3 a4 a5 a6 a7 k
 unfold laws_toMachine.f
 repeat' first
  | (with_reducible exact laws_toBoard.mono _ _ _ _)
  | (with_reducible exact LeO.refl _)
  | (with_reducible exact LeO.none _)
  | (with_reducible refine LeO.ite ?_ ?_)
  | (with_reducible refine LeO.bind ?_ (fun _ => ?_))
  | exact laws_toBoard.mono _ _ _ _
  | exact LeO.none _
  | refine LeO.ite ?_ ?_
  | refine LeO.bind ?_ (fun _ => ?_)
theorem laws_toMachine.calls (k : Nat) (a0_0 : Int) (a0_1 : Int) (A0_2 : Option Addr) (c0_2 : Nat) (l0_2 : List (S100)) (a0_3 : Int) (a0_4 : Int) (a0_5 : Int) (a0_6 : Int) (a0_7 : Int) (r1 : Int) (r2 : Int) (r3 : List (S98)) (r4 : Int) (r5 : Int) (r6 : Int) (r7 : Int) (r8 : Int) (w : World) (hr0_2 : Kd.C k100 w A0_2 l0_2.length l0_2) (hc0_2 : l0_2.length <= c0_2) (h : laws_toMachine.f k a0_0 a0_1 l0_2 a0_3 a0_4 a0_5 a0_6 a0_7 = some (r1, r2, r3, r4, r5, r6, r7, r8)) :
 Calls Try.prog 9 #[.agg #[.int .i64 a0_0, .int .i64 a0_1, .slice A0_2 l0_2.length c0_2, .int .i64 a0_3, .int .i64 a0_4, .int .i64 a0_5, .int .i64 a0_6, .int .i64 a0_7]] w fun e w' => ∃ v2_ : Value, e = .returned (.agg #[.int .i64 r1, .int .i64 r2, v2_, .int .i64 r4, .int .i64 r5, .int .i64 r6, .int .i64 r7, .int .i64 r8]) /\ Kd.R k98 98 w' w.heap.size (fun _ => True) v2_ r3 /\ Below w.heap.size w w' := by
 have hu26 := Try.underlying26
 have hu35 := Try.underlying35
 have hu24 := Try.underlying24
 have hu33 := Try.underlying33
 have HR0_2 := Aside0.mk hr0_2
 have HC0_2 := Aside0.mk hc0_2
 clear hr0_2 hc0_2
 have HB := Aside0.mk (Below.refl w.heap.size w)
 have H := h
 clear h
 unfold laws_toMachine.f at H
 replace H := bindA H; obtain ⟨⟨t306, t307, t308⟩, A2, H⟩ := H
 dsimp only at H
 simp only [Option.some.injEq, Prod.mk.injEq] at H
 obtain ⟨rfl, rfl, rfl, rfl, rfl, rfl, rfl, rfl⟩ := H
 go_enter Try.func9, Try.ntmps9
 go_wp2_with (first | ((with_reducible refine gate_dst (N := 1) rfl ?_); refine boxE (cs := #[.int .i64 a0_0, .int .i64 a0_1, .slice A0_2 l0_2.length c0_2, .int .i64 a0_3, .int .i64 a0_4, .int .i64 a0_5, .int .i64 a0_6, .int .i64 a0_7]) (t := 26) ?_; intro gb303 hg w3 hbox hb; refine E4b HB.1 hg hbox hb ?_; clear HB; intro HB BK303 GW303 GE303; clear hb hbox hg) | ((with_reducible refine gate_dst (N := 2) rfl ?_); refine boxE (cs := #[.int .i64 0, .int .i64 0, .slice none 0 0, .int .i64 0, .int .i64 0, .int .i64 0, .int .i64 0, .int .i64 0]) (t := 35) ?_; intro gb304 hg w4 hbox hb; refine E7 (bB BK303.1 hb) (bS HB.1 hb) (hbox) (gX HB.1 hg) (gX HB.1 hg) (nB BK303.1 hg) (nC BK303.1 hg) ?_; clear BK303 HB; intro BK303 HB BK304 GW304 GE304 NB303_304 NB304_303; clear hb hbox hg) | ((with_reducible refine gate_dst (N := 3) rfl ?_); refine boxE (cs := #[.int .i64 0, .int .i64 0, .slice none 0 0, .int .i64 0, .int .i64 0, .int .i64 0, .int .i64 0, .int .i64 0]) (t := 35) ?_; intro gb305 hg w5 hbox hb; refine E10 (bB BK303.1 hb) (bB BK304.1 hb) (bS HB.1 hb) (hbox) (gX HB.1 hg) (gX HB.1 hg) (nB BK303.1 hg) (nC BK303.1 hg) (nB BK304.1 hg) (nC BK304.1 hg) ?_; clear BK303 BK304 HB; intro BK303 BK304 HB BK305 GW305 GE305 NB303_305 NB305_303 NB304_305 NB305_304; clear hb hbox hg; have hnb6 := NB303_304.1; have hnc6 := NB304_303.1; have hnb7 := NB303_305.1; have hnc7 := NB305_303.1; obtain ⟨hcz8_0, hcz8_1, hcz8_2, hcz8_3, hcz8_4, hcz8_5, hcz8_6, hcz8_7, hfz8_0, hfz8_1, hfz8_2, hfz8_3, hfz8_4, hfz8_5, hfz8_6, hfz8_7⟩ := cz8 BK303.1) | ((with_reducible refine gate_callee (f := 31) rfl ?_); refine goesM (N := (some 6)) #[.agg #[.int .i64 a0_0, .int .i64 a0_1, .slice A0_2 l0_2.length c0_2]] Try.func31 ?_; (with_reducible refine (laws_toBoard.calls k a0_0 a0_1 _ _ l0_2 t306 t307 t308 _ ?side1 ?side2 A2.1).mono ?_); (case side1 => exact CB (C_below HR0_2.1 HB.1)); (case side2 => exact HC0_2.1); rintro e w9 ⟨v309, rfl, ho0, hb⟩; refine ⟨_, rfl, ?_⟩; refine E5 (R_lower ho0 (bZ HB.1)) (bB BK303.1 hb) (bB BK304.1 hb) (bB BK305.1 hb) (bS HB.1 hb) ?_; clear BK303 BK304 BK305 HB; intro HO310 BK303 BK304 BK305 HB; (try clear hb); (try clear ho0); have hnb10 := NB305_304.1; have hnc10 := NB304_305.1; obtain ⟨hcz11_0, hcz11_1, hcz11_2, hcz11_3, hcz11_4, hcz11_5, hcz11_6, hcz11_7, hfz11_0, hfz11_1, hfz11_2, hfz11_3, hfz11_4, hfz11_5, hfz11_6, hfz11_7⟩ := cz8 BK305.1; obtain ⟨Ao12, co12, eo12⟩ := R_slice HO310.1; subst eo12; obtain ⟨hcz13_0, hcz13_1, hcz13_2, hcz13_3, hcz13_4, hcz13_5, hcz13_6, hcz13_7, hfz13_0, hfz13_1, hfz13_2, hfz13_3, hfz13_4, hfz13_5, hfz13_6, hfz13_7⟩ := cz8 BK303.1; obtain ⟨hcz14_0, hcz14_1, hcz14_2, hcz14_3, hcz14_4, hcz14_5, hcz14_6, hcz14_7, hfz14_0, hfz14_1, hfz14_2, hfz14_3, hfz14_4, hfz14_5, hfz14_6, hfz14_7⟩ := cz8 BK304.1))
 refine bodyPost_ret (results_cell_row rfl _ _ gb304 35 #[.int .i64 t306, .int .i64 t307, .slice Ao12 t308.length co12, .int .i64 a0_3, .int .i64 a0_4, .int .i64 a0_5, .int .i64 a0_6, .int .i64 a0_7] (0, 0) _ rfl (PF1 NB304_305.1 BK304.1) Try.underlying35 rfl (by kernel_rfl)) rfl ?_
 exact ⟨_, RF, by (with_reducible repeat (first | apply R_alloc | apply R_drewN | apply R_drew)); exact R_mono (RQ gb304 7 (RQ gb304 6 (RQ gb304 5 (RQ gb304 4 (RQ gb304 3 (RQ gb304 2 (RQ gb304 1 (RQ gb304 0 (R_far (p := ⟨gb305, 7, none⟩) (R_far (p := ⟨gb305, 6, none⟩) (R_far (p := ⟨gb305, 5, none⟩) (R_far (p := ⟨gb305, 4, none⟩) (R_far (p := ⟨gb305, 3, none⟩) (R_far (p := ⟨gb305, 2, none⟩) (R_far (p := ⟨gb305, 1, none⟩) (R_far (p := ⟨gb305, 0, none⟩) (R_types (R_types HO310.1 BK305.1 (by decide)) BK304.1 (by decide)) (fun _ hk => hk.1.2) (.int .i64 t306)) (fun _ hk => hk.1.2) (.int .i64 t307)) (fun _ hk => hk.1.2) (.slice Ao12 t308.length co12)) (fun _ hk => hk.1.2) (.int .i64 a0_3)) (fun _ hk => hk.1.2) (.int .i64 a0_4)) (fun _ hk => hk.1.2) (.int .i64 a0_5)) (fun _ hk => hk.1.2) (.int .i64 a0_6)) (fun _ hk => hk.1.2) (.int .i64 a0_7)) _) _) _) _) _) _) _) _) (fun _ hk => trivial), BL HB.1⟩

/-! ### impl_IsCell: function 83 -/
open Kd
def impl_IsCell.f (a0_0 : Int) (a0_1 : Int) : Option (Bool) := if a0_0 < 0 then (some false) else (if a0_0 > 7 then (some false) else (if a0_1 < 0 then (some false) else (if a0_1 > 1 then (some false) else (if a0_1 = 0 then (some true) else (if a0_0 = 3 then (some true) else (some (a0_0 == 6)))))))
theorem impl_IsCell.calls (a0_0 : Int) (a0_1 : Int) (r : Bool) (w : World) (h : impl_IsCell.f a0_0 a0_1 = some r) :
 Calls Try.prog 83 #[.agg #[.int .i64 a0_0, .int .i64 a0_1]] w fun e w' => e = .returned (.bool r) /\ Below w.heap.size w w' := by
 have hu98 := Try.underlying98
 have HB := Aside0.mk (Below.refl w.heap.size w)
 have H := h
 clear h
 unfold impl_IsCell.f at H
 replace H := ifB H; rcases H with ⟨c2b0, H⟩ | ⟨c2b0, H⟩
 · obtain rfl := Option.some.inj H
   go_enter Try.func83, Try.ntmps83
   go_wp2_with (first | ((with_reducible refine gate_dst (N := 1) rfl ?_); refine boxE (cs := #[.int .i64 a0_0, .int .i64 a0_1]) (t := 98) ?_; intro gb311 hg w3 hbox hb; refine E4b HB.1 hg hbox hb ?_; clear HB; intro HB BK311 GW311 GE311; clear hb hbox hg; obtain ⟨hcz4_0, hcz4_1, hfz4_0, hfz4_1⟩ := cz2 BK311.1))
   go_ret
   exact ⟨RF, BL HB.1⟩
 replace H := ifQ H; rcases H with ⟨c5, H⟩ | ⟨c5, H⟩
 · have c5b0 : decide (7 < a0_0) = true := decide_eq_true c5
   clear c5
   obtain rfl := Option.some.inj H
   go_enter Try.func83, Try.ntmps83
   go_wp2_with (first | ((with_reducible refine gate_dst (N := 1) rfl ?_); refine boxE (cs := #[.int .i64 a0_0, .int .i64 a0_1]) (t := 98) ?_; intro gb311 hg w6 hbox hb; refine E4b HB.1 hg hbox hb ?_; clear HB; intro HB BK311 GW311 GE311; clear hb hbox hg; obtain ⟨hcz7_0, hcz7_1, hfz7_0, hfz7_1⟩ := cz2 BK311.1))
   go_ret
   exact ⟨RF, BL HB.1⟩
 have c5b0 : decide (7 < a0_0) = false := decide_eq_false c5
 clear c5
 replace H := ifB H; rcases H with ⟨c8b0, H⟩ | ⟨c8b0, H⟩
 · obtain rfl := Option.some.inj H
   go_enter Try.func83, Try.ntmps83
   go_wp2_with (first | ((with_reducible refine gate_dst (N := 1) rfl ?_); refine boxE (cs := #[.int .i64 a0_0, .int .i64 a0_1]) (t := 98) ?_; intro gb311 hg w9 hbox hb; refine E4b HB.1 hg hbox hb ?_; clear HB; intro HB BK311 GW311 GE311; clear hb hbox hg; obtain ⟨hcz10_0, hcz10_1, hfz10_0, hfz10_1⟩ := cz2 BK311.1))
   go_ret
   exact ⟨RF, BL HB.1⟩
 replace H := ifQ H; rcases H with ⟨c11, H⟩ | ⟨c11, H⟩
 · have c11b0 : decide (1 < a0_1) = true := decide_eq_true c11
   clear c11
   obtain rfl := Option.some.inj H
   go_enter Try.func83, Try.ntmps83
   go_wp2_with (first | ((with_reducible refine gate_dst (N := 1) rfl ?_); refine boxE (cs := #[.int .i64 a0_0, .int .i64 a0_1]) (t := 98) ?_; intro gb311 hg w12 hbox hb; refine E4b HB.1 hg hbox hb ?_; clear HB; intro HB BK311 GW311 GE311; clear hb hbox hg; obtain ⟨hcz13_0, hcz13_1, hfz13_0, hfz13_1⟩ := cz2 BK311.1))
   go_ret
   exact ⟨RF, BL HB.1⟩
 have c11b0 : decide (1 < a0_1) = false := decide_eq_false c11
 clear c11
 replace H := ifQ H; rcases H with ⟨c14, H⟩ | ⟨c14, H⟩
 · have c14b0 := beq_iff_eq.mpr c14
   have c14b1 := bne_eq_false_iff_eq.mpr c14
   clear c14
   obtain rfl := Option.some.inj H
   go_enter Try.func83, Try.ntmps83
   go_wp2_with (first | ((with_reducible refine gate_dst (N := 1) rfl ?_); refine boxE (cs := #[.int .i64 a0_0, .int .i64 a0_1]) (t := 98) ?_; intro gb311 hg w15 hbox hb; refine E4b HB.1 hg hbox hb ?_; clear HB; intro HB BK311 GW311 GE311; clear hb hbox hg; obtain ⟨hcz16_0, hcz16_1, hfz16_0, hfz16_1⟩ := cz2 BK311.1))
   go_ret
   exact ⟨RF, BL HB.1⟩
 have c14b0 := beq_eq_false_iff_ne.mpr c14
 have c14b1 := bne_iff_ne.mpr c14
 replace H := ifQ H; rcases H with ⟨c17, H⟩ | ⟨c17, H⟩
 · have c17b0 := beq_iff_eq.mpr c17
   have c17b1 := bne_eq_false_iff_eq.mpr c17
   clear c17
   obtain rfl := Option.some.inj H
   go_enter Try.func83, Try.ntmps83
   go_wp2_with (first | ((with_reducible refine gate_dst (N := 1) rfl ?_); refine boxE (cs := #[.int .i64 a0_0, .int .i64 a0_1]) (t := 98) ?_; intro gb311 hg w18 hbox hb; refine E4b HB.1 hg hbox hb ?_; clear HB; intro HB BK311 GW311 GE311; clear hb hbox hg; obtain ⟨hcz19_0, hcz19_1, hfz19_0, hfz19_1⟩ := cz2 BK311.1))
   go_ret
   exact ⟨RF, BL HB.1⟩
 have c17b0 := beq_eq_false_iff_ne.mpr c17
 have c17b1 := bne_iff_ne.mpr c17
 obtain rfl := Option.some.inj H
 go_enter Try.func83, Try.ntmps83
 go_wp2_with (first | ((with_reducible refine gate_dst (N := 1) rfl ?_); refine boxE (cs := #[.int .i64 a0_0, .int .i64 a0_1]) (t := 98) ?_; intro gb311 hg w20 hbox hb; refine E4b HB.1 hg hbox hb ?_; clear HB; intro HB BK311 GW311 GE311; clear hb hbox hg; obtain ⟨hcz21_0, hcz21_1, hfz21_0, hfz21_1⟩ := cz2 BK311.1))
 go_ret
 exact ⟨RF, BL HB.1⟩
/-! ### impl_validCells: function 74 -/
open Kd
def impl_validCells.l0 : Nat -> List (S98) -> Int -> Int -> Option (Bool)
 | 0, _, _, _ => none
 | k + 1, x8, x9, x10 => if x10 < x9 then (if 0 <= x10 then (if x10 < (x8.length : Int) then ((impl_IsCell.f ((rd_T98 x8 x10).f0) ((rd_T98 x8 x10).f1)).bind fun t314 => (if t314 = true then (impl_validCells.l0 k x8 x9 (wrap64 (x10 + 1))) else (some false))) else (none)) else (none)) else (some true)
def impl_validCells.f (k : Nat) (l0 : List (S98)) : Option (Bool) := if (l0.length : Int) > 90 then (some false) else (impl_validCells.l0 k l0 (l0.length : Int) 0)
theorem impl_validCells.mono_l : ∀ k, (∀ y0 y1 y2, LeO (impl_validCells.l0 k y0 y1 y2) (impl_validCells.l0 (k + 1) y0 y1 y2))
 | 0 => fun _ _ _ r h => by simp [impl_validCells.l0] at h
 | k + 1 => by
  have ih0 := impl_validCells.mono_l k
  intros
  first | unfold impl_validCells.l0
  exact LM1 ih0
theorem impl_validCells.mono : ∀ a0 k, LeO (impl_validCells.f k a0) (impl_validCells.f (k + 1) a0) := by
 intro a0 k
 have ih0 := impl_validCells.mono_l k
 unfold impl_validCells.f
 exact LM1 ih0
theorem impl_validCells.calls (k : Nat) (A0 : Option Addr) (c0 : Nat) (l0 : List (S98)) (r : Bool) (w : World) (hr0 : Kd.C k98 w A0 l0.length l0) (hc0 : l0.length <= c0) (h : impl_validCells.f k l0 = some r) :
 Calls Try.prog 74 #[.slice A0 l0.length c0] w fun e w' => e = .returned (.bool r) /\ Below w.heap.size w w' := by
 have hu98 := Try.underlying98
 have HR0 := Aside0.mk hr0
 have HC0 := Aside0.mk hc0
 clear hr0 hc0
 have HB := Aside0.mk (Below.refl w.heap.size w)
 have H := h
 clear h
 unfold impl_validCells.f at H
 replace H := ifQ H; rcases H with ⟨c2, H⟩ | ⟨c2, H⟩
 · have c2b0 : decide (90 < (l0.length : Int)) = true := decide_eq_true c2
   have c2b1 : decide (90 < l0.length) = true := decide_eq_true (by omega)
   clear c2
   obtain rfl := Option.some.inj H
   go_enter Try.func74, Try.ntmps74
   go_wp2
   go_ret
   exact ⟨RF, BL HB.1⟩
 have c2b0 : decide (90 < (l0.length : Int)) = false := decide_eq_false c2
 have c2b1 : decide (90 < l0.length) = false := decide_eq_false (by omega)
 clear c2
 have H' := Aside0.mk H
 clear H
 go_enter Try.func74, Try.ntmps74
 go_wp2
 go_loopg [10] k (fun kq v10 w' => ∃ (x10_1 : Int), v10 = .int .i64 x10_1 /\ Aside0 (impl_validCells.l0 kq l0 (l0.length : Int) x10_1 = some r) /\ Aside0 (kq <= k) /\ Aside0 (Below w.heap.size w w'))
 case atStart => exact ⟨(0), RG, H', ⟨Nat.le_refl _⟩, ⟨BL HB.1⟩⟩
 clear H'
 clear c2b0 c2b1
 obtain ⟨x10_1, rfl, HA, HK1, HB⟩ := hrel
 cases gk with
 | zero => exact absurd HA.1 (by simp [impl_validCells.l0])
 | succ k1 => ?_
 have H := HA.1
 clear HA
 simp only [impl_validCells.l0] at H
 replace H := ifB H; rcases H with ⟨c3b0, H⟩ | ⟨c3b0, H⟩
 · replace H := ifN H; obtain ⟨c4b0, H⟩ := H
   replace H := ifN H; obtain ⟨c5b0, H⟩ := H
   replace H := bindA H; obtain ⟨t314, A6, H⟩ := H
   replace H := ifX H; rcases H with ⟨rfl, H⟩ | ⟨rfl, H⟩
   · have H' := Aside0.mk H
     clear H
     have p312 : 0 <= (x10_1 : Int) := OD
     have q312 : x10_1 < (l0.length : Int) := OD
     obtain ⟨ad312, e312, hx312_0, hx312_1⟩ := at_T98 HR0.1 x10_1 p312 q312
     cases e312
     replace hx312_0 := (HB.1.cell (World.block_lt_of_cell? w _ hx312_0)).trans hx312_0
     replace hx312_1 := (HB.1.cell (World.block_lt_of_cell? w _ hx312_1)).trans hx312_1
     replace p312 := eq_true p312
     replace q312 := eq_true q312
     go_wp2_with (first | ((with_reducible refine gate_dst (N := 4) rfl ?_); refine boxE (cs := #[.int .i64 0, .int .i64 0]) (t := 98) ?_; intro gb313 hg w8 hbox hb; refine E4b HB.1 hg hbox hb ?_; clear HB; intro HB BK313 GW313 GE313; clear hb hbox hg; obtain ⟨hcz9_0, hcz9_1, hfz9_0, hfz9_1⟩ := cz2 BK313.1) | ((with_reducible refine gate_callee (f := 83) rfl ?_); refine goesM (N := (some 15)) #[.agg #[.int .i64 ((rd_T98 l0 x10_1).f0), .int .i64 ((rd_T98 l0 x10_1).f1)]] Try.func83 ?_; (with_reducible refine (impl_IsCell.calls ((rd_T98 l0 x10_1).f0) ((rd_T98 l0 x10_1).f1) true _ A6.1).mono ?_); rintro e w10 ⟨rfl, hb⟩; refine ⟨_, rfl, ?_⟩; refine E2 (blk_below (g := gb313) (o := .cells #[.int .i64 ((rd_T98 l0 x10_1).f0), .int .i64 ((rd_T98 l0 x10_1).f1)] 98 (0, 0)) (PF0 BK313.1) hb) (bS HB.1 hb) ?_; clear BK313 HB; intro BK313 HB; (try clear hb)))
     go_roundg k1
     case measure => have := HK1.1; omega
     case rel => exact ⟨(wrap64 (x10_1 + 1)), RG, H', ⟨by have := HK1.1; omega⟩, ⟨BL HB.1⟩⟩
   obtain rfl := Option.some.inj H
   have p312 : 0 <= (x10_1 : Int) := OD
   have q312 : x10_1 < (l0.length : Int) := OD
   obtain ⟨ad312, e312, hx312_0, hx312_1⟩ := at_T98 HR0.1 x10_1 p312 q312
   cases e312
   replace hx312_0 := (HB.1.cell (World.block_lt_of_cell? w _ hx312_0)).trans hx312_0
   replace hx312_1 := (HB.1.cell (World.block_lt_of_cell? w _ hx312_1)).trans hx312_1
   replace p312 := eq_true p312
   replace q312 := eq_true q312
   go_wp2_with (first | ((with_reducible refine gate_dst (N := 4) rfl ?_); refine boxE (cs := #[.int .i64 0, .int .i64 0]) (t := 98) ?_; intro gb313 hg w11 hbox hb; refine E4b HB.1 hg hbox hb ?_; clear HB; intro HB BK313 GW313 GE313; clear hb hbox hg; obtain ⟨hcz12_0, hcz12_1, hfz12_0, hfz12_1⟩ := cz2 BK313.1) | ((with_reducible refine gate_callee (f := 83) rfl ?_); refine goesM (N := (some 15)) #[.agg #[.int .i64 ((rd_T98 l0 x10_1).f0), .int .i64 ((rd_T98 l0 x10_1).f1)]] Try.func83 ?_; (with_reducible refine (impl_IsCell.calls ((rd_T98 l0 x10_1).f0) ((rd_T98 l0 x10_1).f1) false _ A6.1).mono ?_); rintro e w13 ⟨rfl, hb⟩; refine ⟨_, rfl, ?_⟩; refine E2 (blk_below (g := gb313) (o := .cells #[.int .i64 ((rd_T98 l0 x10_1).f0), .int .i64 ((rd_T98 l0 x10_1).f1)] 98 (0, 0)) (PF0 BK313.1) hb) (bS HB.1 hb) ?_; clear BK313 HB; intro BK313 HB; (try clear hb)))
   go_ret
   exact ⟨RF, BL HB.1⟩
 obtain rfl := Option.some.inj H
 go_wp2
 go_ret
 exact ⟨RF, BL HB.1⟩
/-! ### impl_IsBoard: function 65 -/
open Kd
def impl_IsBoard.f (k : Nat) (a0_0 : Int) (a0_1 : Int) (l0_2 : List (S98)) : Option (Bool) := if a0_0 ≥ 1 then (if a0_0 <= 10 then (if a0_1 ≥ 1 then (if a0_1 <= 9 then (if (l0_2.length : Int) = (wrap64 (a0_0 * a0_1)) then ((impl_validCells.f k l0_2).bind fun t316 => (some t316)) else (some false)) else (some false)) else (some false)) else (some false)) else (some false)
theorem impl_IsBoard.mono : ∀ a0 a1 a2 k, LeO (impl_IsBoard.f k a0 a1 a2) (impl_IsBoard.f (k + 1) a0 a1 a2) := by
 intro a0 a1 a2 k
 unfold impl_IsBoard.f
 repeat' first
  | (with_reducible exact impl_validCells.mono _ _)
  | (with_reducible exact LeO.refl _)
  | (with_reducible exact LeO.none _)
  | (with_reducible refine LeO.ite ?_ ?_)
  | (with_reducible refine LeO.bind ?_ (fun _ => ?_))
  | exact impl_validCells.mono _ _
  | exact LeO.none _
  | refine LeO.ite ?_ ?_
  | refine LeO.bind ?_ (fun _ => ?_)
theorem impl_IsBoard.calls (k : Nat) (a0_0 : Int) (a0_1 : Int) (A0_2 : Option Addr) (c0_2 : Nat) (l0_2 : List (S98)) (r : Bool) (w : World) (hr0_2 : Kd.C k98 w A0_2 l0_2.length l0_2) (hc0_2 : l0_2.length <= c0_2) (h : impl_IsBoard.f k a0_0 a0_1 l0_2 = some r) :
 Calls Try.prog 65 #[.agg #[.int .i64 a0_0, .int .i64 a0_1, .slice A0_2 l0_2.length c0_2]] w fun e w' => e = .returned (.bool r) /\ Below w.heap.size w w' := by
 have hu33 := Try.underlying33
 have HR0_2 := Aside0.mk hr0_2
 have HC0_2 := Aside0.mk hc0_2
 clear hr0_2 hc0_2
 have HB := Aside0.mk (Below.refl w.heap.size w)
 have H := h
 clear h
 unfold impl_IsBoard.f at H
 replace H := ifQ H; rcases H with ⟨c2, H⟩ | ⟨c2, H⟩
 · have c2b0 : decide (1 <= a0_0) = true := decide_eq_true c2
   clear c2
   replace H := ifB H; rcases H with ⟨c3b0, H⟩ | ⟨c3b0, H⟩
   · replace H := ifQ H; rcases H with ⟨c4, H⟩ | ⟨c4, H⟩
     · have c4b0 : decide (1 <= a0_1) = true := decide_eq_true c4
       clear c4
       replace H := ifB H; rcases H with ⟨c5b0, H⟩ | ⟨c5b0, H⟩
       · replace H := ifQ H; rcases H with ⟨c6, H⟩ | ⟨c6, H⟩
         · have c6b0 := beq_iff_eq.mpr c6
           have c6b1 := bne_eq_false_iff_eq.mpr c6
           clear c6
           replace H := bindA H; obtain ⟨t316, A7, H⟩ := H
           obtain rfl := Option.some.inj H
           go_enter Try.func65, Try.ntmps65
           go_wp2_with (first | ((with_reducible refine gate_dst (N := 1) rfl ?_); (try (refine gate_guard (by rfl) ?_; dsimp only)); refine boxE (cs := #[.int .i64 a0_0, .int .i64 a0_1, .slice A0_2 l0_2.length c0_2]) (t := 33) ?_; intro gb315 hg w8 hbox hb; refine E4b HB.1 hg hbox hb ?_; clear HB; intro HB BK315 GW315 GE315; clear hb hbox hg; obtain ⟨hcz9_0, hcz9_1, hcz9_2, hfz9_0, hfz9_1, hfz9_2⟩ := cz3 BK315.1) | (go_at_call 74; (with_reducible refine (impl_validCells.calls k _ _ l0_2 t316 _ ?side1 ?side2 A7.1).mono ?_); (case side1 => exact CB (C_below HR0_2.1 HB.1)); (case side2 => exact HC0_2.1); rintro e w10 ⟨rfl, hb⟩; refine E2 (bB BK315.1 hb) (bS HB.1 hb) ?_; clear BK315 HB; intro BK315 HB; (try clear hb)))
           go_ret
           exact ⟨RF, BL HB.1⟩
         have c6b0 := beq_eq_false_iff_ne.mpr c6
         have c6b1 := bne_iff_ne.mpr c6
         obtain rfl := Option.some.inj H
         go_enter Try.func65, Try.ntmps65
         go_wp2_with (first | ((with_reducible refine gate_dst (N := 1) rfl ?_); (try (refine gate_guard (by rfl) ?_; dsimp only)); refine boxE (cs := #[.int .i64 a0_0, .int .i64 a0_1, .slice A0_2 l0_2.length c0_2]) (t := 33) ?_; intro gb315 hg w11 hbox hb; refine E4b HB.1 hg hbox hb ?_; clear HB; intro HB BK315 GW315 GE315; clear hb hbox hg; obtain ⟨hcz12_0, hcz12_1, hcz12_2, hfz12_0, hfz12_1, hfz12_2⟩ := cz3 BK315.1))
         go_ret
         exact ⟨RF, BL HB.1⟩
       obtain rfl := Option.some.inj H
       go_enter Try.func65, Try.ntmps65
       go_wp2_with (first | ((with_reducible refine gate_dst (N := 1) rfl ?_); (try (refine gate_guard (by rfl) ?_; dsimp only)); refine boxE (cs := #[.int .i64 a0_0, .int .i64 a0_1, .slice A0_2 l0_2.length c0_2]) (t := 33) ?_; intro gb315 hg w13 hbox hb; refine E4b HB.1 hg hbox hb ?_; clear HB; intro HB BK315 GW315 GE315; clear hb hbox hg; obtain ⟨hcz14_0, hcz14_1, hcz14_2, hfz14_0, hfz14_1, hfz14_2⟩ := cz3 BK315.1))
       go_ret
       exact ⟨RF, BL HB.1⟩
     have c4b0 : decide (1 <= a0_1) = false := decide_eq_false c4
     clear c4
     obtain rfl := Option.some.inj H
     go_enter Try.func65, Try.ntmps65
     go_wp2_with (first | ((with_reducible refine gate_dst (N := 1) rfl ?_); (try (refine gate_guard (by rfl) ?_; dsimp only)); refine boxE (cs := #[.int .i64 a0_0, .int .i64 a0_1, .slice A0_2 l0_2.length c0_2]) (t := 33) ?_; intro gb315 hg w15 hbox hb; refine E4b HB.1 hg hbox hb ?_; clear HB; intro HB BK315 GW315 GE315; clear hb hbox hg; obtain ⟨hcz16_0, hcz16_1, hcz16_2, hfz16_0, hfz16_1, hfz16_2⟩ := cz3 BK315.1))
     go_ret
     exact ⟨RF, BL HB.1⟩
   obtain rfl := Option.some.inj H
   go_enter Try.func65, Try.ntmps65
   go_wp2_with (first | ((with_reducible refine gate_dst (N := 1) rfl ?_); (try (refine gate_guard (by rfl) ?_; dsimp only)); refine boxE (cs := #[.int .i64 a0_0, .int .i64 a0_1, .slice A0_2 l0_2.length c0_2]) (t := 33) ?_; intro gb315 hg w17 hbox hb; refine E4b HB.1 hg hbox hb ?_; clear HB; intro HB BK315 GW315 GE315; clear hb hbox hg; obtain ⟨hcz18_0, hcz18_1, hcz18_2, hfz18_0, hfz18_1, hfz18_2⟩ := cz3 BK315.1))
   go_ret
   exact ⟨RF, BL HB.1⟩
 have c2b0 : decide (1 <= a0_0) = false := decide_eq_false c2
 clear c2
 obtain rfl := Option.some.inj H
 go_enter Try.func65, Try.ntmps65
 go_wp2_with (first | ((with_reducible refine gate_dst (N := 1) rfl ?_); (try (refine gate_guard (by rfl) ?_; dsimp only)); refine boxE (cs := #[.int .i64 a0_0, .int .i64 a0_1, .slice A0_2 l0_2.length c0_2]) (t := 33) ?_; intro gb315 hg w19 hbox hb; refine E4b HB.1 hg hbox hb ?_; clear HB; intro HB BK315 GW315 GE315; clear hb hbox hg; obtain ⟨hcz20_0, hcz20_1, hcz20_2, hfz20_0, hfz20_1, hfz20_2⟩ := cz3 BK315.1))
 go_ret
 exact ⟨RF, BL HB.1⟩
/-! ### impl_validEntry: function 51 -/
open Kd
def impl_validEntry.f (k : Nat) (a0_0 : Int) (a0_1 : Int) (l0_2 : List (S98)) (a1 : Int) : Option (Bool) := (impl_IsBoard.f k a0_0 a0_1 l0_2).bind fun t318 => (if t318 = true then (if a1 ≥ 0 then (some (decide (a1 < a0_1))) else (some false)) else (some false))
theorem impl_validEntry.mono : ∀ a0 a1 a2 a3 k, LeO (impl_validEntry.f k a0 a1 a2 a3) (impl_validEntry.f (k + 1) a0 a1 a2 a3) := by
 intro a0 a1 a2 a3 k
 unfold impl_validEntry.f
 repeat' first
  | (with_reducible exact impl_IsBoard.mono _ _ _ _)
  | (with_reducible exact LeO.refl _)
  | (with_reducible exact LeO.none _)
  | (with_reducible refine LeO.ite ?_ ?_)
  | (with_reducible refine LeO.bind ?_ (fun _ => ?_))
  | exact impl_IsBoard.mono _ _ _ _
  | exact LeO.none _
  | refine LeO.ite ?_ ?_
  | refine LeO.bind ?_ (fun _ => ?_)
theorem impl_validEntry.calls (k : Nat) (a0_0 : Int) (a0_1 : Int) (A0_2 : Option Addr) (c0_2 : Nat) (l0_2 : List (S98)) (a1 : Int) (r : Bool) (w : World) (hr0_2 : Kd.C k98 w A0_2 l0_2.length l0_2) (hc0_2 : l0_2.length <= c0_2) (h : impl_validEntry.f k a0_0 a0_1 l0_2 a1 = some r) :
 Calls Try.prog 51 #[.agg #[.int .i64 a0_0, .int .i64 a0_1, .slice A0_2 l0_2.length c0_2], .int .i64 a1] w fun e w' => e = .returned (.bool r) /\ Below w.heap.size w w' := by
 have hu33 := Try.underlying33
 have HR0_2 := Aside0.mk hr0_2
 have HC0_2 := Aside0.mk hc0_2
 clear hr0_2 hc0_2
 have HB := Aside0.mk (Below.refl w.heap.size w)
 have H := h
 clear h
 unfold impl_validEntry.f at H
 replace H := bindA H; obtain ⟨t318, A3, H⟩ := H
 replace H := ifX H; rcases H with ⟨rfl, H⟩ | ⟨rfl, H⟩
 · replace H := ifQ H; rcases H with ⟨c5, H⟩ | ⟨c5, H⟩
   · have c5b0 : decide (0 <= a1) = true := decide_eq_true c5
     clear c5
     obtain rfl := Option.some.inj H
     go_enter Try.func51, Try.ntmps51
     go_wp2_with (first | ((with_reducible refine gate_dst (N := 2) rfl ?_); refine boxE (cs := #[.int .i64 a0_0, .int .i64 a0_1, .slice A0_2 l0_2.length c0_2]) (t := 33) ?_; intro gb317 hg w6 hbox hb; refine E4b HB.1 hg hbox hb ?_; clear HB; intro HB BK317 GW317 GE317; clear hb hbox hg; obtain ⟨hcz7_0, hcz7_1, hcz7_2, hfz7_0, hfz7_1, hfz7_2⟩ := cz3 BK317.1) | ((with_reducible refine gate_callee (f := 65) rfl ?_); refine goesM (N := (some 6)) #[.agg #[.int .i64 a0_0, .int .i64 a0_1, .slice A0_2 l0_2.length c0_2]] Try.func65 ?_; (with_reducible refine (impl_IsBoard.calls k a0_0 a0_1 _ _ l0_2 true _ ?side1 ?side2 A3.1).mono ?_); (case side1 => exact CB (C_below HR0_2.1 HB.1)); (case side2 => exact HC0_2.1); rintro e w8 ⟨rfl, hb⟩; refine ⟨_, rfl, ?_⟩; refine E2 (bB BK317.1 hb) (bS HB.1 hb) ?_; clear BK317 HB; intro BK317 HB; (try clear hb); obtain ⟨hcz9_0, hcz9_1, hcz9_2, hfz9_0, hfz9_1, hfz9_2⟩ := cz3 BK317.1))
     go_ret
     exact ⟨RF, BL HB.1⟩
   have c5b0 : decide (0 <= a1) = false := decide_eq_false c5
   clear c5
   obtain rfl := Option.some.inj H
   go_enter Try.func51, Try.ntmps51
   go_wp2_with (first | ((with_reducible refine gate_dst (N := 2) rfl ?_); refine boxE (cs := #[.int .i64 a0_0, .int .i64 a0_1, .slice A0_2 l0_2.length c0_2]) (t := 33) ?_; intro gb317 hg w10 hbox hb; refine E4b HB.1 hg hbox hb ?_; clear HB; intro HB BK317 GW317 GE317; clear hb hbox hg; obtain ⟨hcz11_0, hcz11_1, hcz11_2, hfz11_0, hfz11_1, hfz11_2⟩ := cz3 BK317.1) | ((with_reducible refine gate_callee (f := 65) rfl ?_); refine goesM (N := (some 6)) #[.agg #[.int .i64 a0_0, .int .i64 a0_1, .slice A0_2 l0_2.length c0_2]] Try.func65 ?_; (with_reducible refine (impl_IsBoard.calls k a0_0 a0_1 _ _ l0_2 true _ ?side1 ?side2 A3.1).mono ?_); (case side1 => exact CB (C_below HR0_2.1 HB.1)); (case side2 => exact HC0_2.1); rintro e w12 ⟨rfl, hb⟩; refine ⟨_, rfl, ?_⟩; refine E2 (bB BK317.1 hb) (bS HB.1 hb) ?_; clear BK317 HB; intro BK317 HB; (try clear hb)))
   go_ret
   exact ⟨RF, BL HB.1⟩
 obtain rfl := Option.some.inj H
 go_enter Try.func51, Try.ntmps51
 go_wp2_with (first | ((with_reducible refine gate_dst (N := 2) rfl ?_); refine boxE (cs := #[.int .i64 a0_0, .int .i64 a0_1, .slice A0_2 l0_2.length c0_2]) (t := 33) ?_; intro gb317 hg w13 hbox hb; refine E4b HB.1 hg hbox hb ?_; clear HB; intro HB BK317 GW317 GE317; clear hb hbox hg; obtain ⟨hcz14_0, hcz14_1, hcz14_2, hfz14_0, hfz14_1, hfz14_2⟩ := cz3 BK317.1) | ((with_reducible refine gate_callee (f := 65) rfl ?_); refine goesM (N := (some 6)) #[.agg #[.int .i64 a0_0, .int .i64 a0_1, .slice A0_2 l0_2.length c0_2]] Try.func65 ?_; (with_reducible refine (impl_IsBoard.calls k a0_0 a0_1 _ _ l0_2 false _ ?side1 ?side2 A3.1).mono ?_); (case side1 => exact CB (C_below HR0_2.1 HB.1)); (case side2 => exact HC0_2.1); rintro e w15 ⟨rfl, hb⟩; refine ⟨_, rfl, ?_⟩; refine E2 (bB BK317.1 hb) (bS HB.1 hb) ?_; clear BK317 HB; intro BK317 HB; (try clear hb)))
 go_ret
 exact ⟨RF, BL HB.1⟩

/-! ### impl_IsMachine: function 32 -/
open Kd
def impl_IsMachine.f (k : Nat) (a0_0 : Int) (a0_1 : Int) (l0_2 : List (S98)) (a0_3 : Int) (a0_4 : Int) (a0_5 : Int) (a0_6 : Int) (a0_7 : Int) : Option (Bool) := (impl_validEntry.f k a0_0 a0_1 l0_2 a0_3).bind fun t320 => (if t320 = true then ((impl_validEntry.f k a0_0 a0_1 l0_2 a0_4).bind fun t321 => (if t321 = true then (if a0_5 ≥ 0 then (if a0_5 <= 30 then (if a0_6 ≥ 0 then (if a0_6 <= 30 then (if a0_7 ≥ 0 then (some (decide (a0_7 <= 2))) else (some false)) else (some false)) else (some false)) else (some false)) else (some false)) else (some false))) else (some false))
theorem impl_IsMachine.mono : ∀ a0 a1 a2 a3 a4 a5 a6 a7 k, LeO (impl_IsMachine.f k a0 a1 a2 a3 a4 a5 a6 a7) (impl_IsMachine.f (k + 1) a0 a1 a2 a3 a4 a5 a6 a7) := by
 intro a0 a1 a2 a3 a4 a5 a6 a7 k
 unfold impl_IsMachine.f
 repeat' first
  | (with_reducible exact impl_validEntry.mono _ _ _ _ _)
  | (with_reducible exact LeO.refl _)
  | (with_reducible exact LeO.none _)
  | (with_reducible refine LeO.ite ?_ ?_)
  | (with_reducible refine LeO.bind ?_ (fun _ => ?_))
  | exact impl_validEntry.mono _ _ _ _ _
  | exact LeO.none _
  | refine LeO.ite ?_ ?_
  | refine LeO.bind ?_ (fun _ => ?_)
theorem impl_IsMachine.calls (k : Nat) (a0_0 : Int) (a0_1 : Int) (A0_2 : Option Addr) (c0_2 : Nat) (l0_2 : List (S98)) (a0_3 : Int) (a0_4 : Int) (a0_5 : Int) (a0_6 : Int) (a0_7 : Int) (r : Bool) (w : World) (hr0_2 : Kd.C k98 w A0_2 l0_2.length l0_2) (hc0_2 : l0_2.length <= c0_2) (h : impl_IsMachine.f k a0_0 a0_1 l0_2 a0_3 a0_4 a0_5 a0_6 a0_7 = some r) :
 Calls Try.prog 32 #[.agg #[.int .i64 a0_0, .int .i64 a0_1, .slice A0_2 l0_2.length c0_2, .int .i64 a0_3, .int .i64 a0_4, .int .i64 a0_5, .int .i64 a0_6, .int .i64 a0_7]] w fun e w' => e = .returned (.bool r) /\ Below w.heap.size w w' := by
 have hu35 := Try.underlying35
 have hu33 := Try.underlying33
 have HR0_2 := Aside0.mk hr0_2
 have HC0_2 := Aside0.mk hc0_2
 clear hr0_2 hc0_2
 have HB := Aside0.mk (Below.refl w.heap.size w)
 have H := h
 clear h
 unfold impl_IsMachine.f at H
 replace H := bindA H; obtain ⟨t320, A2, H⟩ := H
 replace H := ifX H; rcases H with ⟨rfl, H⟩ | ⟨rfl, H⟩
 · replace H := bindA H; obtain ⟨t321, A4, H⟩ := H
   replace H := ifX H; rcases H with ⟨rfl, H⟩ | ⟨rfl, H⟩
   · replace H := ifQ H; rcases H with ⟨c6, H⟩ | ⟨c6, H⟩
     · have c6b0 : decide (0 <= a0_5) = true := decide_eq_true c6
       clear c6
       replace H := ifB H; rcases H with ⟨c7b0, H⟩ | ⟨c7b0, H⟩
       · replace H := ifQ H; rcases H with ⟨c8, H⟩ | ⟨c8, H⟩
         · have c8b0 : decide (0 <= a0_6) = true := decide_eq_true c8
           clear c8
           replace H := ifB H; rcases H with ⟨c9b0, H⟩ | ⟨c9b0, H⟩
           · replace H := ifQ H; rcases H with ⟨c10, H⟩ | ⟨c10, H⟩
             · have c10b0 : decide (0 <= a0_7) = true := decide_eq_true c10
               clear c10
               obtain rfl := Option.some.inj H
               go_enter Try.func32, Try.ntmps32
               go_wp2_with (first | ((with_reducible refine gate_dst (N := 1) rfl ?_); refine boxE (cs := #[.int .i64 a0_0, .int .i64 a0_1, .slice A0_2 l0_2.length c0_2, .int .i64 a0_3, .int .i64 a0_4, .int .i64 a0_5, .int .i64 a0_6, .int .i64 a0_7]) (t := 35) ?_; intro gb319 hg w11 hbox hb; refine E4b HB.1 hg hbox hb ?_; clear HB; intro HB BK319 GW319 GE319; clear hb hbox hg; obtain ⟨hcz12_0, hcz12_1, hcz12_2, hcz12_3, hcz12_4, hcz12_5, hcz12_6, hcz12_7, hfz12_0, hfz12_1, hfz12_2, hfz12_3, hfz12_4, hfz12_5, hfz12_6, hfz12_7⟩ := cz8 BK319.1) | ((with_reducible refine gate_callee (f := 51) rfl ?_); refine goesM (N := (some 7)) #[.agg #[.int .i64 a0_0, .int .i64 a0_1, .slice A0_2 l0_2.length c0_2], .int .i64 a0_3] Try.func51 ?_; (with_reducible refine (impl_validEntry.calls k a0_0 a0_1 _ _ l0_2 a0_3 true _ ?side1 ?side2 A2.1).mono ?_); (case side1 => exact CB (C_below HR0_2.1 HB.1)); (case side2 => exact HC0_2.1); rintro e w13 ⟨rfl, hb⟩; refine ⟨_, rfl, ?_⟩; refine E2 (bB BK319.1 hb) (bS HB.1 hb) ?_; clear BK319 HB; intro BK319 HB; (try clear hb); obtain ⟨hcz14_0, hcz14_1, hcz14_2, hcz14_3, hcz14_4, hcz14_5, hcz14_6, hcz14_7, hfz14_0, hfz14_1, hfz14_2, hfz14_3, hfz14_4, hfz14_5, hfz14_6, hfz14_7⟩ := cz8 BK319.1) | (go_at_call 51; (with_reducible refine (impl_validEntry.calls k a0_0 a0_1 _ _ l0_2 a0_4 true _ ?side1 ?side2 A4.1).mono ?_); (case side1 => exact CB (C_below HR0_2.1 HB.1)); (case side2 => exact HC0_2.1); rintro e w15 ⟨rfl, hb⟩; refine E2 (bB BK319.1 hb) (bS HB.1 hb) ?_; clear BK319 HB; intro BK319 HB; (try clear hb); obtain ⟨hcz16_0, hcz16_1, hcz16_2, hcz16_3, hcz16_4, hcz16_5, hcz16_6, hcz16_7, hfz16_0, hfz16_1, hfz16_2, hfz16_3, hfz16_4, hfz16_5, hfz16_6, hfz16_7⟩ := cz8 BK319.1))
               go_ret
               exact ⟨RF, BL HB.1⟩
             have c10b0 : decide (0 <= a0_7) = false := decide_eq_false c10
             clear c10
             obtain rfl := Option.some.inj H
             go_enter Try.func32, Try.ntmps32
             go_wp2_with (first | ((with_reducible refine gate_dst (N := 1) rfl ?_); refine boxE (cs := #[.int .i64 a0_0, .int .i64 a0_1, .slice A0_2 l0_2.length c0_2, .int .i64 a0_3, .int .i64 a0_4, .int .i64 a0_5, .int .i64 a0_6, .int .i64 a0_7]) (t := 35) ?_; intro gb319 hg w17 hbox hb; refine E4b HB.1 hg hbox hb ?_; clear HB; intro HB BK319 GW319 GE319; clear hb hbox hg; obtain ⟨hcz18_0, hcz18_1, hcz18_2, hcz18_3, hcz18_4, hcz18_5, hcz18_6, hcz18_7, hfz18_0, hfz18_1, hfz18_2, hfz18_3, hfz18_4, hfz18_5, hfz18_6, hfz18_7⟩ := cz8 BK319.1) | ((with_reducible refine gate_callee (f := 51) rfl ?_); refine goesM (N := (some 7)) #[.agg #[.int .i64 a0_0, .int .i64 a0_1, .slice A0_2 l0_2.length c0_2], .int .i64 a0_3] Try.func51 ?_; (with_reducible refine (impl_validEntry.calls k a0_0 a0_1 _ _ l0_2 a0_3 true _ ?side1 ?side2 A2.1).mono ?_); (case side1 => exact CB (C_below HR0_2.1 HB.1)); (case side2 => exact HC0_2.1); rintro e w19 ⟨rfl, hb⟩; refine ⟨_, rfl, ?_⟩; refine E2 (bB BK319.1 hb) (bS HB.1 hb) ?_; clear BK319 HB; intro BK319 HB; (try clear hb); obtain ⟨hcz20_0, hcz20_1, hcz20_2, hcz20_3, hcz20_4, hcz20_5, hcz20_6, hcz20_7, hfz20_0, hfz20_1, hfz20_2, hfz20_3, hfz20_4, hfz20_5, hfz20_6, hfz20_7⟩ := cz8 BK319.1) | (go_at_call 51; (with_reducible refine (impl_validEntry.calls k a0_0 a0_1 _ _ l0_2 a0_4 true _ ?side1 ?side2 A4.1).mono ?_); (case side1 => exact CB (C_below HR0_2.1 HB.1)); (case side2 => exact HC0_2.1); rintro e w21 ⟨rfl, hb⟩; refine E2 (bB BK319.1 hb) (bS HB.1 hb) ?_; clear BK319 HB; intro BK319 HB; (try clear hb); obtain ⟨hcz22_0, hcz22_1, hcz22_2, hcz22_3, hcz22_4, hcz22_5, hcz22_6, hcz22_7, hfz22_0, hfz22_1, hfz22_2, hfz22_3, hfz22_4, hfz22_5, hfz22_6, hfz22_7⟩ := cz8 BK319.1))
             go_ret
             exact ⟨RF, BL HB.1⟩
           obtain rfl := Option.some.inj H
           go_enter Try.func32, Try.ntmps32
           go_wp2_with (first | ((with_reducible refine gate_dst (N := 1) rfl ?_); refine boxE (cs := #[.int .i64 a0_0, .int .i64 a0_1, .slice A0_2 l0_2.length c0_2, .int .i64 a0_3, .int .i64 a0_4, .int .i64 a0_5, .int .i64 a0_6, .int .i64 a0_7]) (t := 35) ?_; intro gb319 hg w23 hbox hb; refine E4b HB.1 hg hbox hb ?_; clear HB; intro HB BK319 GW319 GE319; clear hb hbox hg; obtain ⟨hcz24_0, hcz24_1, hcz24_2, hcz24_3, hcz24_4, hcz24_5, hcz24_6, hcz24_7, hfz24_0, hfz24_1, hfz24_2, hfz24_3, hfz24_4, hfz24_5, hfz24_6, hfz24_7⟩ := cz8 BK319.1) | ((with_reducible refine gate_callee (f := 51) rfl ?_); refine goesM (N := (some 7)) #[.agg #[.int .i64 a0_0, .int .i64 a0_1, .slice A0_2 l0_2.length c0_2], .int .i64 a0_3] Try.func51 ?_; (with_reducible refine (impl_validEntry.calls k a0_0 a0_1 _ _ l0_2 a0_3 true _ ?side1 ?side2 A2.1).mono ?_); (case side1 => exact CB (C_below HR0_2.1 HB.1)); (case side2 => exact HC0_2.1); rintro e w25 ⟨rfl, hb⟩; refine ⟨_, rfl, ?_⟩; refine E2 (bB BK319.1 hb) (bS HB.1 hb) ?_; clear BK319 HB; intro BK319 HB; (try clear hb); obtain ⟨hcz26_0, hcz26_1, hcz26_2, hcz26_3, hcz26_4, hcz26_5, hcz26_6, hcz26_7, hfz26_0, hfz26_1, hfz26_2, hfz26_3, hfz26_4, hfz26_5, hfz26_6, hfz26_7⟩ := cz8 BK319.1) | (go_at_call 51; (with_reducible refine (impl_validEntry.calls k a0_0 a0_1 _ _ l0_2 a0_4 true _ ?side1 ?side2 A4.1).mono ?_); (case side1 => exact CB (C_below HR0_2.1 HB.1)); (case side2 => exact HC0_2.1); rintro e w27 ⟨rfl, hb⟩; refine E2 (bB BK319.1 hb) (bS HB.1 hb) ?_; clear BK319 HB; intro BK319 HB; (try clear hb); obtain ⟨hcz28_0, hcz28_1, hcz28_2, hcz28_3, hcz28_4, hcz28_5, hcz28_6, hcz28_7, hfz28_0, hfz28_1, hfz28_2, hfz28_3, hfz28_4, hfz28_5, hfz28_6, hfz28_7⟩ := cz8 BK319.1))
           go_ret
           exact ⟨RF, BL HB.1⟩
         have c8b0 : decide (0 <= a0_6) = false := decide_eq_false c8
         clear c8
         obtain rfl := Option.some.inj H
         go_enter Try.func32, Try.ntmps32
         go_wp2_with (first | ((with_reducible refine gate_dst (N := 1) rfl ?_); refine boxE (cs := #[.int .i64 a0_0, .int .i64 a0_1, .slice A0_2 l0_2.length c0_2, .int .i64 a0_3, .int .i64 a0_4, .int .i64 a0_5, .int .i64 a0_6, .int .i64 a0_7]) (t := 35) ?_; intro gb319 hg w29 hbox hb; refine E4b HB.1 hg hbox hb ?_; clear HB; intro HB BK319 GW319 GE319; clear hb hbox hg; obtain ⟨hcz30_0, hcz30_1, hcz30_2, hcz30_3, hcz30_4, hcz30_5, hcz30_6, hcz30_7, hfz30_0, hfz30_1, hfz30_2, hfz30_3, hfz30_4, hfz30_5, hfz30_6, hfz30_7⟩ := cz8 BK319.1) | ((with_reducible refine gate_callee (f := 51) rfl ?_); refine goesM (N := (some 7)) #[.agg #[.int .i64 a0_0, .int .i64 a0_1, .slice A0_2 l0_2.length c0_2], .int .i64 a0_3] Try.func51 ?_; (with_reducible refine (impl_validEntry.calls k a0_0 a0_1 _ _ l0_2 a0_3 true _ ?side1 ?side2 A2.1).mono ?_); (case side1 => exact CB (C_below HR0_2.1 HB.1)); (case side2 => exact HC0_2.1); rintro e w31 ⟨rfl, hb⟩; refine ⟨_, rfl, ?_⟩; refine E2 (bB BK319.1 hb) (bS HB.1 hb) ?_; clear BK319 HB; intro BK319 HB; (try clear hb); obtain ⟨hcz32_0, hcz32_1, hcz32_2, hcz32_3, hcz32_4, hcz32_5, hcz32_6, hcz32_7, hfz32_0, hfz32_1, hfz32_2, hfz32_3, hfz32_4, hfz32_5, hfz32_6, hfz32_7⟩ := cz8 BK319.1) | (go_at_call 51; (with_reducible refine (impl_validEntry.calls k a0_0 a0_1 _ _ l0_2 a0_4 true _ ?side1 ?side2 A4.1).mono ?_); (case side1 => exact CB (C_below HR0_2.1 HB.1)); (case side2 => exact HC0_2.1); rintro e w33 ⟨rfl, hb⟩; refine E2 (bB BK319.1 hb) (bS HB.1 hb) ?_; clear BK319 HB; intro BK319 HB; (try clear hb); obtain ⟨hcz34_0, hcz34_1, hcz34_2, hcz34_3, hcz34_4, hcz34_5, hcz34_6, hcz34_7, hfz34_0, hfz34_1, hfz34_2, hfz34_3, hfz34_4, hfz34_5, hfz34_6, hfz34_7⟩ := cz8 BK319.1))
         go_ret
         exact ⟨RF, BL HB.1⟩
       obtain rfl := Option.some.inj H
       go_enter Try.func32, Try.ntmps32
       go_wp2_with (first | ((with_reducible refine gate_dst (N := 1) rfl ?_); refine boxE (cs := #[.int .i64 a0_0, .int .i64 a0_1, .slice A0_2 l0_2.length c0_2, .int .i64 a0_3, .int .i64 a0_4, .int .i64 a0_5, .int .i64 a0_6, .int .i64 a0_7]) (t := 35) ?_; intro gb319 hg w35 hbox hb; refine E4b HB.1 hg hbox hb ?_; clear HB; intro HB BK319 GW319 GE319; clear hb hbox hg; obtain ⟨hcz36_0, hcz36_1, hcz36_2, hcz36_3, hcz36_4, hcz36_5, hcz36_6, hcz36_7, hfz36_0, hfz36_1, hfz36_2, hfz36_3, hfz36_4, hfz36_5, hfz36_6, hfz36_7⟩ := cz8 BK319.1) | ((with_reducible refine gate_callee (f := 51) rfl ?_); refine goesM (N := (some 7)) #[.agg #[.int .i64 a0_0, .int .i64 a0_1, .slice A0_2 l0_2.length c0_2], .int .i64 a0_3] Try.func51 ?_; (with_reducible refine (impl_validEntry.calls k a0_0 a0_1 _ _ l0_2 a0_3 true _ ?side1 ?side2 A2.1).mono ?_); (case side1 => exact CB (C_below HR0_2.1 HB.1)); (case side2 => exact HC0_2.1); rintro e w37 ⟨rfl, hb⟩; refine ⟨_, rfl, ?_⟩; refine E2 (bB BK319.1 hb) (bS HB.1 hb) ?_; clear BK319 HB; intro BK319 HB; (try clear hb); obtain ⟨hcz38_0, hcz38_1, hcz38_2, hcz38_3, hcz38_4, hcz38_5, hcz38_6, hcz38_7, hfz38_0, hfz38_1, hfz38_2, hfz38_3, hfz38_4, hfz38_5, hfz38_6, hfz38_7⟩ := cz8 BK319.1) | (go_at_call 51; (with_reducible refine (impl_validEntry.calls k a0_0 a0_1 _ _ l0_2 a0_4 true _ ?side1 ?side2 A4.1).mono ?_); (case side1 => exact CB (C_below HR0_2.1 HB.1)); (case side2 => exact HC0_2.1); rintro e w39 ⟨rfl, hb⟩; refine E2 (bB BK319.1 hb) (bS HB.1 hb) ?_; clear BK319 HB; intro BK319 HB; (try clear hb); obtain ⟨hcz40_0, hcz40_1, hcz40_2, hcz40_3, hcz40_4, hcz40_5, hcz40_6, hcz40_7, hfz40_0, hfz40_1, hfz40_2, hfz40_3, hfz40_4, hfz40_5, hfz40_6, hfz40_7⟩ := cz8 BK319.1))
       go_ret
       exact ⟨RF, BL HB.1⟩
     have c6b0 : decide (0 <= a0_5) = false := decide_eq_false c6
     clear c6
     obtain rfl := Option.some.inj H
     go_enter Try.func32, Try.ntmps32
     go_wp2_with (first | ((with_reducible refine gate_dst (N := 1) rfl ?_); refine boxE (cs := #[.int .i64 a0_0, .int .i64 a0_1, .slice A0_2 l0_2.length c0_2, .int .i64 a0_3, .int .i64 a0_4, .int .i64 a0_5, .int .i64 a0_6, .int .i64 a0_7]) (t := 35) ?_; intro gb319 hg w41 hbox hb; refine E4b HB.1 hg hbox hb ?_; clear HB; intro HB BK319 GW319 GE319; clear hb hbox hg; obtain ⟨hcz42_0, hcz42_1, hcz42_2, hcz42_3, hcz42_4, hcz42_5, hcz42_6, hcz42_7, hfz42_0, hfz42_1, hfz42_2, hfz42_3, hfz42_4, hfz42_5, hfz42_6, hfz42_7⟩ := cz8 BK319.1) | ((with_reducible refine gate_callee (f := 51) rfl ?_); refine goesM (N := (some 7)) #[.agg #[.int .i64 a0_0, .int .i64 a0_1, .slice A0_2 l0_2.length c0_2], .int .i64 a0_3] Try.func51 ?_; (with_reducible refine (impl_validEntry.calls k a0_0 a0_1 _ _ l0_2 a0_3 true _ ?side1 ?side2 A2.1).mono ?_); (case side1 => exact CB (C_below HR0_2.1 HB.1)); (case side2 => exact HC0_2.1); rintro e w43 ⟨rfl, hb⟩; refine ⟨_, rfl, ?_⟩; refine E2 (bB BK319.1 hb) (bS HB.1 hb) ?_; clear BK319 HB; intro BK319 HB; (try clear hb); obtain ⟨hcz44_0, hcz44_1, hcz44_2, hcz44_3, hcz44_4, hcz44_5, hcz44_6, hcz44_7, hfz44_0, hfz44_1, hfz44_2, hfz44_3, hfz44_4, hfz44_5, hfz44_6, hfz44_7⟩ := cz8 BK319.1) | (go_at_call 51; (with_reducible refine (impl_validEntry.calls k a0_0 a0_1 _ _ l0_2 a0_4 true _ ?side1 ?side2 A4.1).mono ?_); (case side1 => exact CB (C_below HR0_2.1 HB.1)); (case side2 => exact HC0_2.1); rintro e w45 ⟨rfl, hb⟩; refine E2 (bB BK319.1 hb) (bS HB.1 hb) ?_; clear BK319 HB; intro BK319 HB; (try clear hb); obtain ⟨hcz46_0, hcz46_1, hcz46_2, hcz46_3, hcz46_4, hcz46_5, hcz46_6, hcz46_7, hfz46_0, hfz46_1, hfz46_2, hfz46_3, hfz46_4, hfz46_5, hfz46_6, hfz46_7⟩ := cz8 BK319.1))
     go_ret
     exact ⟨RF, BL HB.1⟩
   obtain rfl := Option.some.inj H
   go_enter Try.func32, Try.ntmps32
   go_wp2_with (first | ((with_reducible refine gate_dst (N := 1) rfl ?_); refine boxE (cs := #[.int .i64 a0_0, .int .i64 a0_1, .slice A0_2 l0_2.length c0_2, .int .i64 a0_3, .int .i64 a0_4, .int .i64 a0_5, .int .i64 a0_6, .int .i64 a0_7]) (t := 35) ?_; intro gb319 hg w47 hbox hb; refine E4b HB.1 hg hbox hb ?_; clear HB; intro HB BK319 GW319 GE319; clear hb hbox hg; obtain ⟨hcz48_0, hcz48_1, hcz48_2, hcz48_3, hcz48_4, hcz48_5, hcz48_6, hcz48_7, hfz48_0, hfz48_1, hfz48_2, hfz48_3, hfz48_4, hfz48_5, hfz48_6, hfz48_7⟩ := cz8 BK319.1) | ((with_reducible refine gate_callee (f := 51) rfl ?_); refine goesM (N := (some 7)) #[.agg #[.int .i64 a0_0, .int .i64 a0_1, .slice A0_2 l0_2.length c0_2], .int .i64 a0_3] Try.func51 ?_; (with_reducible refine (impl_validEntry.calls k a0_0 a0_1 _ _ l0_2 a0_3 true _ ?side1 ?side2 A2.1).mono ?_); (case side1 => exact CB (C_below HR0_2.1 HB.1)); (case side2 => exact HC0_2.1); rintro e w49 ⟨rfl, hb⟩; refine ⟨_, rfl, ?_⟩; refine E2 (bB BK319.1 hb) (bS HB.1 hb) ?_; clear BK319 HB; intro BK319 HB; (try clear hb); obtain ⟨hcz50_0, hcz50_1, hcz50_2, hcz50_3, hcz50_4, hcz50_5, hcz50_6, hcz50_7, hfz50_0, hfz50_1, hfz50_2, hfz50_3, hfz50_4, hfz50_5, hfz50_6, hfz50_7⟩ := cz8 BK319.1) | (go_at_call 51; (with_reducible refine (impl_validEntry.calls k a0_0 a0_1 _ _ l0_2 a0_4 false _ ?side1 ?side2 A4.1).mono ?_); (case side1 => exact CB (C_below HR0_2.1 HB.1)); (case side2 => exact HC0_2.1); rintro e w51 ⟨rfl, hb⟩; refine E2 (bB BK319.1 hb) (bS HB.1 hb) ?_; clear BK319 HB; intro BK319 HB; (try clear hb)))
   go_ret
   exact ⟨RF, BL HB.1⟩
 obtain rfl := Option.some.inj H
 go_enter Try.func32, Try.ntmps32
 go_wp2_with (first | ((with_reducible refine gate_dst (N := 1) rfl ?_); refine boxE (cs := #[.int .i64 a0_0, .int .i64 a0_1, .slice A0_2 l0_2.length c0_2, .int .i64 a0_3, .int .i64 a0_4, .int .i64 a0_5, .int .i64 a0_6, .int .i64 a0_7]) (t := 35) ?_; intro gb319 hg w52 hbox hb; refine E4b HB.1 hg hbox hb ?_; clear HB; intro HB BK319 GW319 GE319; clear hb hbox hg; obtain ⟨hcz53_0, hcz53_1, hcz53_2, hcz53_3, hcz53_4, hcz53_5, hcz53_6, hcz53_7, hfz53_0, hfz53_1, hfz53_2, hfz53_3, hfz53_4, hfz53_5, hfz53_6, hfz53_7⟩ := cz8 BK319.1) | ((with_reducible refine gate_callee (f := 51) rfl ?_); refine goesM (N := (some 7)) #[.agg #[.int .i64 a0_0, .int .i64 a0_1, .slice A0_2 l0_2.length c0_2], .int .i64 a0_3] Try.func51 ?_; (with_reducible refine (impl_validEntry.calls k a0_0 a0_1 _ _ l0_2 a0_3 false _ ?side1 ?side2 A2.1).mono ?_); (case side1 => exact CB (C_below HR0_2.1 HB.1)); (case side2 => exact HC0_2.1); rintro e w54 ⟨rfl, hb⟩; refine ⟨_, rfl, ?_⟩; refine E2 (bB BK319.1 hb) (bS HB.1 hb) ?_; clear BK319 HB; intro BK319 HB; (try clear hb)))
 go_ret
 exact ⟨RF, BL HB.1⟩

/-! ### impl_copyBoard: function 66 -/
open Kd
def impl_copyBoard.f (a0_0 : Int) (a0_1 : Int) (l0_2 : List (S98)) : Option (Int × Int × (List (S98))) := (some (([] : List (S98)) : List (S98))).bind fun y324 => (if y324.length + l0_2.length < 8796093022208 then (some (a0_0, a0_1, (y324 ++ l0_2))) else (none))
def impl_copyBoard.T1 : Bool × List (List Nat × List Nat) := (true, [([], []), ([0], [0]), ([], []), ([2], [2]), ([], []), ([], []), ([5], [5]), ([4, 6], [4, 6]), ([1, 3, 7], [1, 3, 7]), ([8, 7, 0, 1, 2, 3, 4, 5, 6, 7, 8], [8])])
def impl_copyBoard.B1 : List Nat := [0, 1, 0, 4, 0, 0, 32, 112, 255, 511]
theorem impl_copyBoard.tab1 : rtab .any (opsOf Try.f66 1) = impl_copyBoard.T1 := by kernel_rfl
theorem impl_copyBoard.bits1 : waitsOk impl_copyBoard.T1.2 impl_copyBoard.B1 = true := by kernel_rfl
theorem impl_copyBoard.calls (a0_0 : Int) (a0_1 : Int) (A0_2 : Option Addr) (c0_2 : Nat) (l0_2 : List (S98)) (r1 : Int) (r2 : Int) (r3 : List (S98)) (w : World) (hr0_2 : Kd.C k98 w A0_2 l0_2.length l0_2) (hc0_2 : l0_2.length <= c0_2) (h : impl_copyBoard.f a0_0 a0_1 l0_2 = some (r1, r2, r3)) :
 Calls Try.prog 66 #[.agg #[.int .i64 a0_0, .int .i64 a0_1, .slice A0_2 l0_2.length c0_2]] w fun e w' => ∃ v2_ : Value, e = .returned (.agg #[.int .i64 r1, .int .i64 r2, v2_]) /\ Kd.R k98 98 w' w.heap.size (fun _ => True) v2_ r3 /\ Below w.heap.size w w' := by
 have hu33 := Try.underlying33
 have HR0_2 := Aside0.mk hr0_2
 have HC0_2 := Aside0.mk hc0_2
 clear hr0_2 hc0_2
 have HB := Aside0.mk (Below.refl w.heap.size w)
 have H := h
 clear h
 unfold impl_copyBoard.f at H
 replace H := nameB H; obtain ⟨y324, Ny324, H⟩ := H
 replace H := ifP H; obtain ⟨c2, H⟩ := H
 have LMc2 := Aside0.mk c2
 clear c2
 generalize hy327 : ((y324 ++ l0_2) : List (S98)) = y327 at H
 have Ny327 := Aside0.mk hy327.symm; clear hy327
 simp only [Option.some.injEq, Prod.mk.injEq] at H
 obtain ⟨rfl, rfl, rfl⟩ := H
 go_enter Try.func66, Try.ntmps66
 try go_wp2_with (first | ((with_reducible refine gate_dst (N := 1) rfl ?_); refine boxE (cs := #[.int .i64 a0_0, .int .i64 a0_1, .slice A0_2 l0_2.length c0_2]) (t := 33) ?_; intro gb322 hg w3 hbox hb; refine E4b HB.1 hg hbox hb ?_; clear HB; intro HB BK322 GW322 GE322; clear hb hbox hg) | ((with_reducible refine gate_dst (N := 2) rfl ?_); refine boxE (cs := #[.int .i64 0, .int .i64 0, .slice none 0 0]) (t := 33) ?_; intro gb323 hg w4 hbox hb; refine E7 (bB BK322.1 hb) (bS HB.1 hb) (hbox) (gX HB.1 hg) (gX HB.1 hg) (nB BK322.1 hg) (nC BK322.1 hg) ?_; clear BK322 HB; intro BK322 HB BK323 GW323 GE323 NB322_323 NB323_322; clear hb hbox hg))
 refine E3 (blk_drew BK322.1) (blk_drew BK323.1) (below_drew1 HB.1) ?_
 clear BK322 BK323 HB
 intro BK322 BK323 HB
 refine start_ (n := 10) (S := fun w' => w'.cell? ⟨gb322, 0, none⟩ = some (.int .i64 a0_0) /\ w'.cell? ⟨gb322, 1, none⟩ = some (.int .i64 a0_1) /\ w'.cell? ⟨gb322, 2, none⟩ = some (.slice A0_2 l0_2.length c0_2)) (ds := []) #[Zz,Zz,Zz,Zz,Zz,Zz,Zz,Zz,Zz,Zz] (by kernel_rfl) rfl rfl ⟨(blk_cell BK322.1 0).trans rfl, (blk_cell BK322.1 1).trans rfl, (blk_cell BK322.1 2).trans rfl⟩ (fun hHeld => ?_); refine with_tabW impl_copyBoard.tab1 impl_copyBoard.bits1 (fun HT_ HW_ => ?_)
 generalize w4.drew = w5 at BK322 BK323 HB hHeld ⊢
 refine pureF 0 (N := some 3) HT_.1 ?_
 refine pureF 2 (N := some 5) HT_.1 ?_
 refine pureF 5 (N := some 8) HT_.1 ?_
 refine takeE 1 (N := some 4) HT_.1 HW_.1 hHeld ?_
 refine takeE 3 (N := some 6) HT_.1 HW_.1 hHeld ?_
 refine takeE 6 (N := some 9) HT_.1 HW_.1 hHeld ?_
 refine one_ (i := 4) (N := some 7) #[Yy,Yy,Yy,Yy,Yy,Yy,Yy,Zz,Zz,Zz] rfl rfl (one_of HT_.1 (by kernel_rfl)) (by decide) (fun K hK => ?_)
 refine R_lit_step k98 _ 98 ?hg (N := 7) ?hd (xs := ([] : List (S98))) (inner := []) (ok := fun _ => True) (okp := fun _ => True) ?hr ?hp (fun _ hk => hk) trivial (Below.refl _ _) (Nat.le_refl _) (by simp) ?_; (case hd => rfl); (case hg => rfl); (case hr => first | (go_simp; done) | (go_simp; rfl)); (case hp => exact (Reps.none _ _))
 intro v325 w6 ho7 hb hg_ hnew_
 clear hg_ hnew_
 (first | rw [<- Ny324.1] at ho7 | (simp only [Int.reduceToNat] at ho7; rw [<- Ny324.1] at ho7))
 refine E4 (R_lower ho7 (bZ HB.1)) (bB BK322.1 hb) (bB BK323.1 hb) (bS HB.1 hb) ?_
 clear BK322 BK323 HB
 intro HO326 BK322 BK323 HB
 clear hb ho7
 refine hK.out _ _ ⟨(blk_cell BK322.1 0).trans rfl, (blk_cell BK322.1 1).trans rfl, (blk_cell BK322.1 2).trans rfl⟩ (fun hHeld => ?_)
 clear hK K
 refine norm_ (a' := ?_) ?_ ?_
 rotate_left
 · show Act.put _ (some 7) _ = _
   simp only [Act.put, List.setIfInBounds_toArray, List.set_cons_zero, List.set_cons_succ, i64_w, i32_w]
   rfl
 refine one_ (i := 7) (N := some 10) #[Yy,Yy,Yy,Yy,Yy,Yy,Yy,Yy,Zz,Zz] rfl rfl (one_of HT_.1 (by kernel_rfl)) (by decide) (fun K hK => ?_)
 refine R_append_rows_step k98 (w0 := w) w.heap.size (by rfl) (.tmp 7) (.tmp 9) 31 98 (.agg #[(.int .i64 0), (.int .i64 0)]) 16 rfl Try.underlying31 info98 rfl (by decide) (by omega) v325 y324 l0_2 _ _ _ (fun _ => True) (fun _ => False) rfl rfl ?aO ?aR (fun _ _ h => h) (fun _ h => h.elim) ?aF ?aB ?aS ?aL ?_
 (case aR => repeat (first | exact (C_below HR0_2.1 HB.1) | (with_reducible refine C_alloc ?_ _) | (with_reducible refine C_drewN ?_ _) | (with_reducible refine C_drew ?_)))
 (case aB => exact (BL HB.1))
 (case aF => exact (fun _ _ => trivial))
 (case aO => exact (PR HO326.1))
 (case aS => exact (bZ HB.1))
 (case aL => have := LMc2.1; omega)
 intro v328 w8 ho hb hg hat
 rw [<- Ny327.1] at ho
 refine E4 (bG BK322.1 hg (R_ne HO326.1 BK322.1 (by decide))) (bG BK323.1 hg (R_ne HO326.1 BK323.1 (by decide))) (hb) (ho) ?_
 clear BK322 BK323 HB HO326
 intro BK322 BK323 HB HO329
 clear ho hb hg hat
 obtain ⟨Ao9, co9, eo9⟩ := R_slice HO329.1
 (first | subst eo9 | (injection eo9 with f1_ f2_ f3_; have f4_ := f1_.symm; have f5_ := f3_.symm; clear f1_ f2_ f3_; subst f4_; subst f5_))
 refine hK.out _ _ ⟨(blk_cell BK322.1 0).trans rfl, (blk_cell BK322.1 1).trans rfl, (blk_cell BK322.1 2).trans rfl⟩ (fun hHeld => ?_)
 clear hK K
 refine norm_ (a' := ?_) ?_ ?_
 rotate_left
 · show Act.put _ (some 10) _ = _
   simp only [Act.put, List.setIfInBounds_toArray, List.set_cons_zero, List.set_cons_succ, i64_w, i32_w]
   rfl
 refine pureF 8 (N := some 11) HT_.1 ?_
 refine one_ (i := 9) (N := none) #[Yy,Yy,Yy,Yy,Yy,Yy,Yy,Yy,Yy,Yy] rfl rfl (one_of HT_.1 (by kernel_rfl)) (by decide) (fun K hK => ?_)
 obtain ⟨hs10, hs11, hs12, hfs10, hfs11, hfs12⟩ := cz3 BK323.1
 have hns10_0 := NB322_323.1
 have hms10_0 := NB323_322.1
 refine skip_ (w1 := ?_) (by rfl) rfl ?_ ?_
 rotate_left
 · go_simp
   rfl
 refine hK.out _ _ ⟨(CF3 NB322_323.1 hHeld.1), (CF3 NB322_323.1 hHeld.2.1), (CF3 NB322_323.1 hHeld.2.2)⟩ (fun hHeld => ?_)
 clear hK K
 refine done_ (done_of HT_.1 (by kernel_rfl)) ?_
 try go_wp2
 refine bodyPost_ret (results_cell_row rfl _ _ gb323 33 #[.int .i64 a0_0, .int .i64 a0_1, .slice Ao9 y327.length co9] (0, 0) _ rfl (PF0 BK323.1) Try.underlying33 rfl (by kernel_rfl)) rfl ?_
 exact ⟨_, RF, by (with_reducible repeat (first | apply R_alloc | apply R_drewN | apply R_drew)); exact R_mono (RQ gb323 2 (RQ gb323 1 (RQ gb323 0 (R_types HO329.1 BK323.1 (by decide)) _) _) _) (fun _ hk => trivial), BL HB.1⟩
end Go.Proofs.Ythnehlphifegaaa.P
