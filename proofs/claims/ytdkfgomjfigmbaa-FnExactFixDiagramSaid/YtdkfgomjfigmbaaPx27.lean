-- PRINTED by print.py (a twelfth state) out of the translation. Not trusted: Lean checks it.
import Derived.Test.YtdkfgomjfigmbaaPx0
import Derived.Test.YtdkfgomjfigmbaaPx2
import Derived.Test.YtdkfgomjfigmbaaPx3
import Derived.Test.YtdkfgomjfigmbaaPx4
import Derived.Test.YtdkfgomjfigmbaaPx5
import Derived.Test.YtdkfgomjfigmbaaPx6
import Derived.Test.YtdkfgomjfigmbaaPx10
import Derived.Test.YtdkfgomjfigmbaaPx12
import Derived.Test.YtdkfgomjfigmbaaPx15
import Derived.Test.YtdkfgomjfigmbaaPx18
namespace Go.Proofs.Ytdkfgomjfigmbaa.P
open Go.RowKit Go.Proofs.YtdkfgomjfigmbaaW.PrintWords Go.Proofs.YtdkfgomjfigmbaaW.PrintLast Go.Proofs.YtdkfgomjfigmbaaW.PrintMore
attribute [local go_sem] max2_int min2_int max_two min_two max_three min_three max_four min_four   -- for this text's walks alone
set_option linter.unusedVariables false
set_option linter.unusedSimpArgs false

/-! ### spec_ttHas: function 86 -/
open Kd
def spec_ttHas.f (k : Nat) (a0_0 : Int) (l0_1 : List Int) (a1 : Int) : Option (Bool) := (spec_ttGood.f k a0_0 l0_1).bind fun t682 => (if t682 = true then ((spec_l1In.f a1 0 (wrap64 (a0_0 - 1))).bind fun t683 => (some t683)) else (some false))
theorem spec_ttHas.mono : ∀ a0 a1 a2 k, LeO (spec_ttHas.f k a0 a1 a2) (spec_ttHas.f (k + 1) a0 a1 a2) := by
 intro a0 a1 a2 k
 unfold spec_ttHas.f
 repeat' first
  | (with_reducible exact spec_ttGood.mono _ _ _)
  | (with_reducible exact LeO.refl _)
  | (with_reducible exact LeO.none _)
  | (with_reducible refine LeO.ite ?_ ?_)
  | (with_reducible refine LeO.bind ?_ (fun _ => ?_))
  | exact spec_ttGood.mono _ _ _
  | exact LeO.none _
  | refine LeO.ite ?_ ?_
  | refine LeO.bind ?_ (fun _ => ?_)
set_option maxHeartbeats 8000000 in
set_option maxRecDepth 100000 in
theorem spec_ttHas.calls (k : Nat) (a0_0 : Int) (A0_1 : Option Addr) (c0_1 : Nat) (l0_1 : List Int) (a1 : Int) (r : Bool) (w : World) (hr0_1 : Kd.C (Kd.int .i64) w A0_1 l0_1.length l0_1) (hc0_1 : l0_1.length <= c0_1) (h : spec_ttHas.f k a0_0 l0_1 a1 = some r) :
 Calls Try.prog 86 #[.agg #[.int .i64 a0_0, .slice A0_1 l0_1.length c0_1], .int .i64 a1] w fun e w' => e = .returned (.bool r) /\ Below w.heap.size w w' := by
 have hu41 := Try.underlying41
 have HR0_1 := Aside0.mk hr0_1
 have HC0_1 := Aside0.mk hc0_1
 clear hr0_1 hc0_1
 have HB := Aside0.mk (Below.refl w.heap.size w)
 have H := h
 clear h
 unfold spec_ttHas.f at H
 replace H := bindA H; obtain ⟨t682, A3, H⟩ := H
 replace H := ifX H; rcases H with ⟨rfl, H⟩ | ⟨rfl, H⟩
 · replace H := bindA H; obtain ⟨t683, A5, H⟩ := H
   obtain rfl := Option.some.inj H
   go_enter Try.func86, Try.ntmps86
   go_wp2_with (first | ((with_reducible refine gate_dst (N := 2) rfl ?_); refine boxE (cs := #[.int .i64 a0_0, .slice A0_1 l0_1.length c0_1]) (t := 41) ?_; intro gb681 hg w6 hbox hb; refine E4b HB.1 hg hbox hb ?_; clear HB; intro HB BK681 GW681 GE681; clear hb hbox hg; obtain ⟨hcz7_0, hcz7_1, hfz7_0, hfz7_1⟩ := cz2 BK681.1) | ((with_reducible refine gate_callee (f := 51) rfl ?_); refine goesM (N := (some 6)) #[.agg #[.int .i64 a0_0, .slice A0_1 l0_1.length c0_1]] Try.func51 ?_; (with_reducible refine (spec_ttGood.calls k a0_0 _ _ l0_1 true _ ?side1 ?side2 A3.1).mono ?_); (case side1 => exact CB (C_below HR0_1.1 HB.1)); (case side2 => exact HC0_1.1); rintro e w8 ⟨rfl, hb⟩; refine ⟨_, rfl, ?_⟩; refine E2 (bB BK681.1 hb) (bS HB.1 hb) ?_; clear BK681 HB; intro BK681 HB; (try clear hb); obtain ⟨hcz9_0, hcz9_1, hfz9_0, hfz9_1⟩ := cz2 BK681.1) | (go_at_call 73; (with_reducible refine (spec_l1In.calls a1 0 (wrap64 (a0_0 - 1)) t683 _ A5.1).mono ?_); rintro e w' ⟨rfl, ⟨nd, rfl⟩⟩))
   go_ret
   exact ⟨RF, BL HB.1⟩
 obtain rfl := Option.some.inj H
 go_enter Try.func86, Try.ntmps86
 go_wp2_with (first | ((with_reducible refine gate_dst (N := 2) rfl ?_); refine boxE (cs := #[.int .i64 a0_0, .slice A0_1 l0_1.length c0_1]) (t := 41) ?_; intro gb681 hg w10 hbox hb; refine E4b HB.1 hg hbox hb ?_; clear HB; intro HB BK681 GW681 GE681; clear hb hbox hg; obtain ⟨hcz11_0, hcz11_1, hfz11_0, hfz11_1⟩ := cz2 BK681.1) | ((with_reducible refine gate_callee (f := 51) rfl ?_); refine goesM (N := (some 6)) #[.agg #[.int .i64 a0_0, .slice A0_1 l0_1.length c0_1]] Try.func51 ?_; (with_reducible refine (spec_ttGood.calls k a0_0 _ _ l0_1 false _ ?side1 ?side2 A3.1).mono ?_); (case side1 => exact CB (C_below HR0_1.1 HB.1)); (case side2 => exact HC0_1.1); rintro e w12 ⟨rfl, hb⟩; refine ⟨_, rfl, ?_⟩; refine E2 (bB BK681.1 hb) (bS HB.1 hb) ?_; clear BK681 HB; intro BK681 HB; (try clear hb)))
 go_ret
 exact ⟨RF, BL HB.1⟩

/-! ### spec_FixInput: function 70 -/
open Kd
mutual
def spec_FixInput.j0 : Nat -> Int -> Int -> Bool -> Int -> List Int -> Option (Int × List Int × Bool)
 | 0, _, _, _, _, _ => none
 | k + 1, x1, x2, x19, x685000, x685001 => if x19 = true then (some (0, ([] : List Int), false)) else (spec_FixInput.l0 k x1 x2 x685001 (x685001.length : Int) 0 (wrap64 (x685000 - 1)) ([] : List Int))
def spec_FixInput.l0 : Nat -> Int -> Int -> List Int -> Int -> Int -> Int -> List Int -> Option (Int × List Int × Bool)
 | 0, _, _, _, _, _, _, _ => none
 | k + 1, x1, x2, x26, x27, x28, x689000, x689001 => if x28 < x27 then (if 0 <= x28 then (if x28 < (x26.length : Int) then ((spec_ttBit.f x28 x1).bind fun t690 => (if t690 = x2 then (if x689001.length < 17592186044416 then (spec_FixInput.l0 k x1 x2 x26 x27 (wrap64 (x28 + 1)) x689000 (x689001 ++ [rd x26 x28])) else (none)) else (spec_FixInput.l0 k x1 x2 x26 x27 (wrap64 (x28 + 1)) x689000 x689001))) else (none)) else (none)) else (some (x689000, x689001, true))
end
def spec_FixInput.f (k : Nat) (a0_0 : Int) (l0_1 : List Int) (a1 : Int) (a2 : Int) : Option (Int × List Int × Bool) := (spec_ttHas.f k a0_0 l0_1 a1).bind fun t686 => (if t686 = true then ((spec_l1In.f a2 0 1).bind fun t687 => (spec_FixInput.j0 k a1 a2 (!t687) a0_0 l0_1)) else (spec_FixInput.j0 k a1 a2 true a0_0 l0_1))
theorem spec_FixInput.mono_l : ∀ k, (∀ y0 y1 y2 y3 y4, LeO (spec_FixInput.j0 k y0 y1 y2 y3 y4) (spec_FixInput.j0 (k + 1) y0 y1 y2 y3 y4)) /\ (∀ y0 y1 y2 y3 y4 y5 y6, LeO (spec_FixInput.l0 k y0 y1 y2 y3 y4 y5 y6) (spec_FixInput.l0 (k + 1) y0 y1 y2 y3 y4 y5 y6))
 | 0 => by refine ⟨?_, ?_⟩ <;> (intros; intro r h; first | (simp [spec_FixInput.j0] at h; done) | (simp [spec_FixInput.l0] at h; done))
 | k + 1 => by
  obtain ⟨ih0, ih1⟩ := spec_FixInput.mono_l k
  refine ⟨?_, ?_⟩ <;> (
   intros
   first | unfold spec_FixInput.j0 | unfold spec_FixInput.l0
   repeat' first | (with_reducible first | apply ih0 | apply ih1 | apply spec_ttHas.mono | exact LeO.refl _ | exact LeO.none _ | refine LeO.ite ?_ ?_ | refine LeO.bind ?_ (fun _ => ?_)) | exact LeO.none _ | refine LeO.ite ?_ ?_ | refine LeO.bind ?_ (fun _ => ?_))
theorem spec_FixInput.mono : ∀ a0 a1 a2 a3 k, LeO (spec_FixInput.f k a0 a1 a2 a3) (spec_FixInput.f (k + 1) a0 a1 a2 a3) := by
 intro a0 a1 a2 a3 k
 obtain ⟨ih0, ih1⟩ := spec_FixInput.mono_l k
 unfold spec_FixInput.f
 repeat' first | (with_reducible first | apply ih0 | apply ih1 | apply spec_ttHas.mono | exact LeO.refl _ | exact LeO.none _ | refine LeO.ite ?_ ?_ | refine LeO.bind ?_ (fun _ => ?_)) | exact LeO.none _ | refine LeO.ite ?_ ?_ | refine LeO.bind ?_ (fun _ => ?_)
set_option maxHeartbeats 8000000 in
set_option maxRecDepth 100000 in
theorem spec_FixInput.calls (k : Nat) (a0_0 : Int) (A0_1 : Option Addr) (c0_1 : Nat) (l0_1 : List Int) (a1 : Int) (a2 : Int) (r1 : Int) (r2 : List Int) (r3 : Bool) (w : World) (hr0_1 : Kd.C (Kd.int .i64) w A0_1 l0_1.length l0_1) (hc0_1 : l0_1.length <= c0_1) (h : spec_FixInput.f k a0_0 l0_1 a1 a2 = some (r1, r2, r3)) :
 Calls Try.prog 70 #[.agg #[.int .i64 a0_0, .slice A0_1 l0_1.length c0_1], .int .i64 a1, .int .i64 a2] w fun e w' => ∃ v1_ : Value, e = .returned (.tuple #[.agg #[.int .i64 r1, v1_], .bool r3]) /\ Kd.R (Kd.int .i64) 3 w' w.heap.size (fun _ => True) v1_ r2 /\ Below w.heap.size w w' := by
 have hu41 := Try.underlying41
 have HR0_1 := Aside0.mk hr0_1
 have HC0_1 := Aside0.mk hc0_1
 clear hr0_1 hc0_1
 have HB := Aside0.mk (Below.refl w.heap.size w)
 have H := h
 clear h
 unfold spec_FixInput.f at H
 have HC4 := Aside0.mk H
 clear H
 go_enter Try.func70, Try.ntmps70
 go_upto_region 1 with (first | ((with_reducible refine gate_dst (N := 3) rfl ?_); refine boxE (cs := #[.int .i64 a0_0, .slice A0_1 l0_1.length c0_1]) (t := 41) ?_; intro gb684 hg w5 hbox hb; refine E4b HB.1 hg hbox hb ?_; clear HB; intro HB BK684 GW684 GE684; clear hb hbox hg) | ((with_reducible refine gate_dst (N := 6) rfl ?_); refine boxE (cs := #[.int .i64 0, .slice none 0 0]) (t := 41) ?_; intro gb685 hg w6 hbox hb; refine E7 (bB BK684.1 hb) (bS HB.1 hb) (hbox) (gX HB.1 hg) (gX HB.1 hg) (nB BK684.1 hg) (nC BK684.1 hg) ?_; clear BK684 HB; intro BK684 HB BK685 GW685 GE685 NB684_685 NB685_684; clear hb hbox hg))
 (try simp only [Act.put, List.setIfInBounds_toArray, List.set_cons_zero, List.set_cons_succ])
 go_cut [19] (fun v19 wc => ∃ (kq : Nat) (x19_3 : Bool), v19 = .bool x19_3 /\ Aside0 (spec_FixInput.j0 kq a1 a2 x19_3 a0_0 l0_1 = some (r1, r2, r3)) /\ Aside0 (kq <= k) /\ Aside0 (wc.heap[gb684]? = some (.cells #[.int .i64 a0_0, (.slice A0_1 l0_1.length c0_1)] 41 (0, 0))) /\ Aside0 (wc.heap[gb685]? = some (.cells #[.int .i64 0, (.slice none 0 0)] 41 (0, 0))) /\ Aside0 (Below w.heap.size w wc))
 case first =>
  have H := HC4.1
  clear HC4
  replace H := bindA H; obtain ⟨t686, A7, H⟩ := H
  replace H := ifX H; rcases H with ⟨rfl, H⟩ | ⟨rfl, H⟩
  · replace H := bindA H; obtain ⟨t687, A9, H⟩ := H
    have H' := Aside0.mk H
    clear H
    have hnb10 := NB684_685.1
    have hnc10 := NB685_684.1
    obtain ⟨hcz11_0, hcz11_1, hfz11_0, hfz11_1⟩ := cz2 BK684.1
    go_wp2_with (first | ((with_reducible refine gate_callee (f := 86) rfl ?_); refine goesM (N := (some 13)) #[.agg #[.int .i64 a0_0, .slice A0_1 l0_1.length c0_1], .int .i64 a1] Try.func86 ?_; (with_reducible refine (spec_ttHas.calls k a0_0 _ _ l0_1 a1 true _ ?side1 ?side2 A7.1).mono ?_); (case side1 => exact CB (C_below HR0_1.1 HB.1)); (case side2 => exact HC0_1.1); rintro e w12 ⟨rfl, hb⟩; refine ⟨_, rfl, ?_⟩; refine E3 (bB BK684.1 hb) (bB BK685.1 hb) (bS HB.1 hb) ?_; clear BK684 BK685 HB; intro BK684 BK685 HB; (try clear hb)) | (go_at_call 73; (with_reducible refine (spec_l1In.calls a2 0 1 t687 _ A9.1).mono ?_); rintro e w' ⟨rfl, ⟨nd, rfl⟩⟩))
    go_meet
    case rel => exact ⟨_, (!t687), RG, H', ⟨by first | omega | exact Nat.le_refl _⟩, ⟨PB BK684.1⟩, ⟨PB BK685.1⟩, ⟨BL HB.1⟩⟩
  have H' := Aside0.mk H
  clear H
  have hnb13 := NB684_685.1
  have hnc13 := NB685_684.1
  obtain ⟨hcz14_0, hcz14_1, hfz14_0, hfz14_1⟩ := cz2 BK684.1
  go_wp2_with (first | ((with_reducible refine gate_callee (f := 86) rfl ?_); refine goesM (N := (some 13)) #[.agg #[.int .i64 a0_0, .slice A0_1 l0_1.length c0_1], .int .i64 a1] Try.func86 ?_; (with_reducible refine (spec_ttHas.calls k a0_0 _ _ l0_1 a1 false _ ?side1 ?side2 A7.1).mono ?_); (case side1 => exact CB (C_below HR0_1.1 HB.1)); (case side2 => exact HC0_1.1); rintro e w15 ⟨rfl, hb⟩; refine ⟨_, rfl, ?_⟩; refine E3 (bB BK684.1 hb) (bB BK685.1 hb) (bS HB.1 hb) ?_; clear BK684 BK685 HB; intro BK684 BK685 HB; (try clear hb)))
  go_meet
  case rel => exact ⟨_, (true), RG, H', ⟨by first | omega | exact Nat.le_refl _⟩, ⟨PB BK684.1⟩, ⟨PB BK685.1⟩, ⟨BL HB.1⟩⟩
 clear HC4
 obtain ⟨kq, x19_3, rfl, HA, HJ3, BK684, BK685, HB⟩ := hcut
 cases kq with
 | zero => exact absurd HA.1 (by simp [spec_FixInput.j0])
 | succ kj3 => ?_
 have H := HA.1
 clear HA
 simp only [spec_FixInput.j0] at H
 replace H := ifX H; rcases H with ⟨rfl, H⟩ | ⟨rfl, H⟩
 · simp only [Option.some.injEq, Prod.mk.injEq] at H
   obtain ⟨rfl, rfl, rfl⟩ := H
   have hnb17 := NB685_684.1
   have hnc17 := NB684_685.1
   obtain ⟨hcz18_0, hcz18_1, hfz18_0, hfz18_1⟩ := cz2 BK685.1
   go_wp2
   refine bodyPost_ret (results_ct rfl _ _ gb685 41 #[.int .i64 0, .slice none 0 0] (0, 0) _ rfl (PF0 BK685.1) Try.underlying41 rfl (by kernel_rfl)) rfl ?_
   exact ⟨_, RF, by first | exact R_nil _ _ _ _ _ | exact N_nil _ _ _ _ _ | exact V_nil _ _ _ _ _ | exact Q_nil _ _ _ _ _ | exact S_nil _ _ _ _ _, BL HB.1⟩
 have H' := Aside0.mk H
 clear H
 have hnb19 := NB684_685.1
 have hnc19 := NB685_684.1
 obtain ⟨hcz20_0, hcz20_1, hfz20_0, hfz20_1⟩ := cz2 BK684.1
 go_wp2_with (first | ((with_reducible refine gate_dst (N := 8) rfl ?_); refine boxE (cs := #[.int .i64 0, .slice none 0 0]) (t := 41) ?_; intro gb688 hg w21 hbox hb; refine E10 (bB BK684.1 hb) (bB BK685.1 hb) (bS HB.1 hb) (hbox) (gX HB.1 hg) (gX HB.1 hg) (nB BK684.1 hg) (nC BK684.1 hg) (nB BK685.1 hg) (nC BK685.1 hg) ?_; clear BK684 BK685 HB; intro BK684 BK685 HB BK688 GW688 GE688 NB684_688 NB688_684 NB685_688 NB688_685; clear hb hbox hg; have hnb22 := NB688_684.1; have hnc22 := NB684_688.1; have hnb23 := NB688_685.1; have hnc23 := NB685_688.1; obtain ⟨hcz24_0, hcz24_1, hfz24_0, hfz24_1⟩ := cz2 BK688.1; obtain ⟨hcz25_0, hcz25_1, hfz25_0, hfz25_1⟩ := cz2 BK684.1))
 go_loopg [28] kj3 (fun kq v28 w' => ∃ (x28_2 : Int) (x689001_2 : List Int) (u689001 : Value), v28 = .int .i64 x28_2 /\ Aside0 (spec_FixInput.l0 kq a1 a2 l0_1 (l0_1.length : Int) x28_2 (wrap64 (a0_0 - 1)) x689001_2 = some (r1, r2, r3)) /\ Aside0 (kq <= kj3) /\ Aside0 (Kd.R (Kd.int .i64) 3 w' w.heap.size (fun _ => True) u689001 x689001_2) /\ Aside0 (w'.heap[gb684]? = some (.cells #[.int .i64 a0_0, (.slice A0_1 l0_1.length c0_1)] 41 (0, 0))) /\ Aside0 (w'.heap[gb685]? = some (.cells #[.int .i64 0, (.slice none 0 0)] 41 (0, 0))) /\ Aside0 (w'.heap[gb688]? = some (.cells #[.int .i64 (wrap64 (a0_0 - 1)), u689001] 41 (0, 0))) /\ Aside0 (Below w.heap.size w w'))
 case atStart => exact ⟨(0), (([] : List Int)), (.slice none 0 0), RG, H', ⟨Nat.le_refl _⟩, ⟨by first | exact R_nil _ _ _ _ _ | exact N_nil _ _ _ _ _ | exact V_nil _ _ _ _ _ | exact Q_nil _ _ _ _ _ | exact S_nil _ _ _ _ _⟩, ⟨by (with_reducible repeat (first | refine blk_drewN ?_ _ | refine blk_drew ?_ | refine blk_alloc ?_ _)); refine blk_far ?_ NB684_688.1 _; (with_reducible repeat (first | refine blk_drewN ?_ _ | refine blk_drew ?_ | refine blk_alloc ?_ _)); refine blk_far ?_ NB684_688.1 _; (with_reducible repeat (first | refine blk_drewN ?_ _ | refine blk_drew ?_ | refine blk_alloc ?_ _)); exact BK684.1⟩, ⟨by (with_reducible repeat (first | refine blk_drewN ?_ _ | refine blk_drew ?_ | refine blk_alloc ?_ _)); refine blk_far ?_ NB685_688.1 _; (with_reducible repeat (first | refine blk_drewN ?_ _ | refine blk_drew ?_ | refine blk_alloc ?_ _)); refine blk_far ?_ NB685_688.1 _; (with_reducible repeat (first | refine blk_drewN ?_ _ | refine blk_drew ?_ | refine blk_alloc ?_ _)); exact BK685.1⟩, ⟨by (with_reducible repeat (first | refine blk_drewN ?_ _ | refine blk_drew ?_ | refine blk_alloc ?_ _)); refine blk_put (cs := #[.int .i64 (wrap64 (a0_0 - 1)), .slice none 0 0]) ?_ 1 _ rfl; (with_reducible repeat (first | refine blk_drewN ?_ _ | refine blk_drew ?_ | refine blk_alloc ?_ _)); refine blk_put (cs := #[.int .i64 0, .slice none 0 0]) ?_ 0 _ rfl; (with_reducible repeat (first | refine blk_drewN ?_ _ | refine blk_drew ?_ | refine blk_alloc ?_ _)); exact BK688.1⟩, ⟨BL HB.1⟩⟩
 clear H'
 clear hcz20_0 hcz20_1 hcz24_0 hcz24_1 hcz25_0 hcz25_1 hfz20_0 hfz20_1 hfz24_0 hfz24_1 hfz25_0 hfz25_1
 obtain ⟨x28_2, x689001_2, u689001, rfl, HA, HK2, HO_689001, BK684, BK685, BK688, HB⟩ := hrel
 cases gk with
 | zero => exact absurd HA.1 (by simp [spec_FixInput.l0])
 | succ k2 => ?_
 have H := HA.1
 clear HA
 simp only [spec_FixInput.l0] at H
 replace H := ifB H; rcases H with ⟨c26b0, H⟩ | ⟨c26b0, H⟩
 · replace H := ifN H; obtain ⟨c27b0, H⟩ := H
   replace H := ifN H; obtain ⟨c28b0, H⟩ := H
   replace H := bindA H; obtain ⟨t690, A29, H⟩ := H
   replace H := ifQ H; rcases H with ⟨c30, H⟩ | ⟨c30, H⟩
   · have c30b0 := beq_iff_eq.mpr c30
     have c30b1 := bne_eq_false_iff_eq.mpr c30
     clear c30
     replace H := ifP H; obtain ⟨c31, H⟩ := H
     have LMc31 := Aside0.mk c31
     clear c31
     generalize hy691 : ((x689001_2 ++ [rd l0_1 x28_2]) : List Int) = y691 at H
     have Ny691 := Aside0.mk hy691.symm; clear hy691
     have H' := Aside0.mk H
     clear H
     have p689 : 0 <= (x28_2 : Int) := OD
     have q689 : x28_2 < (l0_1.length : Int) := OD
     obtain ⟨ad689, e689, hx689_0⟩ := Kd.at_int HR0_1.1 x28_2 p689 q689
     cases e689
     replace hx689_0 := (HB.1.cell (World.block_lt_of_cell? w _ hx689_0)).trans hx689_0
     replace p689 := eq_true p689
     replace q689 := eq_true q689
     go_wp2_with (first | ((with_reducible refine gate_callee (f := 83) rfl ?_); refine goesM (N := (some 35)) #[.int .i64 x28_2, .int .i64 a1] Try.func83 ?_; (with_reducible refine (spec_ttBit.calls x28_2 a1 t690 _ A29.1).mono ?_); rintro e w' ⟨rfl, ⟨nd, rfl⟩⟩; refine ⟨_, rfl, ?_⟩; (try (rw [drewN_self wr]; generalize hq_ : World.drewN wr _ = wr; have n0_ : Aside0 (Kd.R (Kd.int .i64) 3 wr w.heap.size (fun _ => True) u689001 x689001_2) := ⟨by rw [<- hq_]; exact (PR HO_689001.1)⟩; have n1_ : Aside0 (wr.heap[gb684]? = some (.cells #[.int .i64 a0_0, .slice (some ad689) l0_1.length c0_1] 41 (0, 0))) := ⟨by rw [<- hq_]; exact (PB BK684.1)⟩; have n2_ : Aside0 (wr.heap[gb685]? = some (.cells #[.int .i64 0, .slice none 0 0] 41 (0, 0))) := ⟨by rw [<- hq_]; exact (PB BK685.1)⟩; have n3_ : Aside0 (wr.heap[gb688]? = some (.cells #[.int .i64 (wrap64 (a0_0 - 1)), u689001] 41 (0, 0))) := ⟨by rw [<- hq_]; exact (PB BK688.1)⟩; have n4_ : Aside0 (Below w.heap.size w wr) := ⟨by rw [<- hq_]; exact (BL HB.1)⟩; clear HO_689001 BK684 BK685 BK688 HB hq_; have HO_689001 := n0_; have BK684 := n1_; have BK685 := n2_; have BK688 := n3_; have HB := n4_; clear n0_ n1_ n2_ n3_ n4_)); have hnb32 := NB688_684.1; have hnc32 := NB684_688.1; have hnb33 := NB688_685.1; have hnc33 := NB685_688.1; obtain ⟨hcz34_0, hcz34_1, hfz34_0, hfz34_1⟩ := cz2 BK688.1) | ((with_reducible refine gate_builtin (b := .append) (xs := #[.tmp 39, .tmp 41]) rfl ?_); at_builtin; refine R_append (Kd.int .i64) (w0 := w) w.heap.size rfl (.tmp 39) (.tmp 41) 35 3 (.int .i64 0) 8 rfl Try.underlying35 info3 rfl (by decide) (by omega) u689001 x689001_2 (rd l0_1 x28_2) [.int .i64 (rd l0_1 x28_2)] (fun _ => True) (fun _ => False) rfl rfl ?aP (fun _ hk => hk.elim) ?aF ?aO ?aB ?aS ?aL ?_; (case aP => exact rfl); (case aB => exact (BL HB.1)); (case aF => exact (fun _ _ => trivial)); (case aO => exact (PR HO_689001.1)); (case aS => exact (bZ HB.1)); (case aL => have := LMc31.1; omega); intro v692 w35 ho hb hg hat; rw [<- Ny691.1] at ho; refine E5 (bG BK684.1 hg (R_ne HO_689001.1 BK684.1 (by decide))) (bG BK685.1 hg (R_ne HO_689001.1 BK685.1 (by decide))) (bG BK688.1 hg (R_ne HO_689001.1 BK688.1 (by decide))) (hb) (ho) ?_; clear BK684 BK685 BK688 HB HO_689001; intro BK684 BK685 BK688 HB HO693; clear ho hb hg hat; obtain ⟨Ao36, co36, eo36⟩ := R_slice HO693.1; subst eo36; obtain ⟨hcz37_0, hcz37_1, hfz37_0, hfz37_1⟩ := cz2 BK688.1))
     go_roundg k2
     case measure => have := HJ3.1; have := HK2.1; omega
     case rel => exact ⟨(wrap64 (x28_2 + 1)), (y691), (.slice Ao36 y691.length co36), RG, H', ⟨by have := HJ3.1; have := HK2.1; omega⟩, ⟨by (with_reducible repeat (first | apply R_alloc | apply R_drewN | apply R_drew)); exact R_mono (RQ gb688 1 (R_types HO693.1 BK688.1 (by decide)) _) (fun _ hk => trivial)⟩, ⟨by (with_reducible repeat (first | refine blk_drewN ?_ _ | refine blk_drew ?_ | refine blk_alloc ?_ _)); refine blk_far ?_ NB684_688.1 _; (with_reducible repeat (first | refine blk_drewN ?_ _ | refine blk_drew ?_ | refine blk_alloc ?_ _)); exact BK684.1⟩, ⟨by (with_reducible repeat (first | refine blk_drewN ?_ _ | refine blk_drew ?_ | refine blk_alloc ?_ _)); refine blk_far ?_ NB685_688.1 _; (with_reducible repeat (first | refine blk_drewN ?_ _ | refine blk_drew ?_ | refine blk_alloc ?_ _)); exact BK685.1⟩, ⟨by (with_reducible repeat (first | refine blk_drewN ?_ _ | refine blk_drew ?_ | refine blk_alloc ?_ _)); refine blk_put (cs := #[.int .i64 (wrap64 (a0_0 - 1)), u689001]) ?_ 1 _ rfl; (with_reducible repeat (first | refine blk_drewN ?_ _ | refine blk_drew ?_ | refine blk_alloc ?_ _)); exact BK688.1⟩, ⟨BL HB.1⟩⟩
   have c30b0 := beq_eq_false_iff_ne.mpr c30
   have c30b1 := bne_iff_ne.mpr c30
   have H' := Aside0.mk H
   clear H
   have p689 : 0 <= (x28_2 : Int) := OD
   have q689 : x28_2 < (l0_1.length : Int) := OD
   obtain ⟨ad689, e689, hx689_0⟩ := Kd.at_int HR0_1.1 x28_2 p689 q689
   cases e689
   replace hx689_0 := (HB.1.cell (World.block_lt_of_cell? w _ hx689_0)).trans hx689_0
   replace p689 := eq_true p689
   replace q689 := eq_true q689
   go_wp2_with (first | ((with_reducible refine gate_callee (f := 83) rfl ?_); refine goesM (N := (some 35)) #[.int .i64 x28_2, .int .i64 a1] Try.func83 ?_; (with_reducible refine (spec_ttBit.calls x28_2 a1 t690 _ A29.1).mono ?_); rintro e w' ⟨rfl, ⟨nd, rfl⟩⟩; refine ⟨_, rfl, ?_⟩))
   go_roundg k2
   case measure => have := HJ3.1; have := HK2.1; omega
   case rel => exact ⟨(wrap64 (x28_2 + 1)), (x689001_2), (u689001), RG, H', ⟨by have := HJ3.1; have := HK2.1; omega⟩, ⟨PR HO_689001.1⟩, ⟨PB BK684.1⟩, ⟨PB BK685.1⟩, ⟨PB BK688.1⟩, ⟨BL HB.1⟩⟩
 simp only [Option.some.injEq, Prod.mk.injEq] at H
 obtain ⟨rfl, rfl, rfl⟩ := H
 obtain ⟨hcz40_0, hcz40_1, hfz40_0, hfz40_1⟩ := cz2 BK688.1
 obtain ⟨hcz42_0, hcz42_1, hfz42_0, hfz42_1⟩ := cz2 BK685.1
 obtain ⟨Ao43, co43, eo43⟩ := R_slice HO_689001.1
 subst eo43
 go_wp2
 refine bodyPost_ret (results_ct rfl _ _ gb685 41 #[.int .i64 (wrap64 (a0_0 - 1)), .slice Ao43 x689001_2.length co43] (0, 0) _ rfl (PF0 BK685.1) Try.underlying41 rfl (by kernel_rfl)) rfl ?_
 exact ⟨_, RF, by (with_reducible repeat (first | apply R_alloc | apply R_drewN | apply R_drew)); exact R_mono (RQ gb685 1 (RQ gb685 0 (R_types HO_689001.1 BK685.1 (by decide)) _) _) (fun _ hk => trivial), BL HB.1⟩
/-! ### spec_FixDiagram: function 42 -/
open Kd
def spec_FixDiagram.f (k : Nat) (a0_0 : Int) (l0_1 : List (S63)) (a0_2 : Int) (a1 : Int) (a2 : Int) : Option (Int × (List (S63)) × Int × Bool) := (spec_ddGood.f k a0_0 l0_1 a0_2).bind fun t696 => (if t696 = true then ((spec_ddTable.f k a0_0 l0_1 a0_2).bind fun bt697 => ((spec_FixInput.f k bt697.1 bt697.2 a1 a2).bind fun bt701 => (if bt701.2.2 = true then ((spec_ddMake.f bt701.1 bt701.2.1).bind fun bt707 => (some (bt707.1, bt707.2.1, bt707.2.2, true))) else (some (0, ([] : List (S63)), 0, false))))) else (some (0, ([] : List (S63)), 0, false)))
theorem spec_FixDiagram.mono : ∀ a0 a1 a2 a3 a4 k, LeO (spec_FixDiagram.f k a0 a1 a2 a3 a4) (spec_FixDiagram.f (k + 1) a0 a1 a2 a3 a4) := by
 intro a0 a1 a2 a3 a4 k
 unfold spec_FixDiagram.f
 repeat' first
  | (with_reducible exact spec_FixInput.mono _ _ _ _ _)
  | (with_reducible exact spec_ddGood.mono _ _ _ _)
  | (with_reducible exact spec_ddTable.mono _ _ _ _)
  | (with_reducible exact LeO.refl _)
  | (with_reducible exact LeO.none _)
  | (with_reducible refine LeO.ite ?_ ?_)
  | (with_reducible refine LeO.bind ?_ (fun _ => ?_))
  | exact spec_FixInput.mono _ _ _ _ _
  | exact spec_ddGood.mono _ _ _ _
  | exact spec_ddTable.mono _ _ _ _
  | exact LeO.none _
  | refine LeO.ite ?_ ?_
  | refine LeO.bind ?_ (fun _ => ?_)
set_option maxHeartbeats 8000000 in
set_option maxRecDepth 100000 in
theorem spec_FixDiagram.calls (k : Nat) (a0_0 : Int) (A0_1 : Option Addr) (c0_1 : Nat) (l0_1 : List (S63)) (a0_2 : Int) (a1 : Int) (a2 : Int) (r1 : Int) (r2 : List (S63)) (r3 : Int) (r4 : Bool) (w : World) (hr0_1 : Kd.C k63 w A0_1 l0_1.length l0_1) (hc0_1 : l0_1.length <= c0_1) (h : spec_FixDiagram.f k a0_0 l0_1 a0_2 a1 a2 = some (r1, r2, r3, r4)) :
 Calls Try.prog 42 #[.agg #[.int .i64 a0_0, .slice A0_1 l0_1.length c0_1, .int .i64 a0_2], .int .i64 a1, .int .i64 a2] w fun e w' => ∃ v1_ : Value, e = .returned (.tuple #[.agg #[.int .i64 r1, v1_, .int .i64 r3], .bool r4]) /\ Kd.R k63 63 w' w.heap.size (fun _ => True) v1_ r2 /\ Below w.heap.size w w' := by
 have hu29 := Try.underlying29
 have hu41 := Try.underlying41
 have HR0_1 := Aside0.mk hr0_1
 have HC0_1 := Aside0.mk hc0_1
 clear hr0_1 hc0_1
 have HB := Aside0.mk (Below.refl w.heap.size w)
 have H := h
 clear h
 unfold spec_FixDiagram.f at H
 replace H := bindA H; obtain ⟨t696, A4, H⟩ := H
 replace H := ifX H; rcases H with ⟨rfl, H⟩ | ⟨rfl, H⟩
 · replace H := bindA H; obtain ⟨⟨t697, t698⟩, A6, H⟩ := H
   dsimp only at H
   replace H := bindA H; obtain ⟨⟨t701, t702, t705⟩, A7, H⟩ := H
   dsimp only at H
   replace H := ifX H; rcases H with ⟨rfl, H⟩ | ⟨rfl, H⟩
   · replace H := bindA H; obtain ⟨⟨t707, t708, t711⟩, A9, H⟩ := H
     dsimp only at H
     simp only [Option.some.injEq, Prod.mk.injEq] at H
     obtain ⟨rfl, rfl, rfl, rfl⟩ := H
     go_enter Try.func42, Try.ntmps42
     go_wp2_with (first | ((with_reducible refine gate_dst (N := 3) rfl ?_); refine boxE (cs := #[.int .i64 a0_0, .slice A0_1 l0_1.length c0_1, .int .i64 a0_2]) (t := 29) ?_; intro gb694 hg w10 hbox hb; refine E4b HB.1 hg hbox hb ?_; clear HB; intro HB BK694 GW694 GE694; clear hb hbox hg) | ((with_reducible refine gate_dst (N := 6) rfl ?_); refine boxE (cs := #[.int .i64 0, .slice none 0 0, .int .i64 0]) (t := 29) ?_; intro gb695 hg w11 hbox hb; refine E7 (bB BK694.1 hb) (bS HB.1 hb) (hbox) (gX HB.1 hg) (gX HB.1 hg) (nB BK694.1 hg) (nC BK694.1 hg) ?_; clear BK694 HB; intro BK694 HB BK695 GW695 GE695 NB694_695 NB695_694; clear hb hbox hg; have hnb12 := NB694_695.1; have hnc12 := NB695_694.1; obtain ⟨hcz13_0, hcz13_1, hcz13_2, hfz13_0, hfz13_1, hfz13_2⟩ := cz3 BK694.1) | ((with_reducible refine gate_callee (f := 45) rfl ?_); refine goesM (N := (some 11)) #[.agg #[.int .i64 a0_0, .slice A0_1 l0_1.length c0_1, .int .i64 a0_2]] Try.func45 ?_; (with_reducible refine (spec_ddGood.calls k a0_0 _ _ l0_1 a0_2 true _ ?side1 ?side2 A4.1).mono ?_); (case side1 => exact CB (C_below HR0_1.1 HB.1)); (case side2 => exact HC0_1.1); rintro e w14 ⟨rfl, hb⟩; refine ⟨_, rfl, ?_⟩; refine E3 (bB BK694.1 hb) (bB BK695.1 hb) (bS HB.1 hb) ?_; clear BK694 BK695 HB; intro BK694 BK695 HB; (try clear hb); obtain ⟨hcz15_0, hcz15_1, hcz15_2, hfz15_0, hfz15_1, hfz15_2⟩ := cz3 BK694.1) | ((with_reducible refine gate_callee (f := 58) rfl ?_); refine goesM (N := (some 16)) #[.agg #[.int .i64 a0_0, .slice A0_1 l0_1.length c0_1, .int .i64 a0_2]] Try.func58 ?_; (with_reducible refine (spec_ddTable.calls k a0_0 _ _ l0_1 a0_2 t697 t698 _ ?side1 ?side2 A6.1).mono ?_); (case side1 => exact CB (C_below HR0_1.1 HB.1)); (case side2 => exact HC0_1.1); rintro e w16 ⟨v699, rfl, ho0, hb⟩; refine ⟨_, rfl, ?_⟩; refine E4 (R_lower ho0 (bZ HB.1)) (bB BK694.1 hb) (bB BK695.1 hb) (bS HB.1 hb) ?_; clear BK694 BK695 HB; intro HO700 BK694 BK695 HB; (try clear hb); (try clear ho0); obtain ⟨Ao17, co17, eo17⟩ := R_slice HO700.1; subst eo17) | ((with_reducible refine gate_callee (f := 70) rfl ?_); refine goesM (N := (some 19)) #[.agg #[.int .i64 t697, .slice Ao17 t698.length co17], .int .i64 a1, .int .i64 a2] Try.func70 ?_; (with_reducible refine (spec_FixInput.calls k t697 _ _ t698 a1 a2 t701 t702 true _ ?side1 ?side2 A7.1).mono ?_); (case side1 => exact CB (R_reads' HO700.1).2.2); (case side2 => exact (R_reads' HO700.1).2.1); rintro e w18 ⟨v703, rfl, ho0, hb⟩; refine ⟨_, rfl, ?_⟩; refine E5 (R_elder' (PR HO700.1) (R_base ho0) hb) (R_lower (R_new' ho0 (R_lt (PR HO700.1))) (bZ HB.1)) (bB BK694.1 hb) (bB BK695.1 hb) (bS HB.1 hb) ?_; clear HO700 BK694 BK695 HB; intro HO700 HO704 BK694 BK695 HB; (try clear hb); (try clear ho0)) | ((with_reducible refine gate_dst (N := 8) rfl ?_); refine boxE (cs := #[.int .i64 0, .slice none 0 0]) (t := 41) ?_; intro gb706 hg w19 hbox hb; refine E12 (rB HO700.1 hb) (rB HO704.1 hb) (bB BK694.1 hb) (bB BK695.1 hb) (bS HB.1 hb) (hbox) (gX HB.1 hg) (gX HB.1 hg) (nB BK694.1 hg) (nC BK694.1 hg) (nB BK695.1 hg) (nC BK695.1 hg) ?_; clear HO700 HO704 BK694 BK695 HB; intro HO700 HO704 BK694 BK695 HB BK706 GW706 GE706 NB694_706 NB706_694 NB695_706 NB706_695; clear hb hbox hg; have hnb20 := NB706_694.1; have hnc20 := NB694_706.1; have hnb21 := NB706_695.1; have hnc21 := NB695_706.1; obtain ⟨hcz22_0, hcz22_1, hfz22_0, hfz22_1⟩ := cz2 BK706.1; obtain ⟨Ao23, co23, eo23⟩ := R_slice HO704.1; subst eo23) | ((with_reducible refine gate_callee (f := 52) rfl ?_); refine goesM (N := (some 26)) #[.agg #[.int .i64 t701, .slice Ao23 t702.length co23]] Try.func52 ?_; (with_reducible refine (spec_ddMake.calls t701 _ _ t702 t707 t708 t711 _ ?side1 ?side2 A9.1).mono ?_); (case side1 => refine (R_reads' (e := 3) (base := w.heap.size) (ok := fun k_ => (True /\ some k_ ≠ (.slice Ao17 t698.length co17 : Value).ownBlock)) (n := t702.length) (c := co23) ?_).2.2; exact (by (with_reducible repeat (first | apply R_alloc | apply R_drewN | apply R_drew)); exact (R_mono (RQ gb706 1 (RQ gb706 0 (R_types HO704.1 BK706.1 (by decide)) _) _) (fun _ h_ => h_.1)))); (case side2 => exact (R_reads' HO704.1).2.1); rintro e w24 ⟨v709, rfl, ho0, hb⟩; refine ⟨_, rfl, ?_⟩; refine E7 (R_below (by (with_reducible repeat (first | apply R_alloc | apply R_drewN | apply R_drew)); exact (R_mono (RQ gb706 1 (RQ gb706 0 (R_types HO700.1 BK706.1 (by decide)) _) _) (fun _ h_ => h_.1))) hb) (R_below (by (with_reducible repeat (first | apply R_alloc | apply R_drewN | apply R_drew)); exact (R_mono (RQ gb706 1 (RQ gb706 0 (R_types HO704.1 BK706.1 (by decide)) _) _) (fun _ h_ => h_.1))) hb) (R_lower ho0 (bZ HB.1)) (blk_below (g := gb694) (o := .cells #[.int .i64 a0_0, .slice A0_1 l0_1.length c0_1, .int .i64 a0_2] 29 (0, 0)) (PF1 NB694_706.1 BK694.1) hb) (blk_below (g := gb695) (o := .cells #[.int .i64 0, .slice none 0 0, .int .i64 0] 29 (0, 0)) (PF1 NB695_706.1 BK695.1) hb) (blk_below (g := gb706) (o := .cells #[.int .i64 t701, .slice Ao23 t702.length co23] 41 (0, 0)) (PF0 BK706.1) hb) (bS HB.1 hb) ?_; clear HO700 HO704 BK694 BK695 BK706 HB; intro HO700 HO704 HO710 BK694 BK695 BK706 HB; (try clear hb); (try clear ho0); obtain ⟨hcz25_0, hcz25_1, hcz25_2, hfz25_0, hfz25_1, hfz25_2⟩ := cz3 BK695.1; obtain ⟨Ao26, co26, eo26⟩ := R_slice HO710.1; subst eo26))
     refine bodyPost_ret (results_ct rfl _ _ gb695 29 #[.int .i64 t707, .slice Ao26 t708.length co26, .int .i64 t711] (0, 0) _ rfl (PF0 BK695.1) Try.underlying29 rfl (by kernel_rfl)) rfl ?_
     exact ⟨_, RF, by (with_reducible repeat (first | apply R_alloc | apply R_drewN | apply R_drew)); exact R_mono (RQ gb695 2 (RQ gb695 1 (RQ gb695 0 (R_types HO710.1 BK695.1 (by decide)) _) _) _) (fun _ hk => trivial), BL HB.1⟩
   simp only [Option.some.injEq, Prod.mk.injEq] at H
   obtain ⟨rfl, rfl, rfl, rfl⟩ := H
   go_enter Try.func42, Try.ntmps42
   go_wp2_with (first | ((with_reducible refine gate_dst (N := 3) rfl ?_); refine boxE (cs := #[.int .i64 a0_0, .slice A0_1 l0_1.length c0_1, .int .i64 a0_2]) (t := 29) ?_; intro gb694 hg w27 hbox hb; refine E4b HB.1 hg hbox hb ?_; clear HB; intro HB BK694 GW694 GE694; clear hb hbox hg) | ((with_reducible refine gate_dst (N := 6) rfl ?_); refine boxE (cs := #[.int .i64 0, .slice none 0 0, .int .i64 0]) (t := 29) ?_; intro gb695 hg w28 hbox hb; refine E7 (bB BK694.1 hb) (bS HB.1 hb) (hbox) (gX HB.1 hg) (gX HB.1 hg) (nB BK694.1 hg) (nC BK694.1 hg) ?_; clear BK694 HB; intro BK694 HB BK695 GW695 GE695 NB694_695 NB695_694; clear hb hbox hg; have hnb29 := NB694_695.1; have hnc29 := NB695_694.1; obtain ⟨hcz30_0, hcz30_1, hcz30_2, hfz30_0, hfz30_1, hfz30_2⟩ := cz3 BK694.1) | ((with_reducible refine gate_callee (f := 45) rfl ?_); refine goesM (N := (some 11)) #[.agg #[.int .i64 a0_0, .slice A0_1 l0_1.length c0_1, .int .i64 a0_2]] Try.func45 ?_; (with_reducible refine (spec_ddGood.calls k a0_0 _ _ l0_1 a0_2 true _ ?side1 ?side2 A4.1).mono ?_); (case side1 => exact CB (C_below HR0_1.1 HB.1)); (case side2 => exact HC0_1.1); rintro e w31 ⟨rfl, hb⟩; refine ⟨_, rfl, ?_⟩; refine E3 (bB BK694.1 hb) (bB BK695.1 hb) (bS HB.1 hb) ?_; clear BK694 BK695 HB; intro BK694 BK695 HB; (try clear hb); obtain ⟨hcz32_0, hcz32_1, hcz32_2, hfz32_0, hfz32_1, hfz32_2⟩ := cz3 BK694.1) | ((with_reducible refine gate_callee (f := 58) rfl ?_); refine goesM (N := (some 16)) #[.agg #[.int .i64 a0_0, .slice A0_1 l0_1.length c0_1, .int .i64 a0_2]] Try.func58 ?_; (with_reducible refine (spec_ddTable.calls k a0_0 _ _ l0_1 a0_2 t697 t698 _ ?side1 ?side2 A6.1).mono ?_); (case side1 => exact CB (C_below HR0_1.1 HB.1)); (case side2 => exact HC0_1.1); rintro e w33 ⟨v699, rfl, ho0, hb⟩; refine ⟨_, rfl, ?_⟩; refine E4 (R_lower ho0 (bZ HB.1)) (bB BK694.1 hb) (bB BK695.1 hb) (bS HB.1 hb) ?_; clear BK694 BK695 HB; intro HO700 BK694 BK695 HB; (try clear hb); (try clear ho0); obtain ⟨Ao34, co34, eo34⟩ := R_slice HO700.1; subst eo34) | ((with_reducible refine gate_callee (f := 70) rfl ?_); refine goesM (N := (some 19)) #[.agg #[.int .i64 t697, .slice Ao34 t698.length co34], .int .i64 a1, .int .i64 a2] Try.func70 ?_; (with_reducible refine (spec_FixInput.calls k t697 _ _ t698 a1 a2 t701 t702 false _ ?side1 ?side2 A7.1).mono ?_); (case side1 => exact CB (R_reads' HO700.1).2.2); (case side2 => exact (R_reads' HO700.1).2.1); rintro e w35 ⟨v703, rfl, ho0, hb⟩; refine ⟨_, rfl, ?_⟩; refine E5 (R_elder' (PR HO700.1) (R_base ho0) hb) (R_lower (R_new' ho0 (R_lt (PR HO700.1))) (bZ HB.1)) (bB BK694.1 hb) (bB BK695.1 hb) (bS HB.1 hb) ?_; clear HO700 BK694 BK695 HB; intro HO700 HO704 BK694 BK695 HB; (try clear hb); (try clear ho0)) | ((with_reducible refine gate_dst (N := 8) rfl ?_); refine boxE (cs := #[.int .i64 0, .slice none 0 0]) (t := 41) ?_; intro gb706 hg w36 hbox hb; refine E12 (rB HO700.1 hb) (rB HO704.1 hb) (bB BK694.1 hb) (bB BK695.1 hb) (bS HB.1 hb) (hbox) (gX HB.1 hg) (gX HB.1 hg) (nB BK694.1 hg) (nC BK694.1 hg) (nB BK695.1 hg) (nC BK695.1 hg) ?_; clear HO700 HO704 BK694 BK695 HB; intro HO700 HO704 BK694 BK695 HB BK706 GW706 GE706 NB694_706 NB706_694 NB695_706 NB706_695; clear hb hbox hg; have hnb37 := NB706_694.1; have hnc37 := NB694_706.1; have hnb38 := NB706_695.1; have hnc38 := NB695_706.1; obtain ⟨hcz39_0, hcz39_1, hfz39_0, hfz39_1⟩ := cz2 BK706.1; obtain ⟨Ao40, co40, eo40⟩ := R_slice HO704.1; subst eo40; obtain ⟨hcz41_0, hcz41_1, hcz41_2, hfz41_0, hfz41_1, hfz41_2⟩ := cz3 BK695.1))
   refine bodyPost_ret (results_ct rfl _ _ gb695 29 #[.int .i64 0, .slice none 0 0, .int .i64 0] (0, 0) _ rfl (PF1 NB695_706.1 BK695.1) Try.underlying29 rfl (by kernel_rfl)) rfl ?_
   exact ⟨_, RF, by first | exact R_nil _ _ _ _ _ | exact N_nil _ _ _ _ _ | exact V_nil _ _ _ _ _ | exact Q_nil _ _ _ _ _ | exact S_nil _ _ _ _ _, BL HB.1⟩
 simp only [Option.some.injEq, Prod.mk.injEq] at H
 obtain ⟨rfl, rfl, rfl, rfl⟩ := H
 go_enter Try.func42, Try.ntmps42
 go_wp2_with (first | ((with_reducible refine gate_dst (N := 3) rfl ?_); refine boxE (cs := #[.int .i64 a0_0, .slice A0_1 l0_1.length c0_1, .int .i64 a0_2]) (t := 29) ?_; intro gb694 hg w42 hbox hb; refine E4b HB.1 hg hbox hb ?_; clear HB; intro HB BK694 GW694 GE694; clear hb hbox hg) | ((with_reducible refine gate_dst (N := 6) rfl ?_); refine boxE (cs := #[.int .i64 0, .slice none 0 0, .int .i64 0]) (t := 29) ?_; intro gb695 hg w43 hbox hb; refine E7 (bB BK694.1 hb) (bS HB.1 hb) (hbox) (gX HB.1 hg) (gX HB.1 hg) (nB BK694.1 hg) (nC BK694.1 hg) ?_; clear BK694 HB; intro BK694 HB BK695 GW695 GE695 NB694_695 NB695_694; clear hb hbox hg; have hnb44 := NB694_695.1; have hnc44 := NB695_694.1; obtain ⟨hcz45_0, hcz45_1, hcz45_2, hfz45_0, hfz45_1, hfz45_2⟩ := cz3 BK694.1) | ((with_reducible refine gate_callee (f := 45) rfl ?_); refine goesM (N := (some 11)) #[.agg #[.int .i64 a0_0, .slice A0_1 l0_1.length c0_1, .int .i64 a0_2]] Try.func45 ?_; (with_reducible refine (spec_ddGood.calls k a0_0 _ _ l0_1 a0_2 false _ ?side1 ?side2 A4.1).mono ?_); (case side1 => exact CB (C_below HR0_1.1 HB.1)); (case side2 => exact HC0_1.1); rintro e w46 ⟨rfl, hb⟩; refine ⟨_, rfl, ?_⟩; refine E3 (bB BK694.1 hb) (bB BK695.1 hb) (bS HB.1 hb) ?_; clear BK694 BK695 HB; intro BK694 BK695 HB; (try clear hb); obtain ⟨hcz47_0, hcz47_1, hcz47_2, hfz47_0, hfz47_1, hfz47_2⟩ := cz3 BK695.1))
 refine bodyPost_ret (results_ct rfl _ _ gb695 29 #[.int .i64 0, .slice none 0 0, .int .i64 0] (0, 0) _ rfl (PF0 BK695.1) Try.underlying29 rfl (by kernel_rfl)) rfl ?_
 exact ⟨_, RF, by first | exact R_nil _ _ _ _ _ | exact N_nil _ _ _ _ _ | exact V_nil _ _ _ _ _ | exact Q_nil _ _ _ _ _ | exact S_nil _ _ _ _ _, BL HB.1⟩

/-! ### impl_FixInput: function 71 -/
open Kd
mutual
def impl_FixInput.j0 : Nat -> Int -> Int -> Bool -> Int -> List Int -> Option (Int × List Int × Bool)
 | 0, _, _, _, _, _ => none
 | k + 1, x1, x2, x31, x713000, x713001 => if x31 = true then (some (0, ([] : List Int), false)) else (impl_FixInput.l0 k x1 x2 x713001 (x713001.length : Int) 0 (wrap64 (x713000 - 1)) ([] : List Int))
def impl_FixInput.l0 : Nat -> Int -> Int -> List Int -> Int -> Int -> Int -> List Int -> Option (Int × List Int × Bool)
 | 0, _, _, _, _, _, _, _ => none
 | k + 1, x1, x2, x38, x39, x40, x716000, x716001 => if x40 < x39 then (if 0 <= x40 then (if x40 < (x38.length : Int) then (if 0 <= x1 then (if (Go.bits .and .i64 (shr .i64 x40 x1) 1) = x2 then (if x716001.length < 17592186044416 then (impl_FixInput.l0 k x1 x2 x38 x39 (wrap64 (x40 + 1)) x716000 (x716001 ++ [rd x38 x40])) else (none)) else (impl_FixInput.l0 k x1 x2 x38 x39 (wrap64 (x40 + 1)) x716000 x716001)) else (none)) else (none)) else (none)) else (some (x716000, x716001, true))
end
def impl_FixInput.f (k : Nat) (a0_0 : Int) (l0_1 : List Int) (a1 : Int) (a2 : Int) : Option (Int × List Int × Bool) := (impl_IsTable.f k a0_0 l0_1).bind fun t714 => (if t714 = true then (if a1 < 0 then (impl_FixInput.j0 k a1 a2 true a0_0 l0_1) else (if a1 ≥ a0_0 then (impl_FixInput.j0 k a1 a2 true a0_0 l0_1) else (if a2 < 0 then (impl_FixInput.j0 k a1 a2 true a0_0 l0_1) else (impl_FixInput.j0 k a1 a2 (decide (a2 > 1)) a0_0 l0_1)))) else (impl_FixInput.j0 k a1 a2 true a0_0 l0_1))
theorem impl_FixInput.mono_l : ∀ k, (∀ y0 y1 y2 y3 y4, LeO (impl_FixInput.j0 k y0 y1 y2 y3 y4) (impl_FixInput.j0 (k + 1) y0 y1 y2 y3 y4)) /\ (∀ y0 y1 y2 y3 y4 y5 y6, LeO (impl_FixInput.l0 k y0 y1 y2 y3 y4 y5 y6) (impl_FixInput.l0 (k + 1) y0 y1 y2 y3 y4 y5 y6))
 | 0 => by refine ⟨?_, ?_⟩ <;> (intros; intro r h; first | (simp [impl_FixInput.j0] at h; done) | (simp [impl_FixInput.l0] at h; done))
 | k + 1 => by
  obtain ⟨ih0, ih1⟩ := impl_FixInput.mono_l k
  refine ⟨?_, ?_⟩ <;> (
   intros
   first | unfold impl_FixInput.j0 | unfold impl_FixInput.l0
   repeat' first | (with_reducible first | apply ih0 | apply ih1 | apply impl_IsTable.mono | exact LeO.refl _ | exact LeO.none _ | refine LeO.ite ?_ ?_ | refine LeO.bind ?_ (fun _ => ?_)) | exact LeO.none _ | refine LeO.ite ?_ ?_ | refine LeO.bind ?_ (fun _ => ?_))
theorem impl_FixInput.mono : ∀ a0 a1 a2 a3 k, LeO (impl_FixInput.f k a0 a1 a2 a3) (impl_FixInput.f (k + 1) a0 a1 a2 a3) := by
 intro a0 a1 a2 a3 k
 obtain ⟨ih0, ih1⟩ := impl_FixInput.mono_l k
 unfold impl_FixInput.f
 repeat' first | (with_reducible first | apply ih0 | apply ih1 | apply impl_IsTable.mono | exact LeO.refl _ | exact LeO.none _ | refine LeO.ite ?_ ?_ | refine LeO.bind ?_ (fun _ => ?_)) | exact LeO.none _ | refine LeO.ite ?_ ?_ | refine LeO.bind ?_ (fun _ => ?_)
set_option maxHeartbeats 8000000 in
set_option maxRecDepth 100000 in
theorem impl_FixInput.calls (k : Nat) (a0_0 : Int) (A0_1 : Option Addr) (c0_1 : Nat) (l0_1 : List Int) (a1 : Int) (a2 : Int) (r1 : Int) (r2 : List Int) (r3 : Bool) (w : World) (hr0_1 : Kd.C (Kd.int .i64) w A0_1 l0_1.length l0_1) (hc0_1 : l0_1.length <= c0_1) (h : impl_FixInput.f k a0_0 l0_1 a1 a2 = some (r1, r2, r3)) :
 Calls Try.prog 71 #[.agg #[.int .i64 a0_0, .slice A0_1 l0_1.length c0_1], .int .i64 a1, .int .i64 a2] w fun e w' => ∃ v1_ : Value, e = .returned (.tuple #[.agg #[.int .i64 r1, v1_], .bool r3]) /\ Kd.R (Kd.int .i64) 3 w' w.heap.size (fun _ => True) v1_ r2 /\ Below w.heap.size w w' := by
 have hu41 := Try.underlying41
 have HR0_1 := Aside0.mk hr0_1
 have HC0_1 := Aside0.mk hc0_1
 clear hr0_1 hc0_1
 have HB := Aside0.mk (Below.refl w.heap.size w)
 have H := h
 clear h
 unfold impl_FixInput.f at H
 have HC4 := Aside0.mk H
 clear H
 go_enter Try.func71, Try.ntmps71
 go_upto_region 1 with (first | ((with_reducible refine gate_dst (N := 3) rfl ?_); refine boxE (cs := #[.int .i64 a0_0, .slice A0_1 l0_1.length c0_1]) (t := 41) ?_; intro gb712 hg w5 hbox hb; refine E4b HB.1 hg hbox hb ?_; clear HB; intro HB BK712 GW712 GE712; clear hb hbox hg) | ((with_reducible refine gate_dst (N := 6) rfl ?_); refine boxE (cs := #[.int .i64 0, .slice none 0 0]) (t := 41) ?_; intro gb713 hg w6 hbox hb; refine E7 (bB BK712.1 hb) (bS HB.1 hb) (hbox) (gX HB.1 hg) (gX HB.1 hg) (nB BK712.1 hg) (nC BK712.1 hg) ?_; clear BK712 HB; intro BK712 HB BK713 GW713 GE713 NB712_713 NB713_712; clear hb hbox hg))
 (try simp only [Act.put, List.setIfInBounds_toArray, List.set_cons_zero, List.set_cons_succ])
 go_cut [31] (fun v31 wc => ∃ (kq : Nat) (x31_3 : Bool), v31 = .bool x31_3 /\ Aside0 (impl_FixInput.j0 kq a1 a2 x31_3 a0_0 l0_1 = some (r1, r2, r3)) /\ Aside0 (kq <= k) /\ Aside0 (wc.heap[gb712]? = some (.cells #[.int .i64 a0_0, (.slice A0_1 l0_1.length c0_1)] 41 (0, 0))) /\ Aside0 (wc.heap[gb713]? = some (.cells #[.int .i64 0, (.slice none 0 0)] 41 (0, 0))) /\ Aside0 (Below w.heap.size w wc))
 case first =>
  have H := HC4.1
  clear HC4
  replace H := bindA H; obtain ⟨t714, A7, H⟩ := H
  replace H := ifX H; rcases H with ⟨rfl, H⟩ | ⟨rfl, H⟩
  · replace H := ifB H; rcases H with ⟨c9b0, H⟩ | ⟨c9b0, H⟩
    · (first | rw [c9b0] | (simp only [i64_w, i32_w]; rw [c9b0]) | skip)
      have H' := Aside0.mk H
      clear H
      have hnb10 := NB712_713.1
      have hnc10 := NB713_712.1
      obtain ⟨hcz11_0, hcz11_1, hfz11_0, hfz11_1⟩ := cz2 BK712.1
      go_wp2_with (first | ((with_reducible refine gate_callee (f := 53) rfl ?_); refine goesM (N := (some 12)) #[.agg #[.int .i64 a0_0, .slice A0_1 l0_1.length c0_1]] Try.func53 ?_; (with_reducible refine (impl_IsTable.calls k a0_0 _ _ l0_1 true _ ?side1 ?side2 A7.1).mono ?_); (case side1 => exact CB (C_below HR0_1.1 HB.1)); (case side2 => exact HC0_1.1); rintro e w12 ⟨rfl, hb⟩; refine ⟨_, rfl, ?_⟩; refine E3 (bB BK712.1 hb) (bB BK713.1 hb) (bS HB.1 hb) ?_; clear BK712 BK713 HB; intro BK712 BK713 HB; (try clear hb)))
      go_meet
      case rel => exact ⟨_, (true), RG, H', ⟨by first | omega | exact Nat.le_refl _⟩, ⟨PB BK712.1⟩, ⟨PB BK713.1⟩, ⟨BL HB.1⟩⟩
    (first | rw [c9b0] | (simp only [i64_w, i32_w]; rw [c9b0]) | skip)
    replace H := ifQ H; rcases H with ⟨c13, H⟩ | ⟨c13, H⟩
    · have c13b0 : decide (a0_0 <= a1) = true := decide_eq_true c13
      clear c13
      have H' := Aside0.mk H
      clear H
      have hnb14 := NB712_713.1
      have hnc14 := NB713_712.1
      obtain ⟨hcz15_0, hcz15_1, hfz15_0, hfz15_1⟩ := cz2 BK712.1
      go_wp2_with (first | ((with_reducible refine gate_callee (f := 53) rfl ?_); refine goesM (N := (some 12)) #[.agg #[.int .i64 a0_0, .slice A0_1 l0_1.length c0_1]] Try.func53 ?_; (with_reducible refine (impl_IsTable.calls k a0_0 _ _ l0_1 true _ ?side1 ?side2 A7.1).mono ?_); (case side1 => exact CB (C_below HR0_1.1 HB.1)); (case side2 => exact HC0_1.1); rintro e w16 ⟨rfl, hb⟩; refine ⟨_, rfl, ?_⟩; refine E3 (bB BK712.1 hb) (bB BK713.1 hb) (bS HB.1 hb) ?_; clear BK712 BK713 HB; intro BK712 BK713 HB; (try clear hb); obtain ⟨hcz17_0, hcz17_1, hfz17_0, hfz17_1⟩ := cz2 BK712.1))
      go_meet
      case rel => exact ⟨_, (true), RG, H', ⟨by first | omega | exact Nat.le_refl _⟩, ⟨PB BK712.1⟩, ⟨PB BK713.1⟩, ⟨BL HB.1⟩⟩
    have c13b0 : decide (a0_0 <= a1) = false := decide_eq_false c13
    clear c13
    replace H := ifB H; rcases H with ⟨c18b0, H⟩ | ⟨c18b0, H⟩
    · have H' := Aside0.mk H
      clear H
      have hnb19 := NB712_713.1
      have hnc19 := NB713_712.1
      obtain ⟨hcz20_0, hcz20_1, hfz20_0, hfz20_1⟩ := cz2 BK712.1
      go_wp2_with (first | ((with_reducible refine gate_callee (f := 53) rfl ?_); refine goesM (N := (some 12)) #[.agg #[.int .i64 a0_0, .slice A0_1 l0_1.length c0_1]] Try.func53 ?_; (with_reducible refine (impl_IsTable.calls k a0_0 _ _ l0_1 true _ ?side1 ?side2 A7.1).mono ?_); (case side1 => exact CB (C_below HR0_1.1 HB.1)); (case side2 => exact HC0_1.1); rintro e w21 ⟨rfl, hb⟩; refine ⟨_, rfl, ?_⟩; refine E3 (bB BK712.1 hb) (bB BK713.1 hb) (bS HB.1 hb) ?_; clear BK712 BK713 HB; intro BK712 BK713 HB; (try clear hb); obtain ⟨hcz22_0, hcz22_1, hfz22_0, hfz22_1⟩ := cz2 BK712.1))
      go_meet
      case rel => exact ⟨_, (true), RG, H', ⟨by first | omega | exact Nat.le_refl _⟩, ⟨PB BK712.1⟩, ⟨PB BK713.1⟩, ⟨BL HB.1⟩⟩
    have H' := Aside0.mk H
    clear H
    have hnb23 := NB712_713.1
    have hnc23 := NB713_712.1
    obtain ⟨hcz24_0, hcz24_1, hfz24_0, hfz24_1⟩ := cz2 BK712.1
    go_wp2_with (first | ((with_reducible refine gate_callee (f := 53) rfl ?_); refine goesM (N := (some 12)) #[.agg #[.int .i64 a0_0, .slice A0_1 l0_1.length c0_1]] Try.func53 ?_; (with_reducible refine (impl_IsTable.calls k a0_0 _ _ l0_1 true _ ?side1 ?side2 A7.1).mono ?_); (case side1 => exact CB (C_below HR0_1.1 HB.1)); (case side2 => exact HC0_1.1); rintro e w25 ⟨rfl, hb⟩; refine ⟨_, rfl, ?_⟩; refine E3 (bB BK712.1 hb) (bB BK713.1 hb) (bS HB.1 hb) ?_; clear BK712 BK713 HB; intro BK712 BK713 HB; (try clear hb); obtain ⟨hcz26_0, hcz26_1, hfz26_0, hfz26_1⟩ := cz2 BK712.1))
    go_meet
    case rel => exact ⟨_, (decide (a2 > 1)), RG, H', ⟨by first | omega | exact Nat.le_refl _⟩, ⟨PB BK712.1⟩, ⟨PB BK713.1⟩, ⟨BL HB.1⟩⟩
  have H' := Aside0.mk H
  clear H
  have hnb27 := NB712_713.1
  have hnc27 := NB713_712.1
  obtain ⟨hcz28_0, hcz28_1, hfz28_0, hfz28_1⟩ := cz2 BK712.1
  go_wp2_with (first | ((with_reducible refine gate_callee (f := 53) rfl ?_); refine goesM (N := (some 12)) #[.agg #[.int .i64 a0_0, .slice A0_1 l0_1.length c0_1]] Try.func53 ?_; (with_reducible refine (impl_IsTable.calls k a0_0 _ _ l0_1 false _ ?side1 ?side2 A7.1).mono ?_); (case side1 => exact CB (C_below HR0_1.1 HB.1)); (case side2 => exact HC0_1.1); rintro e w29 ⟨rfl, hb⟩; refine ⟨_, rfl, ?_⟩; refine E3 (bB BK712.1 hb) (bB BK713.1 hb) (bS HB.1 hb) ?_; clear BK712 BK713 HB; intro BK712 BK713 HB; (try clear hb)))
  go_meet
  case rel => exact ⟨_, (true), RG, H', ⟨by first | omega | exact Nat.le_refl _⟩, ⟨PB BK712.1⟩, ⟨PB BK713.1⟩, ⟨BL HB.1⟩⟩
 clear HC4
 obtain ⟨kq, x31_3, rfl, HA, HJ3, BK712, BK713, HB⟩ := hcut
 cases kq with
 | zero => exact absurd HA.1 (by simp [impl_FixInput.j0])
 | succ kj3 => ?_
 have H := HA.1
 clear HA
 simp only [impl_FixInput.j0] at H
 replace H := ifX H; rcases H with ⟨rfl, H⟩ | ⟨rfl, H⟩
 · simp only [Option.some.injEq, Prod.mk.injEq] at H
   obtain ⟨rfl, rfl, rfl⟩ := H
   have hnb31 := NB713_712.1
   have hnc31 := NB712_713.1
   obtain ⟨hcz32_0, hcz32_1, hfz32_0, hfz32_1⟩ := cz2 BK713.1
   go_wp2
   refine bodyPost_ret (results_ct rfl _ _ gb713 41 #[.int .i64 0, .slice none 0 0] (0, 0) _ rfl (PF0 BK713.1) Try.underlying41 rfl (by kernel_rfl)) rfl ?_
   exact ⟨_, RF, by first | exact R_nil _ _ _ _ _ | exact N_nil _ _ _ _ _ | exact V_nil _ _ _ _ _ | exact Q_nil _ _ _ _ _ | exact S_nil _ _ _ _ _, BL HB.1⟩
 have H' := Aside0.mk H
 clear H
 have hnb33 := NB712_713.1
 have hnc33 := NB713_712.1
 obtain ⟨hcz34_0, hcz34_1, hfz34_0, hfz34_1⟩ := cz2 BK712.1
 go_wp2_with (first | ((with_reducible refine gate_dst (N := 8) rfl ?_); refine boxE (cs := #[.int .i64 0, .slice none 0 0]) (t := 41) ?_; intro gb715 hg w35 hbox hb; refine E10 (bB BK712.1 hb) (bB BK713.1 hb) (bS HB.1 hb) (hbox) (gX HB.1 hg) (gX HB.1 hg) (nB BK712.1 hg) (nC BK712.1 hg) (nB BK713.1 hg) (nC BK713.1 hg) ?_; clear BK712 BK713 HB; intro BK712 BK713 HB BK715 GW715 GE715 NB712_715 NB715_712 NB713_715 NB715_713; clear hb hbox hg; have hnb36 := NB715_712.1; have hnc36 := NB712_715.1; have hnb37 := NB715_713.1; have hnc37 := NB713_715.1; obtain ⟨hcz38_0, hcz38_1, hfz38_0, hfz38_1⟩ := cz2 BK715.1; obtain ⟨hcz39_0, hcz39_1, hfz39_0, hfz39_1⟩ := cz2 BK712.1))
 go_loopg [40] kj3 (fun kq v40 w' => ∃ (x40_2 : Int) (x716001_2 : List Int) (u716001 : Value), v40 = .int .i64 x40_2 /\ Aside0 (impl_FixInput.l0 kq a1 a2 l0_1 (l0_1.length : Int) x40_2 (wrap64 (a0_0 - 1)) x716001_2 = some (r1, r2, r3)) /\ Aside0 (kq <= kj3) /\ Aside0 (Kd.R (Kd.int .i64) 3 w' w.heap.size (fun _ => True) u716001 x716001_2) /\ Aside0 (w'.heap[gb712]? = some (.cells #[.int .i64 a0_0, (.slice A0_1 l0_1.length c0_1)] 41 (0, 0))) /\ Aside0 (w'.heap[gb713]? = some (.cells #[.int .i64 0, (.slice none 0 0)] 41 (0, 0))) /\ Aside0 (w'.heap[gb715]? = some (.cells #[.int .i64 (wrap64 (a0_0 - 1)), u716001] 41 (0, 0))) /\ Aside0 (Below w.heap.size w w'))
 case atStart => exact ⟨(0), (([] : List Int)), (.slice none 0 0), RG, H', ⟨Nat.le_refl _⟩, ⟨by first | exact R_nil _ _ _ _ _ | exact N_nil _ _ _ _ _ | exact V_nil _ _ _ _ _ | exact Q_nil _ _ _ _ _ | exact S_nil _ _ _ _ _⟩, ⟨by (with_reducible repeat (first | refine blk_drewN ?_ _ | refine blk_drew ?_ | refine blk_alloc ?_ _)); refine blk_far ?_ NB712_715.1 _; (with_reducible repeat (first | refine blk_drewN ?_ _ | refine blk_drew ?_ | refine blk_alloc ?_ _)); refine blk_far ?_ NB712_715.1 _; (with_reducible repeat (first | refine blk_drewN ?_ _ | refine blk_drew ?_ | refine blk_alloc ?_ _)); exact BK712.1⟩, ⟨by (with_reducible repeat (first | refine blk_drewN ?_ _ | refine blk_drew ?_ | refine blk_alloc ?_ _)); refine blk_far ?_ NB713_715.1 _; (with_reducible repeat (first | refine blk_drewN ?_ _ | refine blk_drew ?_ | refine blk_alloc ?_ _)); refine blk_far ?_ NB713_715.1 _; (with_reducible repeat (first | refine blk_drewN ?_ _ | refine blk_drew ?_ | refine blk_alloc ?_ _)); exact BK713.1⟩, ⟨by (with_reducible repeat (first | refine blk_drewN ?_ _ | refine blk_drew ?_ | refine blk_alloc ?_ _)); refine blk_put (cs := #[.int .i64 (wrap64 (a0_0 - 1)), .slice none 0 0]) ?_ 1 _ rfl; (with_reducible repeat (first | refine blk_drewN ?_ _ | refine blk_drew ?_ | refine blk_alloc ?_ _)); refine blk_put (cs := #[.int .i64 0, .slice none 0 0]) ?_ 0 _ rfl; (with_reducible repeat (first | refine blk_drewN ?_ _ | refine blk_drew ?_ | refine blk_alloc ?_ _)); exact BK715.1⟩, ⟨BL HB.1⟩⟩
 clear H'
 clear hcz34_0 hcz34_1 hcz38_0 hcz38_1 hcz39_0 hcz39_1 hfz34_0 hfz34_1 hfz38_0 hfz38_1 hfz39_0 hfz39_1
 obtain ⟨x40_2, x716001_2, u716001, rfl, HA, HK2, HO_716001, BK712, BK713, BK715, HB⟩ := hrel
 cases gk with
 | zero => exact absurd HA.1 (by simp [impl_FixInput.l0])
 | succ k2 => ?_
 have H := HA.1
 clear HA
 simp only [impl_FixInput.l0] at H
 replace H := ifB H; rcases H with ⟨c40b0, H⟩ | ⟨c40b0, H⟩
 · replace H := ifN H; obtain ⟨c41b0, H⟩ := H
   replace H := ifN H; obtain ⟨c42b0, H⟩ := H
   replace H := ifP H; obtain ⟨c43, H⟩ := H
   have c43b0 := eq_true c43
   have c43b1 := decide_eq_true c43
   clear c43
   obtain ⟨ji44, hji44⟩ : ∃ j_ : Int, (shr .i64 x40_2 a1) = j_ := ⟨_, rfl⟩
   replace H : (if (Go.bits .and .i64 (ji44) 1) = a2 then (if x716001_2.length < 17592186044416 then (impl_FixInput.l0 k2 a1 a2 l0_1 (l0_1.length : Int) (wrap64 (x40_2 + 1)) (wrap64 (a0_0 - 1)) (x716001_2 ++ [rd l0_1 x40_2])) else (none)) else (impl_FixInput.l0 k2 a1 a2 l0_1 (l0_1.length : Int) (wrap64 (x40_2 + 1)) (wrap64 (a0_0 - 1)) x716001_2)) = some (r1, r2, r3) := by first | (rw [hji44] at H; exact H) | (simp only [hji44] at H ⊢; exact H)
   have hji44_ : (x40_2 / 2 ^ min a1.toNat 64) = ji44 := hji44
   have hji44z : a1 <= 64 -> (x40_2 / 2 ^ a1.toNat) = ji44 := shr_small hji44
   replace H := ifQ H; rcases H with ⟨c45, H⟩ | ⟨c45, H⟩
   · have c45b0 := beq_iff_eq.mpr c45
     have c45b1 := bne_eq_false_iff_eq.mpr c45
     clear c45
     replace H := ifP H; obtain ⟨c46, H⟩ := H
     have LMc46 := Aside0.mk c46
     clear c46
     generalize hy717 : ((x716001_2 ++ [rd l0_1 x40_2]) : List Int) = y717 at H
     have Ny717 := Aside0.mk hy717.symm; clear hy717
     have H' := Aside0.mk H
     clear H
     have p716 : 0 <= (x40_2 : Int) := OD
     have q716 : x40_2 < (l0_1.length : Int) := OD
     obtain ⟨ad716, e716, hx716_0⟩ := Kd.at_int HR0_1.1 x40_2 p716 q716
     cases e716
     replace hx716_0 := (HB.1.cell (World.block_lt_of_cell? w _ hx716_0)).trans hx716_0
     replace p716 := eq_true p716
     replace q716 := eq_true q716
     obtain ⟨hcz49_0, hcz49_1, hfz49_0, hfz49_1⟩ := cz2 BK715.1
     go_wp2_with (first | ((with_reducible refine gate_builtin (b := .append) (xs := #[.tmp 52, .tmp 54]) rfl ?_); at_builtin; refine R_append (Kd.int .i64) (w0 := w) w.heap.size rfl (.tmp 52) (.tmp 54) 35 3 (.int .i64 0) 8 rfl Try.underlying35 info3 rfl (by decide) (by omega) u716001 x716001_2 (rd l0_1 x40_2) [.int .i64 (rd l0_1 x40_2)] (fun _ => True) (fun _ => False) rfl rfl ?aP (fun _ hk => hk.elim) ?aF ?aO ?aB ?aS ?aL ?_; (case aP => exact rfl); (case aB => exact (BL HB.1)); (case aF => exact (fun _ _ => trivial)); (case aO => exact (PR HO_716001.1)); (case aS => exact (bZ HB.1)); (case aL => have := LMc46.1; omega); intro v718 w50 ho hb hg hat; rw [<- Ny717.1] at ho; refine E5 (bG BK712.1 hg (R_ne HO_716001.1 BK712.1 (by decide))) (bG BK713.1 hg (R_ne HO_716001.1 BK713.1 (by decide))) (bG BK715.1 hg (R_ne HO_716001.1 BK715.1 (by decide))) (hb) (ho) ?_; clear BK712 BK713 BK715 HB HO_716001; intro BK712 BK713 BK715 HB HO719; clear ho hb hg hat; obtain ⟨Ao51, co51, eo51⟩ := R_slice HO719.1; subst eo51; obtain ⟨hcz52_0, hcz52_1, hfz52_0, hfz52_1⟩ := cz2 BK715.1))
     go_roundg k2
     case measure => have := HJ3.1; have := HK2.1; omega
     case rel => exact ⟨(wrap64 (x40_2 + 1)), (y717), (.slice Ao51 y717.length co51), RG, H', ⟨by have := HJ3.1; have := HK2.1; omega⟩, ⟨by (with_reducible repeat (first | apply R_alloc | apply R_drewN | apply R_drew)); exact R_mono (RQ gb715 1 (R_types HO719.1 BK715.1 (by decide)) _) (fun _ hk => trivial)⟩, ⟨by (with_reducible repeat (first | refine blk_drewN ?_ _ | refine blk_drew ?_ | refine blk_alloc ?_ _)); refine blk_far ?_ NB712_715.1 _; (with_reducible repeat (first | refine blk_drewN ?_ _ | refine blk_drew ?_ | refine blk_alloc ?_ _)); exact BK712.1⟩, ⟨by (with_reducible repeat (first | refine blk_drewN ?_ _ | refine blk_drew ?_ | refine blk_alloc ?_ _)); refine blk_far ?_ NB713_715.1 _; (with_reducible repeat (first | refine blk_drewN ?_ _ | refine blk_drew ?_ | refine blk_alloc ?_ _)); exact BK713.1⟩, ⟨by (with_reducible repeat (first | refine blk_drewN ?_ _ | refine blk_drew ?_ | refine blk_alloc ?_ _)); refine blk_put (cs := #[.int .i64 (wrap64 (a0_0 - 1)), u716001]) ?_ 1 _ rfl; (with_reducible repeat (first | refine blk_drewN ?_ _ | refine blk_drew ?_ | refine blk_alloc ?_ _)); exact BK715.1⟩, ⟨BL HB.1⟩⟩
   have c45b0 := beq_eq_false_iff_ne.mpr c45
   have c45b1 := bne_iff_ne.mpr c45
   have H' := Aside0.mk H
   clear H
   have p716 : 0 <= (x40_2 : Int) := OD
   have q716 : x40_2 < (l0_1.length : Int) := OD
   obtain ⟨ad716, e716, hx716_0⟩ := Kd.at_int HR0_1.1 x40_2 p716 q716
   cases e716
   replace hx716_0 := (HB.1.cell (World.block_lt_of_cell? w _ hx716_0)).trans hx716_0
   replace p716 := eq_true p716
   replace q716 := eq_true q716
   go_wp2
   go_roundg k2
   case measure => have := HJ3.1; have := HK2.1; omega
   case rel => exact ⟨(wrap64 (x40_2 + 1)), (x716001_2), (u716001), RG, H', ⟨by have := HJ3.1; have := HK2.1; omega⟩, ⟨PR HO_716001.1⟩, ⟨PB BK712.1⟩, ⟨PB BK713.1⟩, ⟨PB BK715.1⟩, ⟨BL HB.1⟩⟩
 simp only [Option.some.injEq, Prod.mk.injEq] at H
 obtain ⟨rfl, rfl, rfl⟩ := H
 obtain ⟨hcz55_0, hcz55_1, hfz55_0, hfz55_1⟩ := cz2 BK715.1
 obtain ⟨hcz57_0, hcz57_1, hfz57_0, hfz57_1⟩ := cz2 BK713.1
 obtain ⟨Ao58, co58, eo58⟩ := R_slice HO_716001.1
 subst eo58
 go_wp2
 refine bodyPost_ret (results_ct rfl _ _ gb713 41 #[.int .i64 (wrap64 (a0_0 - 1)), .slice Ao58 x716001_2.length co58] (0, 0) _ rfl (PF0 BK713.1) Try.underlying41 rfl (by kernel_rfl)) rfl ?_
 exact ⟨_, RF, by (with_reducible repeat (first | apply R_alloc | apply R_drewN | apply R_drew)); exact R_mono (RQ gb713 1 (RQ gb713 0 (R_types HO_716001.1 BK713.1 (by decide)) _) _) (fun _ hk => trivial), BL HB.1⟩
/-! ### impl_FixDiagram: function 43 -/
open Kd
def impl_FixDiagram.f (k : Nat) (a0_0 : Int) (l0_1 : List (S63)) (a0_2 : Int) (a1 : Int) (a2 : Int) : Option (Int × (List (S63)) × Int × Bool) := (impl_IsDiagram.f k a0_0 l0_1 a0_2).bind fun t722 => (if t722 = true then ((impl_tableOfDiagram.f k a0_0 l0_1 a0_2).bind fun bt723 => ((impl_FixInput.f k bt723.1 bt723.2 a1 a2).bind fun bt727 => (if bt727.2.2 = true then ((impl_diagramOf.f bt727.1 bt727.2.1).bind fun bt733 => (some (bt733.1, bt733.2.1, bt733.2.2, true))) else (some (0, ([] : List (S63)), 0, false))))) else (some (0, ([] : List (S63)), 0, false)))
theorem impl_FixDiagram.mono : ∀ a0 a1 a2 a3 a4 k, LeO (impl_FixDiagram.f k a0 a1 a2 a3 a4) (impl_FixDiagram.f (k + 1) a0 a1 a2 a3 a4) := by
 intro a0 a1 a2 a3 a4 k
 unfold impl_FixDiagram.f
 repeat' first
  | (with_reducible exact impl_FixInput.mono _ _ _ _ _)
  | (with_reducible exact impl_IsDiagram.mono _ _ _ _)
  | (with_reducible exact impl_tableOfDiagram.mono _ _ _ _)
  | (with_reducible exact LeO.refl _)
  | (with_reducible exact LeO.none _)
  | (with_reducible refine LeO.ite ?_ ?_)
  | (with_reducible refine LeO.bind ?_ (fun _ => ?_))
  | exact impl_FixInput.mono _ _ _ _ _
  | exact impl_IsDiagram.mono _ _ _ _
  | exact impl_tableOfDiagram.mono _ _ _ _
  | exact LeO.none _
  | refine LeO.ite ?_ ?_
  | refine LeO.bind ?_ (fun _ => ?_)
set_option maxHeartbeats 8000000 in
set_option maxRecDepth 100000 in
theorem impl_FixDiagram.calls (k : Nat) (a0_0 : Int) (A0_1 : Option Addr) (c0_1 : Nat) (l0_1 : List (S63)) (a0_2 : Int) (a1 : Int) (a2 : Int) (r1 : Int) (r2 : List (S63)) (r3 : Int) (r4 : Bool) (w : World) (hr0_1 : Kd.C k63 w A0_1 l0_1.length l0_1) (hc0_1 : l0_1.length <= c0_1) (h : impl_FixDiagram.f k a0_0 l0_1 a0_2 a1 a2 = some (r1, r2, r3, r4)) :
 Calls Try.prog 43 #[.agg #[.int .i64 a0_0, .slice A0_1 l0_1.length c0_1, .int .i64 a0_2], .int .i64 a1, .int .i64 a2] w fun e w' => ∃ v1_ : Value, e = .returned (.tuple #[.agg #[.int .i64 r1, v1_, .int .i64 r3], .bool r4]) /\ Kd.R k63 63 w' w.heap.size (fun _ => True) v1_ r2 /\ Below w.heap.size w w' := by
 have hu29 := Try.underlying29
 have hu41 := Try.underlying41
 have HR0_1 := Aside0.mk hr0_1
 have HC0_1 := Aside0.mk hc0_1
 clear hr0_1 hc0_1
 have HB := Aside0.mk (Below.refl w.heap.size w)
 have H := h
 clear h
 unfold impl_FixDiagram.f at H
 replace H := bindA H; obtain ⟨t722, A4, H⟩ := H
 replace H := ifX H; rcases H with ⟨rfl, H⟩ | ⟨rfl, H⟩
 · replace H := bindA H; obtain ⟨⟨t723, t724⟩, A6, H⟩ := H
   dsimp only at H
   replace H := bindA H; obtain ⟨⟨t727, t728, t731⟩, A7, H⟩ := H
   dsimp only at H
   replace H := ifX H; rcases H with ⟨rfl, H⟩ | ⟨rfl, H⟩
   · replace H := bindA H; obtain ⟨⟨t733, t734, t737⟩, A9, H⟩ := H
     dsimp only at H
     simp only [Option.some.injEq, Prod.mk.injEq] at H
     obtain ⟨rfl, rfl, rfl, rfl⟩ := H
     go_enter Try.func43, Try.ntmps43
     go_wp2_with (first | ((with_reducible refine gate_dst (N := 3) rfl ?_); refine boxE (cs := #[.int .i64 a0_0, .slice A0_1 l0_1.length c0_1, .int .i64 a0_2]) (t := 29) ?_; intro gb720 hg w10 hbox hb; refine E4b HB.1 hg hbox hb ?_; clear HB; intro HB BK720 GW720 GE720; clear hb hbox hg) | ((with_reducible refine gate_dst (N := 6) rfl ?_); refine boxE (cs := #[.int .i64 0, .slice none 0 0, .int .i64 0]) (t := 29) ?_; intro gb721 hg w11 hbox hb; refine E7 (bB BK720.1 hb) (bS HB.1 hb) (hbox) (gX HB.1 hg) (gX HB.1 hg) (nB BK720.1 hg) (nC BK720.1 hg) ?_; clear BK720 HB; intro BK720 HB BK721 GW721 GE721 NB720_721 NB721_720; clear hb hbox hg; have hnb12 := NB720_721.1; have hnc12 := NB721_720.1; obtain ⟨hcz13_0, hcz13_1, hcz13_2, hfz13_0, hfz13_1, hfz13_2⟩ := cz3 BK720.1) | ((with_reducible refine gate_callee (f := 15) rfl ?_); refine goesM (N := (some 11)) #[.agg #[.int .i64 a0_0, .slice A0_1 l0_1.length c0_1, .int .i64 a0_2]] Try.func15 ?_; (with_reducible refine (impl_IsDiagram.calls k a0_0 _ _ l0_1 a0_2 true _ ?side1 ?side2 A4.1).mono ?_); (case side1 => exact CB (C_below HR0_1.1 HB.1)); (case side2 => exact HC0_1.1); rintro e w14 ⟨rfl, hb⟩; refine ⟨_, rfl, ?_⟩; refine E3 (bB BK720.1 hb) (bB BK721.1 hb) (bS HB.1 hb) ?_; clear BK720 BK721 HB; intro BK720 BK721 HB; (try clear hb); obtain ⟨hcz15_0, hcz15_1, hcz15_2, hfz15_0, hfz15_1, hfz15_2⟩ := cz3 BK720.1) | ((with_reducible refine gate_callee (f := 59) rfl ?_); refine goesM (N := (some 16)) #[.agg #[.int .i64 a0_0, .slice A0_1 l0_1.length c0_1, .int .i64 a0_2]] Try.func59 ?_; (with_reducible refine (impl_tableOfDiagram.calls k a0_0 _ _ l0_1 a0_2 t723 t724 _ ?side1 ?side2 A6.1).mono ?_); (case side1 => exact CB (C_below HR0_1.1 HB.1)); (case side2 => exact HC0_1.1); rintro e w16 ⟨v725, rfl, ho0, hb⟩; refine ⟨_, rfl, ?_⟩; refine E4 (R_lower ho0 (bZ HB.1)) (bB BK720.1 hb) (bB BK721.1 hb) (bS HB.1 hb) ?_; clear BK720 BK721 HB; intro HO726 BK720 BK721 HB; (try clear hb); (try clear ho0); obtain ⟨Ao17, co17, eo17⟩ := R_slice HO726.1; subst eo17) | ((with_reducible refine gate_callee (f := 71) rfl ?_); refine goesM (N := (some 19)) #[.agg #[.int .i64 t723, .slice Ao17 t724.length co17], .int .i64 a1, .int .i64 a2] Try.func71 ?_; (with_reducible refine (impl_FixInput.calls k t723 _ _ t724 a1 a2 t727 t728 true _ ?side1 ?side2 A7.1).mono ?_); (case side1 => exact CB (R_reads' HO726.1).2.2); (case side2 => exact (R_reads' HO726.1).2.1); rintro e w18 ⟨v729, rfl, ho0, hb⟩; refine ⟨_, rfl, ?_⟩; refine E5 (R_elder' (PR HO726.1) (R_base ho0) hb) (R_lower (R_new' ho0 (R_lt (PR HO726.1))) (bZ HB.1)) (bB BK720.1 hb) (bB BK721.1 hb) (bS HB.1 hb) ?_; clear HO726 BK720 BK721 HB; intro HO726 HO730 BK720 BK721 HB; (try clear hb); (try clear ho0)) | ((with_reducible refine gate_dst (N := 8) rfl ?_); refine boxE (cs := #[.int .i64 0, .slice none 0 0]) (t := 41) ?_; intro gb732 hg w19 hbox hb; refine E12 (rB HO726.1 hb) (rB HO730.1 hb) (bB BK720.1 hb) (bB BK721.1 hb) (bS HB.1 hb) (hbox) (gX HB.1 hg) (gX HB.1 hg) (nB BK720.1 hg) (nC BK720.1 hg) (nB BK721.1 hg) (nC BK721.1 hg) ?_; clear HO726 HO730 BK720 BK721 HB; intro HO726 HO730 BK720 BK721 HB BK732 GW732 GE732 NB720_732 NB732_720 NB721_732 NB732_721; clear hb hbox hg; have hnb20 := NB732_720.1; have hnc20 := NB720_732.1; have hnb21 := NB732_721.1; have hnc21 := NB721_732.1; obtain ⟨hcz22_0, hcz22_1, hfz22_0, hfz22_1⟩ := cz2 BK732.1; obtain ⟨Ao23, co23, eo23⟩ := R_slice HO730.1; subst eo23) | ((with_reducible refine gate_callee (f := 54) rfl ?_); refine goesM (N := (some 26)) #[.agg #[.int .i64 t727, .slice Ao23 t728.length co23]] Try.func54 ?_; (with_reducible refine (impl_diagramOf.calls t727 _ _ t728 t733 t734 t737 _ ?side1 ?side2 A9.1).mono ?_); (case side1 => refine (R_reads' (e := 3) (base := w.heap.size) (ok := fun k_ => (True /\ some k_ ≠ (.slice Ao17 t724.length co17 : Value).ownBlock)) (n := t728.length) (c := co23) ?_).2.2; exact (by (with_reducible repeat (first | apply R_alloc | apply R_drewN | apply R_drew)); exact (R_mono (RQ gb732 1 (RQ gb732 0 (R_types HO730.1 BK732.1 (by decide)) _) _) (fun _ h_ => h_.1)))); (case side2 => exact (R_reads' HO730.1).2.1); rintro e w24 ⟨v735, rfl, ho0, hb⟩; refine ⟨_, rfl, ?_⟩; refine E7 (R_below (by (with_reducible repeat (first | apply R_alloc | apply R_drewN | apply R_drew)); exact (R_mono (RQ gb732 1 (RQ gb732 0 (R_types HO726.1 BK732.1 (by decide)) _) _) (fun _ h_ => h_.1))) hb) (R_below (by (with_reducible repeat (first | apply R_alloc | apply R_drewN | apply R_drew)); exact (R_mono (RQ gb732 1 (RQ gb732 0 (R_types HO730.1 BK732.1 (by decide)) _) _) (fun _ h_ => h_.1))) hb) (R_lower ho0 (bZ HB.1)) (blk_below (g := gb720) (o := .cells #[.int .i64 a0_0, .slice A0_1 l0_1.length c0_1, .int .i64 a0_2] 29 (0, 0)) (PF1 NB720_732.1 BK720.1) hb) (blk_below (g := gb721) (o := .cells #[.int .i64 0, .slice none 0 0, .int .i64 0] 29 (0, 0)) (PF1 NB721_732.1 BK721.1) hb) (blk_below (g := gb732) (o := .cells #[.int .i64 t727, .slice Ao23 t728.length co23] 41 (0, 0)) (PF0 BK732.1) hb) (bS HB.1 hb) ?_; clear HO726 HO730 BK720 BK721 BK732 HB; intro HO726 HO730 HO736 BK720 BK721 BK732 HB; (try clear hb); (try clear ho0); obtain ⟨hcz25_0, hcz25_1, hcz25_2, hfz25_0, hfz25_1, hfz25_2⟩ := cz3 BK721.1; obtain ⟨Ao26, co26, eo26⟩ := R_slice HO736.1; subst eo26))
     refine bodyPost_ret (results_ct rfl _ _ gb721 29 #[.int .i64 t733, .slice Ao26 t734.length co26, .int .i64 t737] (0, 0) _ rfl (PF0 BK721.1) Try.underlying29 rfl (by kernel_rfl)) rfl ?_
     exact ⟨_, RF, by (with_reducible repeat (first | apply R_alloc | apply R_drewN | apply R_drew)); exact R_mono (RQ gb721 2 (RQ gb721 1 (RQ gb721 0 (R_types HO736.1 BK721.1 (by decide)) _) _) _) (fun _ hk => trivial), BL HB.1⟩
   simp only [Option.some.injEq, Prod.mk.injEq] at H
   obtain ⟨rfl, rfl, rfl, rfl⟩ := H
   go_enter Try.func43, Try.ntmps43
   go_wp2_with (first | ((with_reducible refine gate_dst (N := 3) rfl ?_); refine boxE (cs := #[.int .i64 a0_0, .slice A0_1 l0_1.length c0_1, .int .i64 a0_2]) (t := 29) ?_; intro gb720 hg w27 hbox hb; refine E4b HB.1 hg hbox hb ?_; clear HB; intro HB BK720 GW720 GE720; clear hb hbox hg) | ((with_reducible refine gate_dst (N := 6) rfl ?_); refine boxE (cs := #[.int .i64 0, .slice none 0 0, .int .i64 0]) (t := 29) ?_; intro gb721 hg w28 hbox hb; refine E7 (bB BK720.1 hb) (bS HB.1 hb) (hbox) (gX HB.1 hg) (gX HB.1 hg) (nB BK720.1 hg) (nC BK720.1 hg) ?_; clear BK720 HB; intro BK720 HB BK721 GW721 GE721 NB720_721 NB721_720; clear hb hbox hg; have hnb29 := NB720_721.1; have hnc29 := NB721_720.1; obtain ⟨hcz30_0, hcz30_1, hcz30_2, hfz30_0, hfz30_1, hfz30_2⟩ := cz3 BK720.1) | ((with_reducible refine gate_callee (f := 15) rfl ?_); refine goesM (N := (some 11)) #[.agg #[.int .i64 a0_0, .slice A0_1 l0_1.length c0_1, .int .i64 a0_2]] Try.func15 ?_; (with_reducible refine (impl_IsDiagram.calls k a0_0 _ _ l0_1 a0_2 true _ ?side1 ?side2 A4.1).mono ?_); (case side1 => exact CB (C_below HR0_1.1 HB.1)); (case side2 => exact HC0_1.1); rintro e w31 ⟨rfl, hb⟩; refine ⟨_, rfl, ?_⟩; refine E3 (bB BK720.1 hb) (bB BK721.1 hb) (bS HB.1 hb) ?_; clear BK720 BK721 HB; intro BK720 BK721 HB; (try clear hb); obtain ⟨hcz32_0, hcz32_1, hcz32_2, hfz32_0, hfz32_1, hfz32_2⟩ := cz3 BK720.1) | ((with_reducible refine gate_callee (f := 59) rfl ?_); refine goesM (N := (some 16)) #[.agg #[.int .i64 a0_0, .slice A0_1 l0_1.length c0_1, .int .i64 a0_2]] Try.func59 ?_; (with_reducible refine (impl_tableOfDiagram.calls k a0_0 _ _ l0_1 a0_2 t723 t724 _ ?side1 ?side2 A6.1).mono ?_); (case side1 => exact CB (C_below HR0_1.1 HB.1)); (case side2 => exact HC0_1.1); rintro e w33 ⟨v725, rfl, ho0, hb⟩; refine ⟨_, rfl, ?_⟩; refine E4 (R_lower ho0 (bZ HB.1)) (bB BK720.1 hb) (bB BK721.1 hb) (bS HB.1 hb) ?_; clear BK720 BK721 HB; intro HO726 BK720 BK721 HB; (try clear hb); (try clear ho0); obtain ⟨Ao34, co34, eo34⟩ := R_slice HO726.1; subst eo34) | ((with_reducible refine gate_callee (f := 71) rfl ?_); refine goesM (N := (some 19)) #[.agg #[.int .i64 t723, .slice Ao34 t724.length co34], .int .i64 a1, .int .i64 a2] Try.func71 ?_; (with_reducible refine (impl_FixInput.calls k t723 _ _ t724 a1 a2 t727 t728 false _ ?side1 ?side2 A7.1).mono ?_); (case side1 => exact CB (R_reads' HO726.1).2.2); (case side2 => exact (R_reads' HO726.1).2.1); rintro e w35 ⟨v729, rfl, ho0, hb⟩; refine ⟨_, rfl, ?_⟩; refine E5 (R_elder' (PR HO726.1) (R_base ho0) hb) (R_lower (R_new' ho0 (R_lt (PR HO726.1))) (bZ HB.1)) (bB BK720.1 hb) (bB BK721.1 hb) (bS HB.1 hb) ?_; clear HO726 BK720 BK721 HB; intro HO726 HO730 BK720 BK721 HB; (try clear hb); (try clear ho0)) | ((with_reducible refine gate_dst (N := 8) rfl ?_); refine boxE (cs := #[.int .i64 0, .slice none 0 0]) (t := 41) ?_; intro gb732 hg w36 hbox hb; refine E12 (rB HO726.1 hb) (rB HO730.1 hb) (bB BK720.1 hb) (bB BK721.1 hb) (bS HB.1 hb) (hbox) (gX HB.1 hg) (gX HB.1 hg) (nB BK720.1 hg) (nC BK720.1 hg) (nB BK721.1 hg) (nC BK721.1 hg) ?_; clear HO726 HO730 BK720 BK721 HB; intro HO726 HO730 BK720 BK721 HB BK732 GW732 GE732 NB720_732 NB732_720 NB721_732 NB732_721; clear hb hbox hg; have hnb37 := NB732_720.1; have hnc37 := NB720_732.1; have hnb38 := NB732_721.1; have hnc38 := NB721_732.1; obtain ⟨hcz39_0, hcz39_1, hfz39_0, hfz39_1⟩ := cz2 BK732.1; obtain ⟨Ao40, co40, eo40⟩ := R_slice HO730.1; subst eo40; obtain ⟨hcz41_0, hcz41_1, hcz41_2, hfz41_0, hfz41_1, hfz41_2⟩ := cz3 BK721.1))
   refine bodyPost_ret (results_ct rfl _ _ gb721 29 #[.int .i64 0, .slice none 0 0, .int .i64 0] (0, 0) _ rfl (PF1 NB721_732.1 BK721.1) Try.underlying29 rfl (by kernel_rfl)) rfl ?_
   exact ⟨_, RF, by first | exact R_nil _ _ _ _ _ | exact N_nil _ _ _ _ _ | exact V_nil _ _ _ _ _ | exact Q_nil _ _ _ _ _ | exact S_nil _ _ _ _ _, BL HB.1⟩
 simp only [Option.some.injEq, Prod.mk.injEq] at H
 obtain ⟨rfl, rfl, rfl, rfl⟩ := H
 go_enter Try.func43, Try.ntmps43
 go_wp2_with (first | ((with_reducible refine gate_dst (N := 3) rfl ?_); refine boxE (cs := #[.int .i64 a0_0, .slice A0_1 l0_1.length c0_1, .int .i64 a0_2]) (t := 29) ?_; intro gb720 hg w42 hbox hb; refine E4b HB.1 hg hbox hb ?_; clear HB; intro HB BK720 GW720 GE720; clear hb hbox hg) | ((with_reducible refine gate_dst (N := 6) rfl ?_); refine boxE (cs := #[.int .i64 0, .slice none 0 0, .int .i64 0]) (t := 29) ?_; intro gb721 hg w43 hbox hb; refine E7 (bB BK720.1 hb) (bS HB.1 hb) (hbox) (gX HB.1 hg) (gX HB.1 hg) (nB BK720.1 hg) (nC BK720.1 hg) ?_; clear BK720 HB; intro BK720 HB BK721 GW721 GE721 NB720_721 NB721_720; clear hb hbox hg; have hnb44 := NB720_721.1; have hnc44 := NB721_720.1; obtain ⟨hcz45_0, hcz45_1, hcz45_2, hfz45_0, hfz45_1, hfz45_2⟩ := cz3 BK720.1) | ((with_reducible refine gate_callee (f := 15) rfl ?_); refine goesM (N := (some 11)) #[.agg #[.int .i64 a0_0, .slice A0_1 l0_1.length c0_1, .int .i64 a0_2]] Try.func15 ?_; (with_reducible refine (impl_IsDiagram.calls k a0_0 _ _ l0_1 a0_2 false _ ?side1 ?side2 A4.1).mono ?_); (case side1 => exact CB (C_below HR0_1.1 HB.1)); (case side2 => exact HC0_1.1); rintro e w46 ⟨rfl, hb⟩; refine ⟨_, rfl, ?_⟩; refine E3 (bB BK720.1 hb) (bB BK721.1 hb) (bS HB.1 hb) ?_; clear BK720 BK721 HB; intro BK720 BK721 HB; (try clear hb); obtain ⟨hcz47_0, hcz47_1, hcz47_2, hfz47_0, hfz47_1, hfz47_2⟩ := cz3 BK721.1))
 refine bodyPost_ret (results_ct rfl _ _ gb721 29 #[.int .i64 0, .slice none 0 0, .int .i64 0] (0, 0) _ rfl (PF0 BK721.1) Try.underlying29 rfl (by kernel_rfl)) rfl ?_
 exact ⟨_, RF, by first | exact R_nil _ _ _ _ _ | exact N_nil _ _ _ _ _ | exact V_nil _ _ _ _ _ | exact Q_nil _ _ _ _ _ | exact S_nil _ _ _ _ _, BL HB.1⟩

/-! ### laws_FnExactFixDiagram: function 11 -/
open Kd
mutual
def laws_FnExactFixDiagram.j0 : Nat -> Int -> Int -> Bool -> Bool -> Bool -> Int -> List (S86) -> Int -> Int -> List (S63) -> Int -> Int -> List (S63) -> Int -> Int -> List (S63) -> Int -> Option (Bool)
 | 0, _, _, _, _, _, _, _, _, _, _, _, _, _, _, _, _, _ => none
 | k + 1, x1, x2, x9, x12, x48, x739000, x739001, x739002, x752000, x752001, x752002, x758000, x758001, x758002, x765000, x765001, x765002 => if x48 = true then (some false) else ((laws_toDiagram.f k x739000 x739001 x739002).bind fun bt766 => ((laws_eqDiagram.f k x758000 x758001 x758002 bt766.1 bt766.2.1 bt766.2.2).bind fun t771 => (if t771 = true then ((laws_markDiagram.f k x758000 x758001 x758002 1).bind fun bt772 => (if bt772.1 < 0 then (laws_FnExactFixDiagram.j1 k x1 x2 x9 true x739000 x739001 x739002 x752000 x752001 x752002 x765000 x765001 x765002) else ((laws_eqDiagram.f k x765000 x765001 x765002 x752000 x752001 x752002).bind fun t774 => (if t774 = true then (laws_FnExactFixDiagram.j1 k x1 x2 x9 (x12 != x9) x739000 x739001 x739002 x752000 x752001 x752002 x765000 x765001 x765002) else (laws_FnExactFixDiagram.j1 k x1 x2 x9 true x739000 x739001 x739002 x752000 x752001 x752002 x765000 x765001 x765002))))) else (some false))))
def laws_FnExactFixDiagram.j1 : Nat -> Int -> Int -> Bool -> Bool -> Int -> List (S86) -> Int -> Int -> List (S63) -> Int -> Int -> List (S63) -> Int -> Option (Bool)
 | 0, _, _, _, _, _, _, _, _, _, _, _, _, _ => none
 | k + 1, x1, x2, x9, x69, x739000, x739001, x739002, x752000, x752001, x752002, x765000, x765001, x765002 => if x69 = true then (some false) else ((laws_markDiagram.f k x765000 x765001 x765002 1).bind fun bt775 => ((laws_heldDiagram.f k x765000 bt775.2 x765002 1).bind fun t777 => (if t777 < 0 then (some false) else (if t777 = bt775.1 then ((laws_toDiagram.f k x739000 x739001 x739002).bind fun bt778 => ((impl_FixDiagram.f k bt778.1 bt778.2.1 bt778.2.2 x1 x2).bind fun bt783 => ((laws_eqDiagram.f k bt783.1 bt783.2.1 bt783.2.2.1 x752000 x752001 x752002).bind fun t790 => (if t790 = true then (laws_FnExactFixDiagram.j2 k bt775.1 (bt783.2.2.2 != x9) x765000 bt775.2 x765002) else (laws_FnExactFixDiagram.j2 k bt775.1 true x765000 bt775.2 x765002))))) else (some false)))))
def laws_FnExactFixDiagram.j2 : Nat -> Int -> Bool -> Int -> List (S63) -> Int -> Option (Bool)
 | 0, _, _, _, _, _ => none
 | k + 1, x14, x97, x765000, x765001, x765002 => if x97 = true then (some false) else ((laws_heldDiagram.f k x765000 x765001 x765002 1).bind fun t791 => (if t791 < 0 then (some false) else (if t791 = x14 then (some true) else (some false))))
end
def laws_FnExactFixDiagram.f (k : Nat) (a0_0 : Int) (l0_1 : List (S86)) (a0_2 : Int) (a1 : Int) (a2 : Int) : Option (Bool) := (laws_szDiagram.f a0_0 l0_1 a0_2 1048576).bind fun t739 => (if t739 < 0 then (some true) else ((laws_toDiagram.f k a0_0 l0_1 a0_2).bind fun bt740 => ((spec_FixDiagram.f k bt740.1 bt740.2.1 bt740.2.2 a1 a2).bind fun bt745 => ((laws_toDiagram.f k a0_0 l0_1 a0_2).bind fun bt752 => ((impl_FixDiagram.f k bt752.1 bt752.2.1 bt752.2.2 a1 a2).bind fun bt758 => ((laws_eqDiagram.f k bt758.1 bt758.2.1 bt758.2.2.1 bt745.1 bt745.2.1 bt745.2.2.1).bind fun t765 => (if t765 = true then (laws_FnExactFixDiagram.j0 k a1 a2 bt745.2.2.2 bt758.2.2.2 (bt758.2.2.2 != bt745.2.2.2) a0_0 l0_1 a0_2 bt745.1 bt745.2.1 bt745.2.2.1 bt752.1 bt752.2.1 bt752.2.2 bt758.1 bt758.2.1 bt758.2.2.1) else (laws_FnExactFixDiagram.j0 k a1 a2 bt745.2.2.2 bt758.2.2.2 true a0_0 l0_1 a0_2 bt745.1 bt745.2.1 bt745.2.2.1 bt752.1 bt752.2.1 bt752.2.2 bt758.1 bt758.2.1 bt758.2.2.1))))))))
theorem laws_FnExactFixDiagram.mono_l : ∀ k, (∀ y0 y1 y2 y3 y4 y5 y6 y7 y8 y9 y10 y11 y12 y13 y14 y15 y16, LeO (laws_FnExactFixDiagram.j0 k y0 y1 y2 y3 y4 y5 y6 y7 y8 y9 y10 y11 y12 y13 y14 y15 y16) (laws_FnExactFixDiagram.j0 (k + 1) y0 y1 y2 y3 y4 y5 y6 y7 y8 y9 y10 y11 y12 y13 y14 y15 y16)) /\ (∀ y0 y1 y2 y3 y4 y5 y6 y7 y8 y9 y10 y11 y12, LeO (laws_FnExactFixDiagram.j1 k y0 y1 y2 y3 y4 y5 y6 y7 y8 y9 y10 y11 y12) (laws_FnExactFixDiagram.j1 (k + 1) y0 y1 y2 y3 y4 y5 y6 y7 y8 y9 y10 y11 y12)) /\ (∀ y0 y1 y2 y3 y4, LeO (laws_FnExactFixDiagram.j2 k y0 y1 y2 y3 y4) (laws_FnExactFixDiagram.j2 (k + 1) y0 y1 y2 y3 y4))
 | 0 => by refine ⟨?_, ?_, ?_⟩ <;> (intros; intro r h; first | (simp [laws_FnExactFixDiagram.j0] at h; done) | (simp [laws_FnExactFixDiagram.j1] at h; done) | (simp [laws_FnExactFixDiagram.j2] at h; done))
 | k + 1 => by
  obtain ⟨ih0, ih1, ih2⟩ := laws_FnExactFixDiagram.mono_l k
  refine ⟨?_, ?_, ?_⟩ <;> (
   intros
   first | unfold laws_FnExactFixDiagram.j0 | unfold laws_FnExactFixDiagram.j1 | unfold laws_FnExactFixDiagram.j2
   repeat' first | (with_reducible first | apply ih0 | apply ih1 | apply ih2 | apply impl_FixDiagram.mono | apply laws_eqDiagram.mono | apply laws_heldDiagram.mono | apply laws_markDiagram.mono | apply laws_toDiagram.mono | apply spec_FixDiagram.mono | exact LeO.refl _ | exact LeO.none _ | refine LeO.ite ?_ ?_ | refine LeO.bind ?_ (fun _ => ?_)) | exact LeO.none _ | refine LeO.ite ?_ ?_ | refine LeO.bind ?_ (fun _ => ?_))
theorem laws_FnExactFixDiagram.mono : ∀ a0 a1 a2 a3 a4 k, LeO (laws_FnExactFixDiagram.f k a0 a1 a2 a3 a4) (laws_FnExactFixDiagram.f (k + 1) a0 a1 a2 a3 a4) := by
 intro a0 a1 a2 a3 a4 k
 obtain ⟨ih0, ih1, ih2⟩ := laws_FnExactFixDiagram.mono_l k
 unfold laws_FnExactFixDiagram.f
 repeat' first | (with_reducible first | apply ih0 | apply ih1 | apply ih2 | apply impl_FixDiagram.mono | apply laws_eqDiagram.mono | apply laws_heldDiagram.mono | apply laws_markDiagram.mono | apply laws_toDiagram.mono | apply spec_FixDiagram.mono | exact LeO.refl _ | exact LeO.none _ | refine LeO.ite ?_ ?_ | refine LeO.bind ?_ (fun _ => ?_)) | exact LeO.none _ | refine LeO.ite ?_ ?_ | refine LeO.bind ?_ (fun _ => ?_)
set_option maxHeartbeats 8000000 in
set_option maxRecDepth 100000 in
theorem laws_FnExactFixDiagram.calls (k : Nat) (a0_0 : Int) (A0_1 : Option Addr) (c0_1 : Nat) (l0_1 : List (S86)) (a0_2 : Int) (a1 : Int) (a2 : Int) (w : World) (hr0_1 : Kd.C k86 w A0_1 l0_1.length l0_1) (hc0_1 : l0_1.length <= c0_1) (h : laws_FnExactFixDiagram.f k a0_0 l0_1 a0_2 a1 a2 = some true) :
 Calls Try.prog 11 #[.agg #[.int .i64 a0_0, .slice A0_1 l0_1.length c0_1, .int .i64 a0_2], .int .i64 a1, .int .i64 a2] w fun e w' => e = .returned (.bool true) /\ Below w.heap.size w w' := by
 have hu24 := Try.underlying24
 have hu29 := Try.underlying29
 have HR0_1 := Aside0.mk hr0_1
 have HC0_1 := Aside0.mk hc0_1
 clear hr0_1 hc0_1
 have HB := Aside0.mk (Below.refl w.heap.size w)
 have H := h
 clear h
 unfold laws_FnExactFixDiagram.f at H
 replace H := bindA H; obtain ⟨t739, A4, H⟩ := H
 replace H := ifB H; rcases H with ⟨c5b0, H⟩ | ⟨c5b0, H⟩
 · first | (obtain rfl := Option.some.inj H) | clear H
   go_enter Try.func11, Try.ntmps11
   go_wp2_with (first | ((with_reducible refine gate_dst (N := 3) rfl ?_); refine boxE (cs := #[.int .i64 a0_0, .slice A0_1 l0_1.length c0_1, .int .i64 a0_2]) (t := 24) ?_; intro gb738 hg w6 hbox hb; refine E4b HB.1 hg hbox hb ?_; clear HB; intro HB BK738 GW738 GE738; clear hb hbox hg; obtain ⟨hcz7_0, hcz7_1, hcz7_2, hfz7_0, hfz7_1, hfz7_2⟩ := cz3 BK738.1) | ((with_reducible refine gate_callee (f := 12) rfl ?_); refine goesM (N := (some 20)) #[.agg #[.int .i64 a0_0, .slice A0_1 l0_1.length c0_1, .int .i64 a0_2], .int .i64 1048576] Try.func12 ?_; (with_reducible refine (laws_szDiagram.calls a0_0 _ _ l0_1 a0_2 1048576 t739 _ ?side1 ?side2 A4.1).mono ?_); (case side1 => exact CB (C_below HR0_1.1 HB.1)); (case side2 => exact HC0_1.1); rintro e w8 ⟨rfl, hb⟩; refine ⟨_, rfl, ?_⟩; refine E2 (bB BK738.1 hb) (bS HB.1 hb) ?_; clear BK738 HB; intro BK738 HB; (try clear hb)))
   go_ret
   exact ⟨RF, BL HB.1⟩
 replace H := bindA H; obtain ⟨⟨t740, t741, t744⟩, A9, H⟩ := H
 dsimp only at H
 replace H := bindA H; obtain ⟨⟨t745, t746, t749, t750⟩, A10, H⟩ := H
 dsimp only at H
 replace H := bindA H; obtain ⟨⟨t752, t753, t756⟩, A11, H⟩ := H
 dsimp only at H
 replace H := bindA H; obtain ⟨⟨t758, t759, t762, t763⟩, A12, H⟩ := H
 dsimp only at H
 have HC13 := Aside0.mk H
 clear H
 go_enter Try.func11, Try.ntmps11
 go_upto_region 8 with (first | ((with_reducible refine gate_dst (N := 3) rfl ?_); refine boxE (cs := #[.int .i64 a0_0, .slice A0_1 l0_1.length c0_1, .int .i64 a0_2]) (t := 24) ?_; intro gb738 hg w14 hbox hb; refine E4b HB.1 hg hbox hb ?_; clear HB; intro HB BK738 GW738 GE738; clear hb hbox hg; obtain ⟨hcz15_0, hcz15_1, hcz15_2, hfz15_0, hfz15_1, hfz15_2⟩ := cz3 BK738.1) | ((with_reducible refine gate_callee (f := 12) rfl ?_); refine goesM (N := (some 20)) #[.agg #[.int .i64 a0_0, .slice A0_1 l0_1.length c0_1, .int .i64 a0_2], .int .i64 1048576] Try.func12 ?_; (with_reducible refine (laws_szDiagram.calls a0_0 _ _ l0_1 a0_2 1048576 t739 _ ?side1 ?side2 A4.1).mono ?_); (case side1 => exact CB (C_below HR0_1.1 HB.1)); (case side2 => exact HC0_1.1); rintro e w16 ⟨rfl, hb⟩; refine ⟨_, rfl, ?_⟩; refine E2 (bB BK738.1 hb) (bS HB.1 hb) ?_; clear BK738 HB; intro BK738 HB; (try clear hb); obtain ⟨hcz17_0, hcz17_1, hcz17_2, hfz17_0, hfz17_1, hfz17_2⟩ := cz3 BK738.1) | ((with_reducible refine gate_callee (f := 14) rfl ?_); refine goesM (N := (some 25)) #[.agg #[.int .i64 a0_0, .slice A0_1 l0_1.length c0_1, .int .i64 a0_2]] Try.func14 ?_; (with_reducible refine (laws_toDiagram.calls k a0_0 _ _ l0_1 a0_2 t740 t741 t744 _ ?side1 ?side2 A9.1).mono ?_); (case side1 => exact CB (C_below HR0_1.1 HB.1)); (case side2 => exact HC0_1.1); rintro e w18 ⟨v742, rfl, ho0, hb⟩; refine ⟨_, rfl, ?_⟩; refine E3 (R_lower ho0 (bZ HB.1)) (bB BK738.1 hb) (bS HB.1 hb) ?_; clear BK738 HB; intro HO743 BK738 HB; (try clear hb); (try clear ho0); obtain ⟨Ao19, co19, eo19⟩ := R_slice HO743.1; subst eo19) | ((with_reducible refine gate_callee (f := 42) rfl ?_); refine goesM (N := (some 28)) #[.agg #[.int .i64 t740, .slice Ao19 t741.length co19, .int .i64 t744], .int .i64 a1, .int .i64 a2] Try.func42 ?_; (with_reducible refine (spec_FixDiagram.calls k t740 _ _ t741 t744 a1 a2 t745 t746 t749 t750 _ ?side1 ?side2 A10.1).mono ?_); (case side1 => exact CB (R_reads' HO743.1).2.2); (case side2 => exact (R_reads' HO743.1).2.1); rintro e w20 ⟨v747, rfl, ho0, hb⟩; refine ⟨_, rfl, ?_⟩; refine E4 (R_elder' (PR HO743.1) (R_base ho0) hb) (R_lower (R_new' ho0 (R_lt (PR HO743.1))) (bZ HB.1)) (bB BK738.1 hb) (bS HB.1 hb) ?_; clear HO743 BK738 HB; intro HO743 HO748 BK738 HB; (try clear hb); (try clear ho0)) | ((with_reducible refine gate_dst (N := 8) rfl ?_); refine boxE (cs := #[.int .i64 0, .slice none 0 0, .int .i64 0]) (t := 29) ?_; intro gb751 hg w21 hbox hb; refine E9 (rB HO743.1 hb) (rB HO748.1 hb) (bB BK738.1 hb) (bS HB.1 hb) (hbox) (gX HB.1 hg) (gX HB.1 hg) (nB BK738.1 hg) (nC BK738.1 hg) ?_; clear HO743 HO748 BK738 HB; intro HO743 HO748 BK738 HB BK751 GW751 GE751 NB738_751 NB751_738; clear hb hbox hg; have hnb22 := NB751_738.1; have hnc22 := NB738_751.1; obtain ⟨hcz23_0, hcz23_1, hcz23_2, hfz23_0, hfz23_1, hfz23_2⟩ := cz3 BK751.1; obtain ⟨Ao24, co24, eo24⟩ := R_slice HO748.1; subst eo24; obtain ⟨hcz25_0, hcz25_1, hcz25_2, hfz25_0, hfz25_1, hfz25_2⟩ := cz3 BK738.1) | ((with_reducible refine gate_callee (f := 14) rfl ?_); refine goesM (N := (some 32)) #[.agg #[.int .i64 a0_0, .slice A0_1 l0_1.length c0_1, .int .i64 a0_2]] Try.func14 ?_; (with_reducible refine (laws_toDiagram.calls k a0_0 _ _ l0_1 a0_2 t752 t753 t756 _ ?side1 ?side2 A11.1).mono ?_); (case side1 => exact C_below HR0_1.1 (BL HB.1)); (case side2 => exact HC0_1.1); rintro e w26 ⟨v754, rfl, ho0, hb⟩; refine ⟨_, rfl, ?_⟩; refine E6 (R_elder' (by (with_reducible repeat (first | apply R_alloc | apply R_drewN | apply R_drew)); exact (R_mono (RQ gb751 2 (RQ gb751 1 (RQ gb751 0 (R_types HO743.1 BK751.1 (by decide)) _) _) _) (fun _ h_ => h_.1))) (R_base ho0) hb) (R_elder' (by (with_reducible repeat (first | apply R_alloc | apply R_drewN | apply R_drew)); exact (R_mono (RQ gb751 2 (RQ gb751 1 (RQ gb751 0 (R_types HO748.1 BK751.1 (by decide)) _) _) _) (fun _ h_ => h_.1))) (R_base ho0) hb) (R_lower (R_new' (R_new' ho0 (R_lt (by (with_reducible repeat (first | apply R_alloc | apply R_drewN | apply R_drew)); exact (R_mono (RQ gb751 2 (RQ gb751 1 (RQ gb751 0 (R_types HO743.1 BK751.1 (by decide)) _) _) _) (fun _ h_ => h_.1))))) (R_lt (by (with_reducible repeat (first | apply R_alloc | apply R_drewN | apply R_drew)); exact (R_mono (RQ gb751 2 (RQ gb751 1 (RQ gb751 0 (R_types HO748.1 BK751.1 (by decide)) _) _) _) (fun _ h_ => h_.1))))) (bZ HB.1)) (blk_below (g := gb738) (o := .cells #[.int .i64 a0_0, .slice A0_1 l0_1.length c0_1, .int .i64 a0_2] 24 (0, 0)) (PF1 NB738_751.1 BK738.1) hb) (blk_below (g := gb751) (o := .cells #[.int .i64 t745, .slice Ao24 t746.length co24, .int .i64 t749] 29 (0, 0)) (PF0 BK751.1) hb) (bS HB.1 hb) ?_; clear HO743 HO748 BK738 BK751 HB; intro HO743 HO748 HO755 BK738 BK751 HB; (try clear hb); (try clear ho0)) | ((with_reducible refine gate_dst (N := 10) rfl ?_); refine boxE (cs := #[.int .i64 0, .slice none 0 0, .int .i64 0]) (t := 29) ?_; intro gb757 hg w27 hbox hb; refine E13 (rB HO743.1 hb) (rB HO748.1 hb) (rB HO755.1 hb) (bB BK738.1 hb) (bB BK751.1 hb) (bS HB.1 hb) (hbox) (gX HB.1 hg) (gX HB.1 hg) (nB BK738.1 hg) (nC BK738.1 hg) (nB BK751.1 hg) (nC BK751.1 hg) ?_; clear HO743 HO748 HO755 BK738 BK751 HB; intro HO743 HO748 HO755 BK738 BK751 HB BK757 GW757 GE757 NB738_757 NB757_738 NB751_757 NB757_751; clear hb hbox hg; have hnb28 := NB757_738.1; have hnc28 := NB738_757.1; have hnb29 := NB757_751.1; have hnc29 := NB751_757.1; obtain ⟨hcz30_0, hcz30_1, hcz30_2, hfz30_0, hfz30_1, hfz30_2⟩ := cz3 BK757.1; obtain ⟨Ao31, co31, eo31⟩ := R_slice HO755.1; subst eo31) | ((with_reducible refine gate_callee (f := 43) rfl ?_); refine goesM (N := (some 37)) #[.agg #[.int .i64 t752, .slice Ao31 t753.length co31, .int .i64 t756], .int .i64 a1, .int .i64 a2] Try.func43 ?_; (with_reducible refine (impl_FixDiagram.calls k t752 _ _ t753 t756 a1 a2 t758 t759 t762 t763 _ ?side1 ?side2 A12.1).mono ?_); (case side1 => refine (R_reads' (e := 63) (base := w.heap.size) (ok := fun k_ => ((True /\ some k_ ≠ (.slice Ao19 t741.length co19 : Value).ownBlock) /\ some k_ ≠ (.slice Ao24 t746.length co24 : Value).ownBlock)) (n := t753.length) (c := co31) ?_).2.2; exact (by (with_reducible repeat (first | apply R_alloc | apply R_drewN | apply R_drew)); exact (R_mono (RQ gb757 2 (RQ gb757 1 (RQ gb757 0 (R_types HO755.1 BK757.1 (by decide)) _) _) _) (fun _ h_ => h_.1)))); (case side2 => exact (R_reads' HO755.1).2.1); rintro e w32 ⟨v760, rfl, ho0, hb⟩; refine ⟨_, rfl, ?_⟩; refine E8 (R_elder' (by (with_reducible repeat (first | apply R_alloc | apply R_drewN | apply R_drew)); exact (R_mono (RQ gb757 2 (RQ gb757 1 (RQ gb757 0 (R_types HO743.1 BK757.1 (by decide)) _) _) _) (fun _ h_ => h_.1))) (R_base ho0) hb) (R_elder' (by (with_reducible repeat (first | apply R_alloc | apply R_drewN | apply R_drew)); exact (R_mono (RQ gb757 2 (RQ gb757 1 (RQ gb757 0 (R_types HO748.1 BK757.1 (by decide)) _) _) _) (fun _ h_ => h_.1))) (R_base ho0) hb) (R_elder' (by (with_reducible repeat (first | apply R_alloc | apply R_drewN | apply R_drew)); exact (R_mono (RQ gb757 2 (RQ gb757 1 (RQ gb757 0 (R_types HO755.1 BK757.1 (by decide)) _) _) _) (fun _ h_ => h_.1))) (R_base ho0) hb) (R_lower (R_new' (R_new' (R_new' ho0 (R_lt (by (with_reducible repeat (first | apply R_alloc | apply R_drewN | apply R_drew)); exact (R_mono (RQ gb757 2 (RQ gb757 1 (RQ gb757 0 (R_types HO743.1 BK757.1 (by decide)) _) _) _) (fun _ h_ => h_.1))))) (R_lt (by (with_reducible repeat (first | apply R_alloc | apply R_drewN | apply R_drew)); exact (R_mono (RQ gb757 2 (RQ gb757 1 (RQ gb757 0 (R_types HO748.1 BK757.1 (by decide)) _) _) _) (fun _ h_ => h_.1))))) (R_lt (by (with_reducible repeat (first | apply R_alloc | apply R_drewN | apply R_drew)); exact (R_mono (RQ gb757 2 (RQ gb757 1 (RQ gb757 0 (R_types HO755.1 BK757.1 (by decide)) _) _) _) (fun _ h_ => h_.1))))) (bZ HB.1)) (blk_below (g := gb738) (o := .cells #[.int .i64 a0_0, .slice A0_1 l0_1.length c0_1, .int .i64 a0_2] 24 (0, 0)) (PF1 NB738_757.1 BK738.1) hb) (blk_below (g := gb751) (o := .cells #[.int .i64 t745, .slice Ao24 t746.length co24, .int .i64 t749] 29 (0, 0)) (PF1 NB751_757.1 BK751.1) hb) (blk_below (g := gb757) (o := .cells #[.int .i64 t752, .slice Ao31 t753.length co31, .int .i64 t756] 29 (0, 0)) (PF0 BK757.1) hb) (bS HB.1 hb) ?_; clear HO743 HO748 HO755 BK738 BK751 BK757 HB; intro HO743 HO748 HO755 HO761 BK738 BK751 BK757 HB; (try clear hb); (try clear ho0)) | ((with_reducible refine gate_dst (N := 11) rfl ?_); refine boxE (cs := #[.int .i64 0, .slice none 0 0, .int .i64 0]) (t := 29) ?_; intro gb764 hg w33 hbox hb; refine E17 (rB HO743.1 hb) (rB HO748.1 hb) (rB HO755.1 hb) (rB HO761.1 hb) (bB BK738.1 hb) (bB BK751.1 hb) (bB BK757.1 hb) (bS HB.1 hb) (hbox) (gX HB.1 hg) (gX HB.1 hg) (nB BK738.1 hg) (nC BK738.1 hg) (nB BK751.1 hg) (nC BK751.1 hg) (nB BK757.1 hg) (nC BK757.1 hg) ?_; clear HO743 HO748 HO755 HO761 BK738 BK751 BK757 HB; intro HO743 HO748 HO755 HO761 BK738 BK751 BK757 HB BK764 GW764 GE764 NB738_764 NB764_738 NB751_764 NB764_751 NB757_764 NB764_757; clear hb hbox hg; have hnb34 := NB764_738.1; have hnc34 := NB738_764.1; have hnb35 := NB764_751.1; have hnc35 := NB751_764.1; have hnb36 := NB764_757.1; have hnc36 := NB757_764.1; obtain ⟨hcz37_0, hcz37_1, hcz37_2, hfz37_0, hfz37_1, hfz37_2⟩ := cz3 BK764.1; obtain ⟨Ao38, co38, eo38⟩ := R_slice HO761.1; subst eo38))
 (try simp only [Act.put, List.setIfInBounds_toArray, List.set_cons_zero, List.set_cons_succ])
 go_cut [48] (fun v48 wc => ∃ (kq : Nat) (x48_12 : Bool), v48 = .bool x48_12 /\ Aside0 (laws_FnExactFixDiagram.j0 kq a1 a2 t750 t763 x48_12 a0_0 l0_1 a0_2 t745 t746 t749 t752 t753 t756 t758 t759 t762 = some true) /\ Aside0 (kq <= k) /\ Aside0 (Kd.R k63 63 wc w.heap.size (fun k_ => some k_ ≠ ((.slice Ao31 t753.length co31) : Value).ownBlock /\ some k_ ≠ ((.slice Ao38 t759.length co38) : Value).ownBlock) (.slice Ao24 t746.length co24) t746) /\ Aside0 (Kd.R k63 63 wc w.heap.size (fun k_ => some k_ ≠ ((.slice Ao24 t746.length co24) : Value).ownBlock /\ some k_ ≠ ((.slice Ao38 t759.length co38) : Value).ownBlock) (.slice Ao31 t753.length co31) t753) /\ Aside0 (Kd.R k63 63 wc w.heap.size (fun k_ => some k_ ≠ ((.slice Ao24 t746.length co24) : Value).ownBlock /\ some k_ ≠ ((.slice Ao31 t753.length co31) : Value).ownBlock) (.slice Ao38 t759.length co38) t759) /\ Aside0 (wc.heap[gb738]? = some (.cells #[.int .i64 a0_0, (.slice A0_1 l0_1.length c0_1), .int .i64 a0_2] 24 (0, 0))) /\ Aside0 (wc.heap[gb751]? = some (.cells #[.int .i64 t745, (.slice Ao24 t746.length co24), .int .i64 t749] 29 (0, 0))) /\ Aside0 (wc.heap[gb757]? = some (.cells #[.int .i64 t752, (.slice Ao31 t753.length co31), .int .i64 t756] 29 (0, 0))) /\ Aside0 (wc.heap[gb764]? = some (.cells #[.int .i64 t758, (.slice Ao38 t759.length co38), .int .i64 t762] 29 (0, 0))) /\ Aside0 (Below w.heap.size w wc))
 case first =>
  have H := HC13.1
  clear HC13
  replace H := bindA H; obtain ⟨t765, A39, H⟩ := H
  replace H := ifT H (by cases k <;> simp [laws_FnExactFixDiagram.j0]); obtain ⟨rfl, H⟩ := H
  have H' := Aside0.mk H
  clear H
  obtain ⟨hcz44_0, hcz44_1, hcz44_2, hfz44_0, hfz44_1, hfz44_2⟩ := cz3 BK764.1
  obtain ⟨hcz47_0, hcz47_1, hcz47_2, hfz47_0, hfz47_1, hfz47_2⟩ := cz3 BK751.1
  go_wp2_with (first | ((with_reducible refine gate_callee (f := 16) rfl ?_); refine goesM (N := (some 42)) #[.agg #[.int .i64 t758, .slice Ao38 t759.length co38, .int .i64 t762], .agg #[.int .i64 t745, .slice Ao24 t746.length co24, .int .i64 t749]] Try.func16 ?_; (with_reducible refine (laws_eqDiagram.calls k t758 _ _ t759 t762 t745 _ _ t746 t749 true _ ?side1 ?side2 ?side3 ?side4 A39.1).mono ?_); (case side1 => refine (R_reads' (e := 63) (base := w.heap.size) (ok := fun k_ => (((True /\ some k_ ≠ (.slice Ao19 t741.length co19 : Value).ownBlock) /\ some k_ ≠ (.slice Ao24 t746.length co24 : Value).ownBlock) /\ some k_ ≠ (.slice Ao31 t753.length co31 : Value).ownBlock)) (n := t759.length) (c := co38) ?_).2.2; exact (by (with_reducible repeat (first | apply R_alloc | apply R_drewN | apply R_drew)); exact (R_mono (RQ gb764 2 (RQ gb764 1 (RQ gb764 0 (R_types HO761.1 BK764.1 (by decide)) _) _) _) (fun _ h_ => h_.1)))); (case side2 => exact (R_reads' HO761.1).2.1); (case side3 => refine (R_reads' (e := 63) (base := w.heap.size) (ok := fun k_ => (((True /\ some k_ ≠ (.slice Ao19 t741.length co19 : Value).ownBlock) /\ some k_ ≠ (.slice Ao31 t753.length co31 : Value).ownBlock) /\ some k_ ≠ (.slice Ao38 t759.length co38 : Value).ownBlock)) (n := t746.length) (c := co24) ?_).2.2; exact (by (with_reducible repeat (first | apply R_alloc | apply R_drewN | apply R_drew)); exact (R_mono (RQ gb764 2 (RQ gb764 1 (RQ gb764 0 (R_types HO748.1 BK764.1 (by decide)) _) _) _) (fun _ h_ => h_.1)))); (case side4 => exact (R_reads' HO748.1).2.1); rintro e w48 ⟨rfl, hb⟩; refine ⟨_, rfl, ?_⟩; refine E9 (R_below (by (with_reducible repeat (first | apply R_alloc | apply R_drewN | apply R_drew)); exact (R_mono (RQ gb764 2 (RQ gb764 1 (RQ gb764 0 (R_types HO743.1 BK764.1 (by decide)) _) _) _) (fun _ h_ => h_.1))) hb) (R_below (by (with_reducible repeat (first | apply R_alloc | apply R_drewN | apply R_drew)); exact (R_mono (RQ gb764 2 (RQ gb764 1 (RQ gb764 0 (R_types HO748.1 BK764.1 (by decide)) _) _) _) (fun _ h_ => h_.1))) hb) (R_below (by (with_reducible repeat (first | apply R_alloc | apply R_drewN | apply R_drew)); exact (R_mono (RQ gb764 2 (RQ gb764 1 (RQ gb764 0 (R_types HO755.1 BK764.1 (by decide)) _) _) _) (fun _ h_ => h_.1))) hb) (R_below (by (with_reducible repeat (first | apply R_alloc | apply R_drewN | apply R_drew)); exact (R_mono (RQ gb764 2 (RQ gb764 1 (RQ gb764 0 (R_types HO761.1 BK764.1 (by decide)) _) _) _) (fun _ h_ => h_.1))) hb) (blk_below (g := gb738) (o := .cells #[.int .i64 a0_0, .slice A0_1 l0_1.length c0_1, .int .i64 a0_2] 24 (0, 0)) (PF1 NB738_764.1 BK738.1) hb) (blk_below (g := gb751) (o := .cells #[.int .i64 t745, .slice Ao24 t746.length co24, .int .i64 t749] 29 (0, 0)) (PF1 NB751_764.1 BK751.1) hb) (blk_below (g := gb757) (o := .cells #[.int .i64 t752, .slice Ao31 t753.length co31, .int .i64 t756] 29 (0, 0)) (PF1 NB757_764.1 BK757.1) hb) (blk_below (g := gb764) (o := .cells #[.int .i64 t758, .slice Ao38 t759.length co38, .int .i64 t762] 29 (0, 0)) (PF0 BK764.1) hb) (bS HB.1 hb) ?_; clear HO743 HO748 HO755 HO761 BK738 BK751 BK757 BK764 HB; intro HO743 HO748 HO755 HO761 BK738 BK751 BK757 BK764 HB; (try clear hb)))
  go_meet
  case rel => exact ⟨_, ((t763 != t750)), RG, H', ⟨by first | omega | exact Nat.le_refl _⟩, ⟨RPE (R_mono HO748.1 (fun _ hk => ⟨hk.1.2, hk.2⟩))⟩, ⟨RPE (R_mono HO755.1 (fun _ hk => ⟨hk.1.2, hk.2⟩))⟩, ⟨RPE (R_mono HO761.1 (fun _ hk => ⟨hk.1.2, hk.2⟩))⟩, ⟨PB BK738.1⟩, ⟨PB BK751.1⟩, ⟨PB BK757.1⟩, ⟨PB BK764.1⟩, ⟨BL HB.1⟩⟩
 clear HC13
 clear c5b0 hcz15_0 hcz15_1 hcz15_2 hcz17_0 hcz17_1 hcz17_2 hcz23_0 hcz23_1 hcz23_2 hcz25_0 hcz25_1 hcz25_2 hcz30_0 hcz30_1 hcz30_2 hcz37_0 hcz37_1 hcz37_2 hfz15_0 hfz15_1 hfz15_2 hfz17_0 hfz17_1 hfz17_2 hfz23_0 hfz23_1 hfz23_2 hfz25_0 hfz25_1 hfz25_2 hfz30_0 hfz30_1 hfz30_2 hfz37_0 hfz37_1 hfz37_2
 obtain ⟨kq, x48_12, rfl, HA, HJ12, HO_752001, HO_758001, HO_765001, BK738, BK751, BK757, BK764, HB⟩ := hcut
 cases kq with
 | zero => exact absurd HA.1 (by simp [laws_FnExactFixDiagram.j0])
 | succ kj12 => ?_
 have H := HA.1
 clear HA
 simp only [laws_FnExactFixDiagram.j0] at H
 replace H := ifF H (by simp); obtain ⟨rfl, H⟩ := H
 replace H := bindA H; obtain ⟨⟨t766, t767, t770⟩, A58, H⟩ := H
 dsimp only at H
 replace H := bindA H; obtain ⟨t771, A59, H⟩ := H
 replace H := ifT H (by simp); obtain ⟨rfl, H⟩ := H
 replace H := bindA H; obtain ⟨⟨t772, t773⟩, A61, H⟩ := H
 dsimp only at H
 have HC62 := Aside0.mk H
 clear H
 try go_wp2
 refine E8 (R_drew HO_752001.1) (R_drew HO_758001.1) (R_drew HO_765001.1) (blk_drew BK738.1) (blk_drew BK751.1) (blk_drew BK757.1) (blk_drew BK764.1) (below_drew1 HB.1) ?_
 clear HO_752001 HO_758001 HO_765001 BK738 BK751 BK757 BK764 HB
 intro HO_752001 HO_758001 HO_765001 BK738 BK751 BK757 BK764 HB
 refine start_ (n := 5) (S := fun w' => w'.cell? ⟨gb757, 0, none⟩ = some (.int .i64 t752) /\ w'.cell? ⟨gb757, 1, none⟩ = some (.slice Ao31 t753.length co31) /\ w'.cell? ⟨gb757, 2, none⟩ = some (.int .i64 t756) /\ w'.cell? ⟨gb738, 0, none⟩ = some (.int .i64 a0_0) /\ w'.cell? ⟨gb738, 1, none⟩ = some (.slice A0_1 l0_1.length c0_1) /\ w'.cell? ⟨gb738, 2, none⟩ = some (.int .i64 a0_2)) (ds := []) #[Zz,Zz,Zz,Zz,Zz] (by kernel_rfl) rfl rfl ⟨(blk_cell BK757.1 0).trans rfl, (blk_cell BK757.1 1).trans rfl, (blk_cell BK757.1 2).trans rfl, (blk_cell BK738.1 0).trans rfl, (blk_cell BK738.1 1).trans rfl, (blk_cell BK738.1 2).trans rfl⟩ (fun hHeld => ?_)
 generalize wc.drew = w63 at HO_752001 HO_758001 HO_765001 BK738 BK751 BK757 BK764 HB hHeld ⊢
 refine takeF 0 (N := some 49) hHeld ?_
 refine takeF 1 (N := some 50) hHeld ?_
 refine one_ (i := 2) (N := some 51) #[Yy,Yy,Yy,Zz,Zz] rfl rfl (by kernel_rfl) (by decide) (fun K hK => ?_)
 refine goes_ Try.func14 (by kernel_rfl) rfl #[.agg #[.int .i64 a0_0, .slice A0_1 l0_1.length c0_1, .int .i64 a0_2]] (by rfl) rfl rfl (by (try simp only [List.map_toArray, List.map_cons, List.map_nil]); first | done | rfl | (simp only [List.length_drop, List.length_take]; rfl)) ?_
 with_reducible refine (laws_toDiagram.calls kj12 a0_0 _ _ l0_1 a0_2 t766 t767 t770 _ ?side1 ?side2 A58.1).mono ?_
 (case side1 => exact CB (C_below HR0_1.1 HB.1))
 (case side2 => exact HC0_1.1)
 rintro e w64 ⟨v768, rfl, ho0, hb⟩
 refine ⟨_, rfl, ?_⟩
 refine E9 (R_elder' (PR HO_752001.1) (R_base ho0) hb) (R_elder' (PR HO_758001.1) (R_base ho0) hb) (R_elder' (PR HO_765001.1) (R_base ho0) hb) (R_lower (R_new' (R_new' (R_new' ho0 (R_lt (PR HO_752001.1))) (R_lt (PR HO_758001.1))) (R_lt (PR HO_765001.1))) (bZ HB.1)) (bB BK738.1 hb) (bB BK751.1 hb) (bB BK757.1 hb) (bB BK764.1 hb) (bS HB.1 hb) ?_
 clear HO_752001 HO_758001 HO_765001 BK738 BK751 BK757 BK764 HB
 intro HO_752001 HO_758001 HO_765001 HO769 BK738 BK751 BK757 BK764 HB
 (try clear hb)
 (try clear hb2)
 (try clear hk)
 (try clear hi)
 (try clear ho0)
 obtain ⟨Ao65, co65, eo65⟩ := R_slice HO769.1
 (first | subst eo65 | (injection eo65 with f1_ f2_ f3_; have f4_ := f1_.symm; have f5_ := f3_.symm; clear f1_ f2_ f3_; subst f4_; subst f5_))
 refine hK.out _ _ ⟨(blk_cell BK757.1 0).trans rfl, (blk_cell BK757.1 1).trans rfl, (blk_cell BK757.1 2).trans rfl, (blk_cell BK738.1 0).trans rfl, (blk_cell BK738.1 1).trans rfl, (blk_cell BK738.1 2).trans rfl⟩ (fun hHeld => ?_)
 clear hK K
 refine norm_ (a' := ?_) ?_ ?_
 rotate_left
 · show Act.put _ (some 51) _ = _
   simp only [Act.put, List.setIfInBounds_toArray, List.set_cons_zero, List.set_cons_succ, i64_w, i32_w]
   rfl
 refine one_ (i := 3) (N := some 52) #[Yy,Yy,Yy,Yy,Zz] rfl rfl (by kernel_rfl) (by decide) (fun K hK => ?_)
 refine goes_ Try.func16 (by kernel_rfl) rfl #[.agg #[.int .i64 t752, .slice Ao31 t753.length co31, .int .i64 t756], .agg #[.int .i64 t766, .slice Ao65 t767.length co65, .int .i64 t770]] (by rfl) rfl rfl (by (try simp only [List.map_toArray, List.map_cons, List.map_nil]); first | done | rfl | (simp only [List.length_drop, List.length_take]; rfl)) ?_
 with_reducible refine (laws_eqDiagram.calls kj12 t752 _ _ t753 t756 t766 _ _ t767 t770 true _ ?side1 ?side2 ?side3 ?side4 A59.1).mono ?_
 (case side1 => exact CB (R_reads' HO_758001.1).2.2)
 (case side2 => exact (R_reads' HO_758001.1).2.1)
 (case side3 => exact CB (R_reads' HO769.1).2.2)
 (case side4 => exact (R_reads' HO769.1).2.1)
 rintro e w66 ⟨rfl, hb⟩
 refine ⟨_, rfl, ?_⟩
 refine E9 (rB HO_752001.1 hb) (rB HO_758001.1 hb) (rB HO_765001.1 hb) (rB HO769.1 hb) (bB BK738.1 hb) (bB BK751.1 hb) (bB BK757.1 hb) (bB BK764.1 hb) (bS HB.1 hb) ?_
 clear HO_752001 HO_758001 HO_765001 HO769 BK738 BK751 BK757 BK764 HB
 intro HO_752001 HO_758001 HO_765001 HO769 BK738 BK751 BK757 BK764 HB
 (try clear hb)
 (try clear hb2)
 (try clear hk)
 (try clear hi)
 refine hK.out _ _ ⟨(blk_cell BK757.1 0).trans rfl, (blk_cell BK757.1 1).trans rfl, (blk_cell BK757.1 2).trans rfl, (blk_cell BK738.1 0).trans rfl, (blk_cell BK738.1 1).trans rfl, (blk_cell BK738.1 2).trans rfl⟩ (fun hHeld => ?_)
 clear hK K
 refine norm_ (a' := ?_) ?_ ?_
 rotate_left
 · show Act.put _ (some 52) _ = _
   simp only [Act.put, List.setIfInBounds_toArray, List.set_cons_zero, List.set_cons_succ, i64_w, i32_w]
   rfl
 refine pure_ (i := 4) (N := some 53) (v := ?_) (a' := ?_) #[Yy,Yy,Yy,Yy,Yy] rfl rfl (by kernel_rfl) (fun _ _ _ h => h) (Or.inl ⟨by rfl, ?_⟩) ?_ ?_
 rotate_left
 · intro w'
   go_simp
   with_reducible rfl
 rotate_left
 · simp only [Act.put, List.setIfInBounds_toArray, List.set_cons_zero, List.set_cons_succ, i64_w, i32_w]
   rfl
 refine done_ (by kernel_rfl) ?_
 obtain ⟨hcz70_0, hcz70_1, hcz70_2, hfz70_0, hfz70_1, hfz70_2⟩ := cz3 BK757.1
 go_upto_region 14 with (first | ((with_reducible refine gate_callee (f := 25) rfl ?_); refine goesM (N := (some 56)) #[.agg #[.int .i64 t752, .slice Ao31 t753.length co31, .int .i64 t756], .int .i64 1] Try.func25 ?_; (with_reducible refine (laws_markDiagram.calls kj12 t752 (fun k_ => some k_ = (.slice Ao31 t753.length co31 : Value).ownBlock) (.slice Ao31 t753.length co31) t753 t756 1 t772 t773 w _ ?side1 ?side2 A61.1).mono ?_); (case side1 => exact BL HB.1); (case side2 => exact R_tight rfl HO_758001.1); rintro e w71 ⟨rfl, hy0, hb, hkp⟩; refine ⟨_, rfl, ?_⟩; refine E9 (R_mono (ok' := fun k_ => some k_ ≠ (.slice Ao31 t753.length co31 : Value).ownBlock /\ some k_ ≠ (.slice Ao38 t759.length co38 : Value).ownBlock /\ some k_ ≠ (.slice Ao65 t767.length co65 : Value).ownBlock) (R_keptB (HO_752001.1) hkp (fun k_ hk_ hs_ => (hk_.1.1) hs_)) (fun k_ hk_ => ⟨hk_.1.1.1, hk_.1.1.2, hk_.1.2⟩)) (R_reok rfl hy0 (fun k_ e_ => HO_758001.1.1 k_ e_)) (R_mono (ok' := fun k_ => some k_ ≠ (.slice Ao24 t746.length co24 : Value).ownBlock /\ some k_ ≠ (.slice Ao31 t753.length co31 : Value).ownBlock /\ some k_ ≠ (.slice Ao65 t767.length co65 : Value).ownBlock) (R_keptB (HO_765001.1) hkp (fun k_ hk_ hs_ => (hk_.1.2) hs_)) (fun k_ hk_ => ⟨hk_.1.1.1, hk_.1.1.2, hk_.1.2⟩)) (blk_kept (PB BK738.1) hkp (fun hs_ => (fun e_ => (R_ne HO_758001.1 BK738.1 (by decide)) e_) hs_)) (blk_kept (PB BK751.1) hkp (fun hs_ => (fun e_ => (R_ne HO_758001.1 BK751.1 (by decide)) e_) hs_)) (blk_kept (PB BK757.1) hkp (fun hs_ => (fun e_ => (R_ne HO_758001.1 BK757.1 (by decide)) e_) hs_)) (blk_kept (PB BK764.1) hkp (fun hs_ => (fun e_ => (R_ne HO_758001.1 BK764.1 (by decide)) e_) hs_)) (R_mono (ok' := fun k_ => some k_ ≠ (.slice Ao24 t746.length co24 : Value).ownBlock /\ some k_ ≠ (.slice Ao31 t753.length co31 : Value).ownBlock /\ some k_ ≠ (.slice Ao38 t759.length co38 : Value).ownBlock) (R_keptB (HO769.1) hkp (fun k_ hk_ hs_ => (hk_.1.2) hs_)) (fun k_ hk_ => ⟨hk_.1.1.1.2, hk_.1.1.2, hk_.1.2⟩)) (hb) ?_; clear HO_752001 HO_758001 HO_765001 BK738 BK751 BK757 BK764 HO769 HB; intro HO_752001 HO_758001 HO_765001 BK738 BK751 BK757 BK764 HO769 HB; (try clear hb); (try clear hkp); (try clear hy0)))
 (try simp only [Act.put, List.setIfInBounds_toArray, List.set_cons_zero, List.set_cons_succ])
 go_cut [69] (fun v69 wc => ∃ (kq : Nat) (x69_61 : Bool), v69 = .bool x69_61 /\ Aside0 (laws_FnExactFixDiagram.j1 kq a1 a2 t750 x69_61 a0_0 l0_1 a0_2 t745 t746 t749 t758 t759 t762 = some true) /\ Aside0 (kq <= kj12) /\ Aside0 (Kd.R k63 63 wc w.heap.size (fun k_ => some k_ ≠ ((.slice Ao31 t753.length co31) : Value).ownBlock /\ some k_ ≠ ((.slice Ao38 t759.length co38) : Value).ownBlock) (.slice Ao24 t746.length co24) t746) /\ Aside0 (Kd.R k63 63 wc w.heap.size (fun k_ => some k_ ≠ ((.slice Ao24 t746.length co24) : Value).ownBlock /\ some k_ ≠ ((.slice Ao38 t759.length co38) : Value).ownBlock) (.slice Ao31 t753.length co31) t773) /\ Aside0 (Kd.R k63 63 wc w.heap.size (fun k_ => some k_ ≠ ((.slice Ao24 t746.length co24) : Value).ownBlock /\ some k_ ≠ ((.slice Ao31 t753.length co31) : Value).ownBlock) (.slice Ao38 t759.length co38) t759) /\ Aside0 (wc.heap[gb738]? = some (.cells #[.int .i64 a0_0, (.slice A0_1 l0_1.length c0_1), .int .i64 a0_2] 24 (0, 0))) /\ Aside0 (wc.heap[gb751]? = some (.cells #[.int .i64 t745, (.slice Ao24 t746.length co24), .int .i64 t749] 29 (0, 0))) /\ Aside0 (wc.heap[gb757]? = some (.cells #[.int .i64 t752, (.slice Ao31 t753.length co31), .int .i64 t756] 29 (0, 0))) /\ Aside0 (wc.heap[gb764]? = some (.cells #[.int .i64 t758, (.slice Ao38 t759.length co38), .int .i64 t762] 29 (0, 0))) /\ Aside0 (Below w.heap.size w wc))
 case first =>
  have H := HC62.1
  clear HC62
  replace H := ifQ H; rcases H with ⟨c72, H⟩ | ⟨c72, H⟩
  · exact absurd H (by cases kj12 <;> simp [laws_FnExactFixDiagram.j1])
  have c72b0 := decide_eq_false c72
  clear c72
  (first | rw [c72b0] | (simp only [i64_w, i32_w]; rw [c72b0]) | skip)
  replace H := bindA H; obtain ⟨t774, A73, H⟩ := H
  replace H := ifT H (by cases kj12 <;> simp [laws_FnExactFixDiagram.j1]); obtain ⟨rfl, H⟩ := H
  have H' := Aside0.mk H
  clear H
  obtain ⟨hcz78_0, hcz78_1, hcz78_2, hfz78_0, hfz78_1, hfz78_2⟩ := cz3 BK764.1
  obtain ⟨hcz81_0, hcz81_1, hcz81_2, hfz81_0, hfz81_1, hfz81_2⟩ := cz3 BK751.1
  go_wp2_with (first | (go_at_call 16; (with_reducible refine (laws_eqDiagram.calls kj12 t758 _ _ t759 t762 t745 _ _ t746 t749 true _ ?side1 ?side2 ?side3 ?side4 A73.1).mono ?_); (case side1 => exact CB (R_reads' HO_765001.1).2.2); (case side2 => exact (R_reads' HO_765001.1).2.1); (case side3 => exact CB (R_reads' HO_752001.1).2.2); (case side4 => exact (R_reads' HO_752001.1).2.1); rintro e w82 ⟨rfl, hb⟩; refine E9 (rB HO_752001.1 hb) (rB HO_758001.1 hb) (rB HO_765001.1 hb) (rB HO769.1 hb) (bB BK738.1 hb) (bB BK751.1 hb) (bB BK757.1 hb) (bB BK764.1 hb) (bS HB.1 hb) ?_; clear HO_752001 HO_758001 HO_765001 HO769 BK738 BK751 BK757 BK764 HB; intro HO_752001 HO_758001 HO_765001 HO769 BK738 BK751 BK757 BK764 HB; (try clear hb)))
  go_meet
  case rel => exact ⟨_, ((t763 != t750)), RG, H', ⟨by have := HJ12.1; first | omega | exact Nat.le_refl _⟩, ⟨RPE (R_mono HO_752001.1 (fun _ hk => ⟨hk.1, hk.2.1⟩))⟩, ⟨RPE (R_mono HO_758001.1 (fun _ hk => ⟨hk.1.1, hk.1.2⟩))⟩, ⟨RPE (R_mono HO_765001.1 (fun _ hk => ⟨hk.1, hk.2.1⟩))⟩, ⟨PB BK738.1⟩, ⟨PB BK751.1⟩, ⟨PB BK757.1⟩, ⟨PB BK764.1⟩, ⟨BL HB.1⟩⟩
 clear HC62
 clear hcz70_0 hcz70_1 hcz70_2 hfz70_0 hfz70_1 hfz70_2
 obtain ⟨kq, x69_61, rfl, HA, HJ61, HO_752001, HO_758001, HO_765001, BK738, BK751, BK757, BK764, HB⟩ := hcut
 have hl758001_61 := (R_reads' HO_758001.1).1
 rw [hl758001_61] at HO_758001
 (try simp only [hl758001_61])
 (try simp only [hl758001_61] at BK738)
 (try simp only [hl758001_61] at BK751)
 (try simp only [hl758001_61] at BK757)
 (try simp only [hl758001_61] at BK764)
 (try simp only [hl758001_61] at HO_752001)
 (try simp only [hl758001_61] at HO_765001)
 cases kq with
 | zero => exact absurd HA.1 (by simp [laws_FnExactFixDiagram.j1])
 | succ kj61 => ?_
 have H := HA.1
 clear HA
 simp only [laws_FnExactFixDiagram.j1] at H
 replace H := ifF H (by simp); obtain ⟨rfl, H⟩ := H
 replace H := bindA H; obtain ⟨⟨t775, t776⟩, A92, H⟩ := H
 dsimp only at H
 replace H := bindA H; obtain ⟨t777, A93, H⟩ := H
 replace H := ifQ H; rcases H with ⟨c94, H⟩ | ⟨c94, H⟩
 · exact absurd H (by simp)
 have c94b0 := decide_eq_false c94
 clear c94
 first | replace H := ifP H | replace H := ifPf H
 obtain ⟨c102, H⟩ := H
 have c102b0 := beq_iff_eq.mpr c102
 have c102b1 := bne_eq_false_iff_eq.mpr c102
 clear c102
 replace H := bindA H; obtain ⟨⟨t778, t779, t782⟩, A103, H⟩ := H
 dsimp only at H
 replace H := bindA H; obtain ⟨⟨t783, t784, t787, t788⟩, A104, H⟩ := H
 dsimp only at H
 have HC105 := Aside0.mk H
 clear H
 obtain ⟨hcz109_0, hcz109_1, hcz109_2, hfz109_0, hfz109_1, hfz109_2⟩ := cz3 BK764.1
 go_upto_region 25 with (first | ((with_reducible refine gate_callee (f := 25) rfl ?_); refine goesM (N := (some 72)) #[.agg #[.int .i64 t758, .slice Ao38 t759.length co38, .int .i64 t762], .int .i64 1] Try.func25 ?_; (with_reducible refine (laws_markDiagram.calls kj61 t758 (fun k_ => some k_ = (.slice Ao38 t759.length co38 : Value).ownBlock) (.slice Ao38 t759.length co38) t759 t762 1 t775 t776 w _ ?side1 ?side2 A92.1).mono ?_); (case side1 => exact BL HB.1); (case side2 => exact R_tight rfl HO_765001.1); rintro e w110 ⟨rfl, hy0, hb, hkp⟩; refine ⟨_, rfl, ?_⟩; refine E8 (R_mono (ok' := fun k_ => some k_ ≠ (.slice Ao31 t773.length co31 : Value).ownBlock /\ some k_ ≠ (.slice Ao38 t759.length co38 : Value).ownBlock) (R_keptB (HO_752001.1) hkp (fun k_ hk_ hs_ => (hk_.2) hs_)) (fun k_ hk_ => ⟨hk_.1.1, hk_.1.2⟩)) (R_mono (ok' := fun k_ => some k_ ≠ (.slice Ao24 t746.length co24 : Value).ownBlock /\ some k_ ≠ (.slice Ao38 t759.length co38 : Value).ownBlock) (R_keptB (HO_758001.1) hkp (fun k_ hk_ hs_ => (hk_.2) hs_)) (fun k_ hk_ => ⟨hk_.1.1, hk_.1.2⟩)) (R_reok rfl hy0 (fun k_ e_ => HO_765001.1.1 k_ e_)) (blk_kept (PB BK738.1) hkp (fun hs_ => (fun e_ => (R_ne HO_765001.1 BK738.1 (by decide)) e_) hs_)) (blk_kept (PB BK751.1) hkp (fun hs_ => (fun e_ => (R_ne HO_765001.1 BK751.1 (by decide)) e_) hs_)) (blk_kept (PB BK757.1) hkp (fun hs_ => (fun e_ => (R_ne HO_765001.1 BK757.1 (by decide)) e_) hs_)) (blk_kept (PB BK764.1) hkp (fun hs_ => (fun e_ => (R_ne HO_765001.1 BK764.1 (by decide)) e_) hs_)) (hb) ?_; clear HO_752001 HO_758001 HO_765001 BK738 BK751 BK757 BK764 HB; intro HO_752001 HO_758001 HO_765001 BK738 BK751 BK757 BK764 HB; (try clear hb); (try clear hkp); (try clear hy0); obtain ⟨hcz111_0, hcz111_1, hcz111_2, hfz111_0, hfz111_1, hfz111_2⟩ := cz3 BK764.1) | ((with_reducible refine gate_callee (f := 26) rfl ?_); refine goesL_ (some 75) rfl rfl Try.func26 (by kernel_rfl) rfl #[.agg #[.int .i64 t758, .slice Ao38 t776.length co38, .int .i64 t762], .int .i64 1] rfl (by (try simp only [List.map_toArray, List.map_cons, List.map_nil]); first | done | (rw [show t776.length = t759.length from (R_reads' HO_765001.1).1.symm] <;> rfl) | rfl | (simp only [List.length_drop, List.length_take]; rfl)) ?_; (with_reducible refine (laws_heldDiagram.calls kj61 t758 _ _ t776 t762 1 t777 _ ?side1 ?side2 A93.1).mono ?_); (case side1 => exact CB (R_reads' HO_765001.1).2.2); (case side2 => rw [show t776.length = t759.length from (R_reads' HO_765001.1).1.symm]; exact (R_reads' HO_765001.1).2.1); rintro e w112 ⟨rfl, hb⟩; refine ⟨_, rfl, ?_⟩; refine E8 (rB HO_752001.1 hb) (rB HO_758001.1 hb) (rB HO_765001.1 hb) (bB BK738.1 hb) (bB BK751.1 hb) (bB BK757.1 hb) (bB BK764.1 hb) (bS HB.1 hb) ?_; clear HO_752001 HO_758001 HO_765001 BK738 BK751 BK757 BK764 HB; intro HO_752001 HO_758001 HO_765001 BK738 BK751 BK757 BK764 HB; (try clear hb); have hnb113 := NB738_751.1; have hnc113 := NB751_738.1; have hnb114 := NB738_757.1; have hnc114 := NB757_738.1; obtain ⟨hcz115_0, hcz115_1, hcz115_2, hfz115_0, hfz115_1, hfz115_2⟩ := cz3 BK738.1) | ((with_reducible refine gate_callee (f := 14) rfl ?_); refine goesM (N := (some 83)) #[.agg #[.int .i64 a0_0, .slice A0_1 l0_1.length c0_1, .int .i64 a0_2]] Try.func14 ?_; (with_reducible refine (laws_toDiagram.calls kj61 a0_0 _ _ l0_1 a0_2 t778 t779 t782 _ ?side1 ?side2 A103.1).mono ?_); (case side1 => exact CB (C_below HR0_1.1 HB.1)); (case side2 => exact HC0_1.1); rintro e w116 ⟨v780, rfl, ho0, hb⟩; refine ⟨_, rfl, ?_⟩; refine E9 (R_elder' (PR HO_752001.1) (R_base ho0) hb) (R_elder' (PR HO_758001.1) (R_base ho0) hb) (R_elder' (PR HO_765001.1) (R_base ho0) hb) (R_lower (R_new' (R_new' (R_new' ho0 (R_lt (PR HO_752001.1))) (R_lt (PR HO_758001.1))) (R_lt (PR HO_765001.1))) (bZ HB.1)) (bB BK738.1 hb) (bB BK751.1 hb) (bB BK757.1 hb) (bB BK764.1 hb) (bS HB.1 hb) ?_; clear HO_752001 HO_758001 HO_765001 BK738 BK751 BK757 BK764 HB; intro HO_752001 HO_758001 HO_765001 HO781 BK738 BK751 BK757 BK764 HB; (try clear hb); (try clear ho0); obtain ⟨Ao117, co117, eo117⟩ := R_slice HO781.1; subst eo117) | ((with_reducible refine gate_callee (f := 43) rfl ?_); refine goesM (N := (some 86)) #[.agg #[.int .i64 t778, .slice Ao117 t779.length co117, .int .i64 t782], .int .i64 a1, .int .i64 a2] Try.func43 ?_; (with_reducible refine (impl_FixDiagram.calls kj61 t778 _ _ t779 t782 a1 a2 t783 t784 t787 t788 _ ?side1 ?side2 A104.1).mono ?_); (case side1 => exact CB (R_reads' HO781.1).2.2); (case side2 => exact (R_reads' HO781.1).2.1); rintro e w118 ⟨v785, rfl, ho0, hb⟩; refine ⟨_, rfl, ?_⟩; refine E10 (R_elder' (PR HO_752001.1) (R_base ho0) hb) (R_elder' (PR HO_758001.1) (R_base ho0) hb) (R_elder' (PR HO_765001.1) (R_base ho0) hb) (R_elder' (PR HO781.1) (R_base ho0) hb) (R_lower (R_new' (R_new' (R_new' (R_new' ho0 (R_lt (PR HO_752001.1))) (R_lt (PR HO_758001.1))) (R_lt (PR HO_765001.1))) (R_lt (PR HO781.1))) (bZ HB.1)) (bB BK738.1 hb) (bB BK751.1 hb) (bB BK757.1 hb) (bB BK764.1 hb) (bS HB.1 hb) ?_; clear HO_752001 HO_758001 HO_765001 HO781 BK738 BK751 BK757 BK764 HB; intro HO_752001 HO_758001 HO_765001 HO781 HO786 BK738 BK751 BK757 BK764 HB; (try clear hb); (try clear ho0)) | ((with_reducible refine gate_dst (N := 16) rfl ?_); refine boxE (cs := #[.int .i64 0, .slice none 0 0, .int .i64 0]) (t := 29) ?_; intro gb789 hg w119 hbox hb; refine E21 (rB HO_752001.1 hb) (rB HO_758001.1 hb) (rB HO_765001.1 hb) (rB HO781.1 hb) (rB HO786.1 hb) (bB BK738.1 hb) (bB BK751.1 hb) (bB BK757.1 hb) (bB BK764.1 hb) (bS HB.1 hb) (hbox) (gX HB.1 hg) (gX HB.1 hg) (nB BK738.1 hg) (nC BK738.1 hg) (nB BK751.1 hg) (nC BK751.1 hg) (nB BK757.1 hg) (nC BK757.1 hg) (nB BK764.1 hg) (nC BK764.1 hg) ?_; clear HO_752001 HO_758001 HO_765001 HO781 HO786 BK738 BK751 BK757 BK764 HB; intro HO_752001 HO_758001 HO_765001 HO781 HO786 BK738 BK751 BK757 BK764 HB BK789 GW789 GE789 NB738_789 NB789_738 NB751_789 NB789_751 NB757_789 NB789_757 NB764_789 NB789_764; clear hb hbox hg; have hnb120 := NB789_738.1; have hnc120 := NB738_789.1; have hnb121 := NB789_751.1; have hnc121 := NB751_789.1; have hnb122 := NB789_757.1; have hnc122 := NB757_789.1; have hnb123 := NB789_764.1; have hnc123 := NB764_789.1; obtain ⟨hcz124_0, hcz124_1, hcz124_2, hfz124_0, hfz124_1, hfz124_2⟩ := cz3 BK789.1; obtain ⟨Ao125, co125, eo125⟩ := R_slice HO786.1; subst eo125))
 (try simp only [Act.put, List.setIfInBounds_toArray, List.set_cons_zero, List.set_cons_succ])
 go_cut [97] (fun v97 wc => ∃ (kq : Nat) (x97_104 : Bool), v97 = .bool x97_104 /\ Aside0 (laws_FnExactFixDiagram.j2 kq t775 x97_104 t758 t776 t762 = some true) /\ Aside0 (kq <= kj61) /\ Aside0 (Kd.R k63 63 wc w.heap.size (fun k_ => some k_ ≠ ((.slice Ao31 t773.length co31) : Value).ownBlock /\ some k_ ≠ ((.slice Ao38 t759.length co38) : Value).ownBlock /\ some k_ ≠ ((.slice Ao125 t784.length co125) : Value).ownBlock) (.slice Ao24 t746.length co24) t746) /\ Aside0 (Kd.R k63 63 wc w.heap.size (fun k_ => some k_ ≠ ((.slice Ao24 t746.length co24) : Value).ownBlock /\ some k_ ≠ ((.slice Ao38 t759.length co38) : Value).ownBlock /\ some k_ ≠ ((.slice Ao125 t784.length co125) : Value).ownBlock) (.slice Ao31 t773.length co31) t773) /\ Aside0 (Kd.R k63 63 wc w.heap.size (fun k_ => some k_ ≠ ((.slice Ao24 t746.length co24) : Value).ownBlock /\ some k_ ≠ ((.slice Ao31 t773.length co31) : Value).ownBlock /\ some k_ ≠ ((.slice Ao125 t784.length co125) : Value).ownBlock) (.slice Ao38 t759.length co38) t776) /\ Aside0 (Kd.R k63 63 wc w.heap.size (fun k_ => some k_ ≠ ((.slice Ao24 t746.length co24) : Value).ownBlock /\ some k_ ≠ ((.slice Ao31 t773.length co31) : Value).ownBlock /\ some k_ ≠ ((.slice Ao38 t759.length co38) : Value).ownBlock) (.slice Ao125 t784.length co125) t784) /\ Aside0 (wc.heap[gb738]? = some (.cells #[.int .i64 a0_0, (.slice A0_1 l0_1.length c0_1), .int .i64 a0_2] 24 (0, 0))) /\ Aside0 (wc.heap[gb751]? = some (.cells #[.int .i64 t745, (.slice Ao24 t746.length co24), .int .i64 t749] 29 (0, 0))) /\ Aside0 (wc.heap[gb757]? = some (.cells #[.int .i64 t752, (.slice Ao31 t773.length co31), .int .i64 t756] 29 (0, 0))) /\ Aside0 (wc.heap[gb764]? = some (.cells #[.int .i64 t758, (.slice Ao38 t759.length co38), .int .i64 t762] 29 (0, 0))) /\ Aside0 (wc.heap[gb789]? = some (.cells #[.int .i64 t783, (.slice Ao125 t784.length co125), .int .i64 t787] 29 (0, 0))) /\ Aside0 (Below w.heap.size w wc))
 case first =>
  have H := HC105.1
  clear HC105
  replace H := bindA H; obtain ⟨t790, A126, H⟩ := H
  replace H := ifT H (by cases kj61 <;> simp [laws_FnExactFixDiagram.j2]); obtain ⟨rfl, H⟩ := H
  have H' := Aside0.mk H
  clear H
  obtain ⟨hcz132_0, hcz132_1, hcz132_2, hfz132_0, hfz132_1, hfz132_2⟩ := cz3 BK789.1
  obtain ⟨hcz136_0, hcz136_1, hcz136_2, hfz136_0, hfz136_1, hfz136_2⟩ := cz3 BK751.1
  go_wp2_with (first | ((with_reducible refine gate_callee (f := 16) rfl ?_); refine goesM (N := (some 91)) #[.agg #[.int .i64 t783, .slice Ao125 t784.length co125, .int .i64 t787], .agg #[.int .i64 t745, .slice Ao24 t746.length co24, .int .i64 t749]] Try.func16 ?_; (with_reducible refine (laws_eqDiagram.calls kj61 t783 _ _ t784 t787 t745 _ _ t746 t749 true _ ?side1 ?side2 ?side3 ?side4 A126.1).mono ?_); (case side1 => refine (R_reads' (e := 63) (base := w.heap.size) (ok := fun k_ => ((((True /\ some k_ ≠ (.slice Ao24 t746.length co24 : Value).ownBlock) /\ some k_ ≠ (.slice Ao31 t773.length co31 : Value).ownBlock) /\ some k_ ≠ (.slice Ao38 t759.length co38 : Value).ownBlock) /\ some k_ ≠ (.slice Ao117 t779.length co117 : Value).ownBlock)) (n := t784.length) (c := co125) ?_).2.2; exact (by (with_reducible repeat (first | apply R_alloc | apply R_drewN | apply R_drew)); exact (R_mono (RQ gb789 2 (RQ gb789 1 (RQ gb789 0 (R_types HO786.1 BK789.1 (by decide)) _) _) _) (fun _ h_ => h_.1)))); (case side2 => exact (R_reads' HO786.1).2.1); (case side3 => refine (R_reads' (e := 63) (base := w.heap.size) (ok := fun k_ => (((some k_ ≠ (.slice Ao31 t773.length co31 : Value).ownBlock /\ some k_ ≠ (.slice Ao38 t759.length co38 : Value).ownBlock) /\ some k_ ≠ (.slice Ao117 t779.length co117 : Value).ownBlock) /\ some k_ ≠ (.slice Ao125 t784.length co125 : Value).ownBlock)) (n := t746.length) (c := co24) ?_).2.2; exact (by (with_reducible repeat (first | apply R_alloc | apply R_drewN | apply R_drew)); exact (R_mono (RQ gb789 2 (RQ gb789 1 (RQ gb789 0 (R_types HO_752001.1 BK789.1 (by decide)) _) _) _) (fun _ h_ => h_.1)))); (case side4 => exact (R_reads' HO_752001.1).2.1); rintro e w137 ⟨rfl, hb⟩; refine ⟨_, rfl, ?_⟩; refine E11 (R_below (by (with_reducible repeat (first | apply R_alloc | apply R_drewN | apply R_drew)); exact (R_mono (RQ gb789 2 (RQ gb789 1 (RQ gb789 0 (R_types HO_752001.1 BK789.1 (by decide)) _) _) _) (fun _ h_ => h_.1))) hb) (R_below (by (with_reducible repeat (first | apply R_alloc | apply R_drewN | apply R_drew)); exact (R_mono (RQ gb789 2 (RQ gb789 1 (RQ gb789 0 (R_types HO_758001.1 BK789.1 (by decide)) _) _) _) (fun _ h_ => h_.1))) hb) (R_below (by (with_reducible repeat (first | apply R_alloc | apply R_drewN | apply R_drew)); exact (R_mono (RQ gb789 2 (RQ gb789 1 (RQ gb789 0 (R_types HO_765001.1 BK789.1 (by decide)) _) _) _) (fun _ h_ => h_.1))) hb) (R_below (by (with_reducible repeat (first | apply R_alloc | apply R_drewN | apply R_drew)); exact (R_mono (RQ gb789 2 (RQ gb789 1 (RQ gb789 0 (R_types HO781.1 BK789.1 (by decide)) _) _) _) (fun _ h_ => h_.1))) hb) (R_below (by (with_reducible repeat (first | apply R_alloc | apply R_drewN | apply R_drew)); exact (R_mono (RQ gb789 2 (RQ gb789 1 (RQ gb789 0 (R_types HO786.1 BK789.1 (by decide)) _) _) _) (fun _ h_ => h_.1))) hb) (blk_below (g := gb738) (o := .cells #[.int .i64 a0_0, .slice A0_1 l0_1.length c0_1, .int .i64 a0_2] 24 (0, 0)) (PF1 NB738_789.1 BK738.1) hb) (blk_below (g := gb751) (o := .cells #[.int .i64 t745, .slice Ao24 t746.length co24, .int .i64 t749] 29 (0, 0)) (PF1 NB751_789.1 BK751.1) hb) (blk_below (g := gb757) (o := .cells #[.int .i64 t752, .slice Ao31 t773.length co31, .int .i64 t756] 29 (0, 0)) (PF1 NB757_789.1 BK757.1) hb) (blk_below (g := gb764) (o := .cells #[.int .i64 t758, .slice Ao38 t759.length co38, .int .i64 t762] 29 (0, 0)) (PF1 NB764_789.1 BK764.1) hb) (blk_below (g := gb789) (o := .cells #[.int .i64 t783, .slice Ao125 t784.length co125, .int .i64 t787] 29 (0, 0)) (PF0 BK789.1) hb) (bS HB.1 hb) ?_; clear HO_752001 HO_758001 HO_765001 HO781 HO786 BK738 BK751 BK757 BK764 BK789 HB; intro HO_752001 HO_758001 HO_765001 HO781 HO786 BK738 BK751 BK757 BK764 BK789 HB; (try clear hb)))
  go_meet
  case rel => exact ⟨_, ((t788 != t750)), RG, H', ⟨by have := HJ12.1; have := HJ61.1; first | omega | exact Nat.le_refl _⟩, ⟨by (try simp only [hl758001_61]); (with_reducible repeat (first | apply R_alloc | apply R_drewN | apply R_drew)); exact R_mono HO_752001.1 (fun _ hk => ⟨hk.1.1.1, ⟨hk.1.1.2, hk.2⟩⟩)⟩, ⟨by (try simp only [hl758001_61]); (with_reducible repeat (first | apply R_alloc | apply R_drewN | apply R_drew)); exact R_mono HO_758001.1 (fun _ hk => ⟨hk.1.1.1, ⟨hk.1.1.2, hk.2⟩⟩)⟩, ⟨by (try simp only [hl758001_61]); (with_reducible repeat (first | apply R_alloc | apply R_drewN | apply R_drew)); exact R_mono HO_765001.1 (fun _ hk => ⟨hk.1.1.1, ⟨hk.1.1.2, hk.2⟩⟩)⟩, ⟨by (try simp only [hl758001_61]); (with_reducible repeat (first | apply R_alloc | apply R_drewN | apply R_drew)); exact R_mono HO786.1 (fun _ hk => ⟨hk.1.1.1.2, ⟨hk.1.1.2, hk.1.2⟩⟩)⟩, ⟨PB1 BK738.1 hl758001_61⟩, ⟨PB1 BK751.1 hl758001_61⟩, ⟨PB1 BK757.1 hl758001_61⟩, ⟨PB1 BK764.1 hl758001_61⟩, ⟨PB1 BK789.1 hl758001_61⟩, ⟨BL HB.1⟩⟩
 clear HC105
 clear c94b0 c102b0 c102b1 hcz109_0 hcz109_1 hcz109_2 hcz111_0 hcz111_1 hcz111_2 hcz115_0 hcz115_1 hcz115_2 hcz124_0 hcz124_1 hcz124_2 hfz109_0 hfz109_1 hfz109_2 hfz111_0 hfz111_1 hfz111_2 hfz115_0 hfz115_1 hfz115_2 hfz124_0 hfz124_1 hfz124_2
 obtain ⟨kq, x97_104, rfl, HA, HJ104, HO_752001, HO_758001, HO_765001, HO_790001, BK738, BK751, BK757, BK764, BK789, HB⟩ := hcut
 have hl765001_104 := (R_reads' HO_765001.1).1
 rw [hl765001_104] at HO_765001
 (try simp only [hl765001_104])
 (try simp only [hl765001_104] at BK738)
 (try simp only [hl765001_104] at BK751)
 (try simp only [hl765001_104] at BK757)
 (try simp only [hl765001_104] at BK764)
 (try simp only [hl765001_104] at BK789)
 (try simp only [hl765001_104] at HO_752001)
 (try simp only [hl765001_104] at HO_758001)
 (try simp only [hl765001_104] at HO_790001)
 cases kq with
 | zero => exact absurd HA.1 (by simp [laws_FnExactFixDiagram.j2])
 | succ kj104 => ?_
 have H := HA.1
 clear HA
 simp only [laws_FnExactFixDiagram.j2] at H
 replace H := ifF H (by simp); obtain ⟨rfl, H⟩ := H
 replace H := bindA H; obtain ⟨t791, A149, H⟩ := H
 replace H := ifQ H; rcases H with ⟨c150, H⟩ | ⟨c150, H⟩
 · exact absurd H (by simp)
 have c150b0 := decide_eq_false c150
 clear c150
 first | replace H := ifP H | replace H := ifPf H
 obtain ⟨c157, H⟩ := H
 have c157b0 := beq_iff_eq.mpr c157
 have c157b1 := bne_eq_false_iff_eq.mpr c157
 clear c157
 first | (obtain rfl := Option.some.inj H) | clear H
 obtain ⟨hcz162_0, hcz162_1, hcz162_2, hfz162_0, hfz162_1, hfz162_2⟩ := cz3 BK764.1
 go_wp2_with (first | ((with_reducible refine gate_callee (f := 26) rfl ?_); refine goesM (N := (some 100)) #[.agg #[.int .i64 t758, .slice Ao38 t776.length co38, .int .i64 t762], .int .i64 1] Try.func26 ?_; (with_reducible refine (laws_heldDiagram.calls kj104 t758 _ _ t776 t762 1 t791 _ ?side1 ?side2 A149.1).mono ?_); (case side1 => exact CB (R_reads' HO_765001.1).2.2); (case side2 => exact (R_reads' HO_765001.1).2.1); rintro e w163 ⟨rfl, hb⟩; refine ⟨_, rfl, ?_⟩; refine E10 (rB HO_752001.1 hb) (rB HO_758001.1 hb) (rB HO_765001.1 hb) (rB HO_790001.1 hb) (bB BK738.1 hb) (bB BK751.1 hb) (bB BK757.1 hb) (bB BK764.1 hb) (bB BK789.1 hb) (bS HB.1 hb) ?_; clear HO_752001 HO_758001 HO_765001 HO_790001 BK738 BK751 BK757 BK764 BK789 HB; intro HO_752001 HO_758001 HO_765001 HO_790001 BK738 BK751 BK757 BK764 BK789 HB; (try clear hb)))
 go_ret
 exact ⟨RF, BL HB.1⟩
end Go.Proofs.Ytdkfgomjfigmbaa.P
