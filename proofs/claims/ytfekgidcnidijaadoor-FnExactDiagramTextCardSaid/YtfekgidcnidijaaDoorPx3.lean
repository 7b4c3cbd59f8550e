-- PRINTED by print.py (a twelfth state) out of the translation. Not trusted: Lean checks it.
import Derived.Test.YtfekgidcnidijaaDoorPx0
import Derived.Test.YtfekgidcnidijaaDoorPx2
import Derived.Test.YtfekgidcnidijaaDoorSmall
namespace Go.Proofs.YtfekgidcnidijaaDoor.P
open Go.RowKit Go.Proofs.YtfekgidcnidijaaDoorW.PrintWords Go.Proofs.YtfekgidcnidijaaDoorW.PrintLast Go.Proofs.YtfekgidcnidijaaDoorW.PrintMore
attribute [local go_sem] max2_int min2_int max_two min_two max_three min_three max_four min_four   -- for this text's walks alone
set_option linter.unusedVariables false
set_option linter.unusedSimpArgs false
set_option maxHeartbeats 8000000
set_option maxRecDepth 100000

/-! ### spec_ddGood: function 47 -/
open Kd
mutual
def spec_ddGood.j0 : Nat -> Bool -> Int -> List (S86) -> Int -> Option (Bool)
 | 0, _, _, _, _ => none
 | k + 1, x24, x128000, x128001, x128002 => if x24 = true then (some false) else (spec_ddGood.l0 k x128001 (x128001.length : Int) 0 x128000 x128001 x128002)
def spec_ddGood.l0 : Nat -> List (S86) -> Int -> Int -> Int -> List (S86) -> Int -> Option (Bool)
 | 0, _, _, _, _, _, _ => none
 | k + 1, x26, x27, x28, x128000, x128001, x128002 => if x28 < x27 then (if 0 <= x28 then (if x28 < (x26.length : Int) then ((spec_l1In.f ((rd_T86 x26 x28).f0) 0 (wrap64 (x128000 - 1))).bind fun t142 => (if t142 = true then ((spec_l1In.f ((rd_T86 x26 x28).f1) 0 (wrap64 (x28 + 1))).bind fun t143 => (if t143 = true then ((spec_l1In.f ((rd_T86 x26 x28).f2) 0 (wrap64 (x28 + 1))).bind fun t144 => (if t144 = true then (spec_ddGood.l0 k x26 x27 (wrap64 (x28 + 1)) x128000 x128001 x128002) else (some false))) else (some false))) else (some false))) else (none)) else (none)) else ((spec_ddTable.f k x128000 x128001 x128002).bind fun bt130 => ((spec_ddMake.f bt130.1 bt130.2).bind fun bt134 => ((spec_ddSame.f k x128000 x128001 x128002 bt134.1 bt134.2.1 bt134.2.2).bind fun t139 => (some t139))))
end
def spec_ddGood.f (k : Nat) (a0_0 : Int) (l0_1 : List (S86)) (a0_2 : Int) : Option (Bool) := (spec_ttInputs.f a0_0).bind fun t128 => (if t128 = true then (if (l0_1.length : Int) > 40 then (spec_ddGood.j0 k true a0_0 l0_1 a0_2) else ((spec_l1In.f a0_2 0 (wrap64 ((l0_1.length : Int) + 1))).bind fun t129 => (spec_ddGood.j0 k (!t129) a0_0 l0_1 a0_2))) else (spec_ddGood.j0 k true a0_0 l0_1 a0_2))
theorem spec_ddGood.mono_l : ∀ k, (∀ y0 y1 y2 y3, LeO (spec_ddGood.j0 k y0 y1 y2 y3) (spec_ddGood.j0 (k + 1) y0 y1 y2 y3)) /\ (∀ y0 y1 y2 y3 y4 y5, LeO (spec_ddGood.l0 k y0 y1 y2 y3 y4 y5) (spec_ddGood.l0 (k + 1) y0 y1 y2 y3 y4 y5))
 | 0 => by refine ⟨?_, ?_⟩ <;> (intros; intro r h; first | (simp [spec_ddGood.j0] at h; done) | (simp [spec_ddGood.l0] at h; done))
 | k + 1 => by
  obtain ⟨ih0, ih1⟩ := spec_ddGood.mono_l k
  refine ⟨?_, ?_⟩ <;> (
   intros
   first | unfold spec_ddGood.j0 | unfold spec_ddGood.l0
   exact LM4 ih0 ih1 spec_ddSame.mono spec_ddTable.mono)
theorem spec_ddGood.mono : ∀ a0 a1 a2 k, LeO (spec_ddGood.f k a0 a1 a2) (spec_ddGood.f (k + 1) a0 a1 a2) := by
 intro a0 a1 a2 k
 obtain ⟨ih0, ih1⟩ := spec_ddGood.mono_l k
 unfold spec_ddGood.f
 exact LM4 ih0 ih1 spec_ddSame.mono spec_ddTable.mono
theorem spec_ddGood.calls (k : Nat) (a0_0 : Int) (A0_1 : Option Addr) (c0_1 : Nat) (l0_1 : List (S86)) (a0_2 : Int) (r : Bool) (w : World) (hr0_1 : Kd.C k86 w A0_1 l0_1.length l0_1) (hc0_1 : l0_1.length <= c0_1) (h : spec_ddGood.f k a0_0 l0_1 a0_2 = some r) :
 Calls Tryd.prog 47 #[.agg #[.int .i64 a0_0, .slice A0_1 l0_1.length c0_1, .int .i64 a0_2]] w fun e w' => e = .returned (.bool r) /\ Below w.heap.size w w' := by
 have hu50 := Tryd.underlying50
 have hu86 := Tryd.underlying86
 have HR0_1 := Aside0.mk hr0_1
 have HC0_1 := Aside0.mk hc0_1
 clear hr0_1 hc0_1
 have HB := Aside0.mk (Below.refl w.heap.size w)
 have H := h
 clear h
 unfold spec_ddGood.f at H
 have HC2 := Aside0.mk H
 clear H
 go_enter Tryd.func47, Tryd.ntmps47
 go_upto_region 1 with (first | ((with_reducible refine gate_dst (N := 1) rfl ?_); (try (refine gate_guard (by rfl) ?_; dsimp only)); refine boxE (cs := #[.int .i64 a0_0, .slice A0_1 l0_1.length c0_1, .int .i64 a0_2]) (t := 50) ?_; intro gb127 hg w3 hbox hb; refine E4b HB.1 hg hbox hb ?_; clear HB; intro HB BK127 GW127 GE127; clear hb hbox hg))
 (try simp only [Act.put, List.setIfInBounds_toArray, List.set_cons_zero, List.set_cons_succ])
 go_cut [24] (fun v24 wc => ∃ (kq : Nat) (x24_1 : Bool), v24 = .bool x24_1 /\ Aside0 (spec_ddGood.j0 kq x24_1 a0_0 l0_1 a0_2 = some r) /\ Aside0 (kq <= k) /\ Aside0 (wc.heap[gb127]? = some (.cells #[.int .i64 a0_0, (.slice A0_1 l0_1.length c0_1), .int .i64 a0_2] 50 (0, 0))) /\ Aside0 (Below w.heap.size w wc))
 case first =>
  have H := HC2.1
  clear HC2
  replace H := bindA H; obtain ⟨t128, A4, H⟩ := H
  replace H := ifX H; rcases H with ⟨rfl, H⟩ | ⟨rfl, H⟩
  · replace H := ifQ H; rcases H with ⟨c6, H⟩ | ⟨c6, H⟩
    · have c6b0 : decide (40 < (l0_1.length : Int)) = true := decide_eq_true c6
      have c6b1 : decide (40 < l0_1.length) = true := decide_eq_true (by omega)
      clear c6
      (first | rw [c6b0] | (simp only [i64_w, i32_w]; rw [c6b0]) | skip)
      have H' := Aside0.mk H
      clear H
      obtain ⟨hcz7_0, hcz7_1, hcz7_2, hfz7_0, hfz7_1, hfz7_2⟩ := cz3 BK127.1
      go_wp2_with (first | ((with_reducible refine gate_callee (f := 53) rfl ?_); refine goesM (N := (some 7)) #[.int .i64 a0_0] Tryd.func53 ?_; (with_reducible refine (spec_ttInputs.calls a0_0 true _ A4.1).mono ?_); rintro e w' ⟨rfl, ⟨nd, rfl⟩⟩; refine ⟨_, rfl, ?_⟩))
      go_meet
      case rel => exact ⟨_, (true), RG, H', ⟨by first | omega | exact Nat.le_refl _⟩, ⟨PB BK127.1⟩, ⟨BL HB.1⟩⟩
    have c6b0 : decide (40 < (l0_1.length : Int)) = false := decide_eq_false c6
    have c6b1 : decide (40 < l0_1.length) = false := decide_eq_false (by omega)
    clear c6
    (first | rw [c6b0] | (simp only [i64_w, i32_w]; rw [c6b0]) | skip)
    replace H := bindA H; obtain ⟨t129, A8, H⟩ := H
    have H' := Aside0.mk H
    clear H
    obtain ⟨hcz9_0, hcz9_1, hcz9_2, hfz9_0, hfz9_1, hfz9_2⟩ := cz3 BK127.1
    go_wp2_with (first | ((with_reducible refine gate_callee (f := 53) rfl ?_); refine goesM (N := (some 7)) #[.int .i64 a0_0] Tryd.func53 ?_; (with_reducible refine (spec_ttInputs.calls a0_0 true _ A4.1).mono ?_); rintro e w' ⟨rfl, ⟨nd, rfl⟩⟩; refine ⟨_, rfl, ?_⟩) | (go_at_call 60; (with_reducible refine (spec_l1In.calls a0_2 0 (wrap64 ((l0_1.length : Int) + 1)) t129 _ A8.1).mono ?_); rintro e w' ⟨rfl, ⟨nd, rfl⟩⟩))
    go_meet
    case rel => exact ⟨_, (!t129), RG, H', ⟨by first | omega | exact Nat.le_refl _⟩, ⟨PB BK127.1⟩, ⟨BL HB.1⟩⟩
  have H' := Aside0.mk H
  clear H
  obtain ⟨hcz10_0, hcz10_1, hcz10_2, hfz10_0, hfz10_1, hfz10_2⟩ := cz3 BK127.1
  go_wp2_with (first | ((with_reducible refine gate_callee (f := 53) rfl ?_); refine goesM (N := (some 7)) #[.int .i64 a0_0] Tryd.func53 ?_; (with_reducible refine (spec_ttInputs.calls a0_0 false _ A4.1).mono ?_); rintro e w' ⟨rfl, ⟨nd, rfl⟩⟩; refine ⟨_, rfl, ?_⟩))
  go_meet
  case rel => exact ⟨_, (true), RG, H', ⟨by first | omega | exact Nat.le_refl _⟩, ⟨PB BK127.1⟩, ⟨BL HB.1⟩⟩
 clear HC2
 obtain ⟨kq, x24_1, rfl, HA, HJ1, BK127, HB⟩ := hcut
 cases kq with
 | zero => exact absurd HA.1 (by simp [spec_ddGood.j0])
 | succ kj1 => ?_
 have H := HA.1
 clear HA
 simp only [spec_ddGood.j0] at H
 replace H := ifX H; rcases H with ⟨rfl, H⟩ | ⟨rfl, H⟩
 · obtain rfl := Option.some.inj H
   go_wp2
   go_ret
   exact ⟨RF, BL HB.1⟩
 have H' := Aside0.mk H
 clear H
 obtain ⟨hcz12_0, hcz12_1, hcz12_2, hfz12_0, hfz12_1, hfz12_2⟩ := cz3 BK127.1
 go_wp2
 go_loopg [28] kj1 (fun kq v28 w' => ∃ (x28_2 : Int), v28 = .int .i64 x28_2 /\ Aside0 (spec_ddGood.l0 kq l0_1 (l0_1.length : Int) x28_2 a0_0 l0_1 a0_2 = some r) /\ Aside0 (kq <= kj1) /\ Aside0 (w'.heap[gb127]? = some (.cells #[.int .i64 a0_0, (.slice A0_1 l0_1.length c0_1), .int .i64 a0_2] 50 (0, 0))) /\ Aside0 (Below w.heap.size w w'))
 case atStart => exact ⟨(0), RG, H', ⟨Nat.le_refl _⟩, ⟨PB BK127.1⟩, ⟨BL HB.1⟩⟩
 clear H'
 clear hcz12_0 hcz12_1 hcz12_2 hfz12_0 hfz12_1 hfz12_2
 obtain ⟨x28_2, rfl, HA, HK2, BK127, HB⟩ := hrel
 cases gk with
 | zero => exact absurd HA.1 (by simp [spec_ddGood.l0])
 | succ k2 => ?_
 have H := HA.1
 clear HA
 simp only [spec_ddGood.l0] at H
 replace H := ifB H; rcases H with ⟨c13b0, H⟩ | ⟨c13b0, H⟩
 · replace H := ifN H; obtain ⟨c14b0, H⟩ := H
   replace H := ifN H; obtain ⟨c15b0, H⟩ := H
   replace H := bindA H; obtain ⟨t142, A16, H⟩ := H
   replace H := ifX H; rcases H with ⟨rfl, H⟩ | ⟨rfl, H⟩
   · replace H := bindA H; obtain ⟨t143, A18, H⟩ := H
     replace H := ifX H; rcases H with ⟨rfl, H⟩ | ⟨rfl, H⟩
     · replace H := bindA H; obtain ⟨t144, A20, H⟩ := H
       replace H := ifX H; rcases H with ⟨rfl, H⟩ | ⟨rfl, H⟩
       · have H' := Aside0.mk H
         clear H
         have p140 : 0 <= (x28_2 : Int) := OD
         have q140 : x28_2 < (l0_1.length : Int) := OD
         obtain ⟨ad140, e140, hx140_0, hx140_1, hx140_2⟩ := at_T86 HR0_1.1 x28_2 p140 q140
         cases e140
         replace hx140_0 := (HB.1.cell (World.block_lt_of_cell? w _ hx140_0)).trans hx140_0
         replace hx140_1 := (HB.1.cell (World.block_lt_of_cell? w _ hx140_1)).trans hx140_1
         replace hx140_2 := (HB.1.cell (World.block_lt_of_cell? w _ hx140_2)).trans hx140_2
         replace p140 := eq_true p140
         replace q140 := eq_true q140
         go_wp2_with (first | ((with_reducible refine gate_dst (N := 4) rfl ?_); (try (refine gate_guard (by rfl) ?_; dsimp only)); refine boxE (cs := #[.int .i64 0, .int .i64 0, .int .i64 0]) (t := 86) ?_; intro gb141 hg w22 hbox hb; refine E7 (bB BK127.1 hb) (bS HB.1 hb) (hbox) (gX HB.1 hg) (gX HB.1 hg) (nB BK127.1 hg) (nC BK127.1 hg) ?_; clear BK127 HB; intro BK127 HB BK141 GW141 GE141 NB127_141 NB141_127; clear hb hbox hg; have hnb23 := NB141_127.1; have hnc23 := NB127_141.1; obtain ⟨hcz24_0, hcz24_1, hcz24_2, hfz24_0, hfz24_1, hfz24_2⟩ := cz3 BK141.1; obtain ⟨hcz25_0, hcz25_1, hcz25_2, hfz25_0, hfz25_1, hfz25_2⟩ := cz3 BK127.1) | ((with_reducible refine gate_callee (f := 60) rfl ?_); refine goesM (N := (some 38)) #[.int .i64 ((rd_T86 l0_1 x28_2).f0), .int .i64 0, .int .i64 (wrap64 (a0_0 - 1))] Tryd.func60 ?_; (with_reducible refine (spec_l1In.calls ((rd_T86 l0_1 x28_2).f0) 0 (wrap64 (a0_0 - 1)) true _ A16.1).mono ?_); rintro e w' ⟨rfl, ⟨nd, rfl⟩⟩; refine ⟨_, rfl, ?_⟩) | (go_at_call 60; (with_reducible refine (spec_l1In.calls ((rd_T86 l0_1 x28_2).f1) 0 (wrap64 (x28_2 + 1)) true _ A18.1).mono ?_); rintro e w' ⟨rfl, ⟨nd, rfl⟩⟩) | (go_at_call 60; (with_reducible refine (spec_l1In.calls ((rd_T86 l0_1 x28_2).f2) 0 (wrap64 (x28_2 + 1)) true _ A20.1).mono ?_); rintro e w' ⟨rfl, ⟨nd, rfl⟩⟩))
         go_roundg k2
         case measure => have := HJ1.1; have := HK2.1; omega
         case rel => exact ⟨(wrap64 (x28_2 + 1)), RG, H', ⟨by have := HJ1.1; have := HK2.1; omega⟩, ⟨by (with_reducible repeat (first | refine blk_drewN ?_ _ | refine blk_drew ?_ | refine blk_alloc ?_ _)); refine blk_far ?_ NB127_141.1 _; (with_reducible repeat (first | refine blk_drewN ?_ _ | refine blk_drew ?_ | refine blk_alloc ?_ _)); refine blk_far ?_ NB127_141.1 _; (with_reducible repeat (first | refine blk_drewN ?_ _ | refine blk_drew ?_ | refine blk_alloc ?_ _)); refine blk_far ?_ NB127_141.1 _; (with_reducible repeat (first | refine blk_drewN ?_ _ | refine blk_drew ?_ | refine blk_alloc ?_ _)); exact BK127.1⟩, ⟨BL HB.1⟩⟩
       obtain rfl := Option.some.inj H
       have p140 : 0 <= (x28_2 : Int) := OD
       have q140 : x28_2 < (l0_1.length : Int) := OD
       obtain ⟨ad140, e140, hx140_0, hx140_1, hx140_2⟩ := at_T86 HR0_1.1 x28_2 p140 q140
       cases e140
       replace hx140_0 := (HB.1.cell (World.block_lt_of_cell? w _ hx140_0)).trans hx140_0
       replace hx140_1 := (HB.1.cell (World.block_lt_of_cell? w _ hx140_1)).trans hx140_1
       replace hx140_2 := (HB.1.cell (World.block_lt_of_cell? w _ hx140_2)).trans hx140_2
       replace p140 := eq_true p140
       replace q140 := eq_true q140
       go_wp2_with (first | ((with_reducible refine gate_dst (N := 4) rfl ?_); (try (refine gate_guard (by rfl) ?_; dsimp only)); refine boxE (cs := #[.int .i64 0, .int .i64 0, .int .i64 0]) (t := 86) ?_; intro gb141 hg w26 hbox hb; refine E7 (bB BK127.1 hb) (bS HB.1 hb) (hbox) (gX HB.1 hg) (gX HB.1 hg) (nB BK127.1 hg) (nC BK127.1 hg) ?_; clear BK127 HB; intro BK127 HB BK141 GW141 GE141 NB127_141 NB141_127; clear hb hbox hg; have hnb27 := NB141_127.1; have hnc27 := NB127_141.1; obtain ⟨hcz28_0, hcz28_1, hcz28_2, hfz28_0, hfz28_1, hfz28_2⟩ := cz3 BK141.1; obtain ⟨hcz29_0, hcz29_1, hcz29_2, hfz29_0, hfz29_1, hfz29_2⟩ := cz3 BK127.1) | ((with_reducible refine gate_callee (f := 60) rfl ?_); refine goesM (N := (some 38)) #[.int .i64 ((rd_T86 l0_1 x28_2).f0), .int .i64 0, .int .i64 (wrap64 (a0_0 - 1))] Tryd.func60 ?_; (with_reducible refine (spec_l1In.calls ((rd_T86 l0_1 x28_2).f0) 0 (wrap64 (a0_0 - 1)) true _ A16.1).mono ?_); rintro e w' ⟨rfl, ⟨nd, rfl⟩⟩; refine ⟨_, rfl, ?_⟩) | (go_at_call 60; (with_reducible refine (spec_l1In.calls ((rd_T86 l0_1 x28_2).f1) 0 (wrap64 (x28_2 + 1)) true _ A18.1).mono ?_); rintro e w' ⟨rfl, ⟨nd, rfl⟩⟩) | (go_at_call 60; (with_reducible refine (spec_l1In.calls ((rd_T86 l0_1 x28_2).f2) 0 (wrap64 (x28_2 + 1)) false _ A20.1).mono ?_); rintro e w' ⟨rfl, ⟨nd, rfl⟩⟩))
       go_ret
       exact ⟨RF, BL HB.1⟩
     obtain rfl := Option.some.inj H
     have p140 : 0 <= (x28_2 : Int) := OD
     have q140 : x28_2 < (l0_1.length : Int) := OD
     obtain ⟨ad140, e140, hx140_0, hx140_1, hx140_2⟩ := at_T86 HR0_1.1 x28_2 p140 q140
     cases e140
     replace hx140_0 := (HB.1.cell (World.block_lt_of_cell? w _ hx140_0)).trans hx140_0
     replace hx140_1 := (HB.1.cell (World.block_lt_of_cell? w _ hx140_1)).trans hx140_1
     replace hx140_2 := (HB.1.cell (World.block_lt_of_cell? w _ hx140_2)).trans hx140_2
     replace p140 := eq_true p140
     replace q140 := eq_true q140
     go_wp2_with (first | ((with_reducible refine gate_dst (N := 4) rfl ?_); (try (refine gate_guard (by rfl) ?_; dsimp only)); refine boxE (cs := #[.int .i64 0, .int .i64 0, .int .i64 0]) (t := 86) ?_; intro gb141 hg w30 hbox hb; refine E7 (bB BK127.1 hb) (bS HB.1 hb) (hbox) (gX HB.1 hg) (gX HB.1 hg) (nB BK127.1 hg) (nC BK127.1 hg) ?_; clear BK127 HB; intro BK127 HB BK141 GW141 GE141 NB127_141 NB141_127; clear hb hbox hg; have hnb31 := NB141_127.1; have hnc31 := NB127_141.1; obtain ⟨hcz32_0, hcz32_1, hcz32_2, hfz32_0, hfz32_1, hfz32_2⟩ := cz3 BK141.1; obtain ⟨hcz33_0, hcz33_1, hcz33_2, hfz33_0, hfz33_1, hfz33_2⟩ := cz3 BK127.1) | ((with_reducible refine gate_callee (f := 60) rfl ?_); refine goesM (N := (some 38)) #[.int .i64 ((rd_T86 l0_1 x28_2).f0), .int .i64 0, .int .i64 (wrap64 (a0_0 - 1))] Tryd.func60 ?_; (with_reducible refine (spec_l1In.calls ((rd_T86 l0_1 x28_2).f0) 0 (wrap64 (a0_0 - 1)) true _ A16.1).mono ?_); rintro e w' ⟨rfl, ⟨nd, rfl⟩⟩; refine ⟨_, rfl, ?_⟩) | (go_at_call 60; (with_reducible refine (spec_l1In.calls ((rd_T86 l0_1 x28_2).f1) 0 (wrap64 (x28_2 + 1)) false _ A18.1).mono ?_); rintro e w' ⟨rfl, ⟨nd, rfl⟩⟩))
     go_ret
     exact ⟨RF, BL HB.1⟩
   obtain rfl := Option.some.inj H
   have p140 : 0 <= (x28_2 : Int) := OD
   have q140 : x28_2 < (l0_1.length : Int) := OD
   obtain ⟨ad140, e140, hx140_0, hx140_1, hx140_2⟩ := at_T86 HR0_1.1 x28_2 p140 q140
   cases e140
   replace hx140_0 := (HB.1.cell (World.block_lt_of_cell? w _ hx140_0)).trans hx140_0
   replace hx140_1 := (HB.1.cell (World.block_lt_of_cell? w _ hx140_1)).trans hx140_1
   replace hx140_2 := (HB.1.cell (World.block_lt_of_cell? w _ hx140_2)).trans hx140_2
   replace p140 := eq_true p140
   replace q140 := eq_true q140
   go_wp2_with (first | ((with_reducible refine gate_dst (N := 4) rfl ?_); (try (refine gate_guard (by rfl) ?_; dsimp only)); refine boxE (cs := #[.int .i64 0, .int .i64 0, .int .i64 0]) (t := 86) ?_; intro gb141 hg w34 hbox hb; refine E7 (bB BK127.1 hb) (bS HB.1 hb) (hbox) (gX HB.1 hg) (gX HB.1 hg) (nB BK127.1 hg) (nC BK127.1 hg) ?_; clear BK127 HB; intro BK127 HB BK141 GW141 GE141 NB127_141 NB141_127; clear hb hbox hg; have hnb35 := NB141_127.1; have hnc35 := NB127_141.1; obtain ⟨hcz36_0, hcz36_1, hcz36_2, hfz36_0, hfz36_1, hfz36_2⟩ := cz3 BK141.1; obtain ⟨hcz37_0, hcz37_1, hcz37_2, hfz37_0, hfz37_1, hfz37_2⟩ := cz3 BK127.1) | ((with_reducible refine gate_callee (f := 60) rfl ?_); refine goesM (N := (some 38)) #[.int .i64 ((rd_T86 l0_1 x28_2).f0), .int .i64 0, .int .i64 (wrap64 (a0_0 - 1))] Tryd.func60 ?_; (with_reducible refine (spec_l1In.calls ((rd_T86 l0_1 x28_2).f0) 0 (wrap64 (a0_0 - 1)) false _ A16.1).mono ?_); rintro e w' ⟨rfl, ⟨nd, rfl⟩⟩; refine ⟨_, rfl, ?_⟩))
   go_ret
   exact ⟨RF, BL HB.1⟩
 replace H := bindA H; obtain ⟨⟨t130, t131⟩, A38, H⟩ := H
 dsimp only at H
 replace H := bindA H; obtain ⟨⟨t134, t135, t138⟩, A39, H⟩ := H
 dsimp only at H
 replace H := bindA H; obtain ⟨t139, A40, H⟩ := H
 obtain rfl := Option.some.inj H
 try go_wp2
 refine E2 (blk_drew BK127.1) (below_drew1 HB.1) ?_
 clear BK127 HB
 intro BK127 HB
 refine start_ (n := 6) (S := fun w' => w'.cell? ⟨gb127, 0, none⟩ = some (.int .i64 a0_0) /\ w'.cell? ⟨gb127, 1, none⟩ = some (.slice A0_1 l0_1.length c0_1) /\ w'.cell? ⟨gb127, 2, none⟩ = some (.int .i64 a0_2)) (ds := []) #[Zz,Zz,Zz,Zz,Zz,Zz] (by kernel_rfl) rfl rfl ⟨(blk_cell BK127.1 0).trans rfl, (blk_cell BK127.1 1).trans rfl, (blk_cell BK127.1 2).trans rfl⟩ (fun hHeld => ?_)
 generalize wr.drew = w41 at BK127 HB hHeld ⊢
 refine takeF 0 (N := some 57) hHeld ?_
 refine takeF 1 (N := some 58) hHeld ?_
 refine one_ (i := 2) (N := some 59) #[Yy,Yy,Yy,Zz,Zz,Zz] rfl rfl (by kernel_rfl) (by decide) (fun K hK => ?_)
 refine goes_ Tryd.func66 (by kernel_rfl) rfl #[.agg #[.int .i64 a0_0, .slice A0_1 l0_1.length c0_1, .int .i64 a0_2]] (by rfl) rfl rfl (by (try simp only [List.map_toArray, List.map_cons, List.map_nil]); first | done | rfl | (simp only [List.length_drop, List.length_take]; rfl)) ?_
 with_reducible refine (spec_ddTable.calls k2 a0_0 _ _ l0_1 a0_2 t130 t131 _ ?side1 ?side2 A38.1).mono ?_
 (case side1 => exact CB (C_below HR0_1.1 HB.1))
 (case side2 => exact HC0_1.1)
 rintro e w42 ⟨v132, rfl, ho0, hb⟩
 refine ⟨_, rfl, ?_⟩
 refine E3 (R_lower ho0 (bZ HB.1)) (bB BK127.1 hb) (bS HB.1 hb) ?_
 clear BK127 HB
 intro HO133 BK127 HB
 (try clear hb)
 (try clear hb2)
 (try clear hk)
 (try clear hi)
 (try clear ho0)
 obtain ⟨Ao43, co43, eo43⟩ := R_slice HO133.1
 (first | subst eo43 | (injection eo43 with f1_ f2_ f3_; have f4_ := f1_.symm; have f5_ := f3_.symm; clear f1_ f2_ f3_; subst f4_; subst f5_))
 refine hK.out _ _ ⟨(blk_cell BK127.1 0).trans rfl, (blk_cell BK127.1 1).trans rfl, (blk_cell BK127.1 2).trans rfl⟩ (fun hHeld => ?_)
 clear hK K
 refine norm_ (a' := ?_) ?_ ?_
 rotate_left
 · show Act.put _ (some 59) _ = _
   simp only [Act.put, List.setIfInBounds_toArray, List.set_cons_zero, List.set_cons_succ, i64_w, i32_w]
   rfl
 refine one_ (i := 3) (N := some 60) #[Yy,Yy,Yy,Yy,Zz,Zz] rfl rfl (by kernel_rfl) (by decide) (fun K hK => ?_)
 refine goes_ Tryd.func65 (by kernel_rfl) rfl #[.agg #[.int .i64 t130, .slice Ao43 t131.length co43]] (by rfl) rfl rfl (by (try simp only [List.map_toArray, List.map_cons, List.map_nil]); first | done | rfl | (simp only [List.length_drop, List.length_take]; rfl)) ?_
 with_reducible refine (spec_ddMake.calls t130 _ _ t131 t134 t135 t138 _ ?side1 ?side2 A39.1).mono ?_
 (case side1 => exact CB (R_reads' HO133.1).2.2)
 (case side2 => exact (R_reads' HO133.1).2.1)
 rintro e w44 ⟨v136, rfl, ho0, hb⟩
 refine ⟨_, rfl, ?_⟩
 refine E4 (rB HO133.1 hb) (R_lower ho0 (bZ HB.1)) (bB BK127.1 hb) (bS HB.1 hb) ?_
 clear HO133 BK127 HB
 intro HO133 HO137 BK127 HB
 (try clear hb)
 (try clear hb2)
 (try clear hk)
 (try clear hi)
 (try clear ho0)
 obtain ⟨Ao45, co45, eo45⟩ := R_slice HO137.1
 (first | subst eo45 | (injection eo45 with f1_ f2_ f3_; have f4_ := f1_.symm; have f5_ := f3_.symm; clear f1_ f2_ f3_; subst f4_; subst f5_))
 refine hK.out _ _ ⟨(blk_cell BK127.1 0).trans rfl, (blk_cell BK127.1 1).trans rfl, (blk_cell BK127.1 2).trans rfl⟩ (fun hHeld => ?_)
 clear hK K
 refine norm_ (a' := ?_) ?_ ?_
 rotate_left
 · show Act.put _ (some 60) _ = _
   simp only [Act.put, List.setIfInBounds_toArray, List.set_cons_zero, List.set_cons_succ, i64_w, i32_w]
   rfl
 refine one_ (i := 4) (N := some 61) #[Yy,Yy,Yy,Yy,Yy,Zz] rfl rfl (by kernel_rfl) (by decide) (fun K hK => ?_)
 refine goes_ Tryd.func64 (by kernel_rfl) rfl #[.agg #[.int .i64 a0_0, .slice A0_1 l0_1.length c0_1, .int .i64 a0_2], .agg #[.int .i64 t134, .slice Ao45 t135.length co45, .int .i64 t138]] (by rfl) rfl rfl (by (try simp only [List.map_toArray, List.map_cons, List.map_nil]); first | done | rfl | (simp only [List.length_drop, List.length_take]; rfl)) ?_
 with_reducible refine (spec_ddSame.calls k2 a0_0 _ _ l0_1 a0_2 t134 _ _ t135 t138 t139 _ ?side1 ?side2 ?side3 ?side4 A40.1).mono ?_
 (case side1 => exact CB (C_below HR0_1.1 HB.1))
 (case side2 => exact HC0_1.1)
 (case side3 => exact CB (R_reads' HO137.1).2.2)
 (case side4 => exact (R_reads' HO137.1).2.1)
 rintro e w46 ⟨rfl, hb⟩
 refine ⟨_, rfl, ?_⟩
 refine E4 (rB HO133.1 hb) (rB HO137.1 hb) (bB BK127.1 hb) (bS HB.1 hb) ?_
 clear HO133 HO137 BK127 HB
 intro HO133 HO137 BK127 HB
 (try clear hb)
 (try clear hb2)
 (try clear hk)
 (try clear hi)
 refine hK.out _ _ ⟨(blk_cell BK127.1 0).trans rfl, (blk_cell BK127.1 1).trans rfl, (blk_cell BK127.1 2).trans rfl⟩ (fun hHeld => ?_)
 clear hK K
 refine norm_ (a' := ?_) ?_ ?_
 rotate_left
 · show Act.put _ (some 61) _ = _
   simp only [Act.put, List.setIfInBounds_toArray, List.set_cons_zero, List.set_cons_succ, i64_w, i32_w]
   rfl
 refine pure_ (i := 5) (N := some 2) (v := ?_) (a' := ?_) #[Yy,Yy,Yy,Yy,Yy,Yy] rfl rfl (by kernel_rfl) (fun _ _ _ h => h) (Or.inl ⟨by rfl, ?_⟩) ?_ ?_
 rotate_left
 · intro w'
   go_simp
   with_reducible rfl
 rotate_left
 · simp only [Act.put, List.setIfInBounds_toArray, List.set_cons_zero, List.set_cons_succ, i64_w, i32_w]
   rfl
 refine done_ (by kernel_rfl) ?_
 try go_wp2
 go_ret
 exact ⟨RF, BL HB.1⟩
/-! ### spec_l1Num: function 48 -/
open Kd
def spec_l1Num.f : Nat -> Int -> Option (ByteArray)
 | 0, _ => none
 | k + 1, a0 => if a0 < 10 then (some (strOfNums (([(wrap64 (48 + a0)) % 256] : List Int)))) else ((spec_l1Num.f k (wrap64 (Int.tdiv a0 10))).bind fun t148 => ((some (([(wrap64 (48 + (Int.tmod a0 10))) % 256] : List Int) : List Int)).bind fun y149 => (if t148.size + (strOfNums y149).size <= 9223372036854775807 then (some (t148 ++ (strOfNums y149))) else (none))))
theorem spec_l1Num.mono_l : ∀ k, (∀ y0, LeO (spec_l1Num.f k y0) (spec_l1Num.f (k + 1) y0))
 | 0 => fun _ r h => by simp [spec_l1Num.f] at h
 | k + 1 => by
  have ih0 := spec_l1Num.mono_l k
  intros
  first | unfold spec_l1Num.f
  exact LM1 ih0
theorem spec_l1Num.mono : ∀ a0 k, LeO (spec_l1Num.f k a0) (spec_l1Num.f (k + 1) a0) := by
 intro a0 k
 have ih0 := spec_l1Num.mono_l k
 exact ih0 a0
def spec_l1Num.T3 : Bool × List (List Nat × List Nat) := (true, [([], []), ([0], [0]), ([1], [1]), ([], []), ([3], [3]), ([4], [4]), ([5], [5]), ([6], [6]), ([7], [7]), ([2, 8], [2, 8]), ([9, 2, 0, 1, 2, 3, 4, 5, 6, 7, 8, 9], [9])])
def spec_l1Num.B3 : List Nat := [0, 1, 3, 0, 8, 24, 56, 120, 248, 511, 1023]
theorem spec_l1Num.tab3 : rtab .any (opsOf Tryd.f48 3) = spec_l1Num.T3 := by kernel_rfl
theorem spec_l1Num.bits3 : waitsOk spec_l1Num.T3.2 spec_l1Num.B3 = true := by kernel_rfl
theorem spec_l1Num.calls (k : Nat) : ∀ (a0 : Int) (r : ByteArray) (w : World) (h : spec_l1Num.f k a0 = some r),
 Calls Tryd.prog 48 #[.int .i64 a0] w fun e w' => e = .returned (.string r) /\ Below w.heap.size w w' := by
 induction k using Nat.strongRecOn with
 | _ k ih =>
 intro a0 r w h
 cases k with
 | zero => exact absurd h (by simp [spec_l1Num.f])
 | succ k =>
 simp only [spec_l1Num.f] at h
 have HB := Aside0.mk (Below.refl w.heap.size w)
 have H : (if a0 < 10 then (some (strOfNums (([(wrap64 (48 + a0)) % 256] : List Int)))) else ((spec_l1Num.f k (wrap64 (Int.tdiv a0 10))).bind fun t148 => ((some (([(wrap64 (48 + (Int.tmod a0 10))) % 256] : List Int) : List Int)).bind fun y149 => (if t148.size + (strOfNums y149).size <= 9223372036854775807 then (some (t148 ++ (strOfNums y149))) else (none))))) = some r := h
 clear h
 replace H := ifB H; rcases H with ⟨c2b0, H⟩ | ⟨c2b0, H⟩
 · generalize hy145 : ((([(wrap64 (48 + a0)) % 256] : List Int)) : List Int) = y145 at H
   have Ny145 := Aside0.mk hy145.symm; clear hy145
   obtain rfl := Option.some.inj H
   go_enter Tryd.func48, Tryd.ntmps48
   go_wp2_with (first | ((with_reducible refine gate_dst (N := 8) rfl ?_); refine R_lit (Kd.int .u8) _ 5 ?hg (N := 8) ?hd (xs := ([(wrap64 (48 + a0)) % 256] : List Int)) (inner := [.int .u8 ((wrap64 (48 + a0)) % 256)]) (ok := fun _ => True) (okp := fun _ => True) ?hr ?hp (fun _ hk => hk) trivial (Below.refl _ _) (Nat.le_refl _) (by simp) ?_; (case hd => rfl); (case hg => rfl); (case hr => first | (go_simp; done) | (go_simp; rfl)); (case hp => exact (Reps.one (show Kd.M (Kd.int .u8) _ _ _ ((wrap64 (48 + a0)) % 256) [.int .u8 ((wrap64 (48 + a0)) % 256)] from rfl) (Reps.none _ _))); intro v146 w3 ho4 hb hg_ hnew_; clear hg_ hnew_; (first | rw [<- Ny145.1] at ho4 | (simp only [Int.reduceToNat] at ho4; rw [<- Ny145.1] at ho4)); refine E2 (R_lower ho4 (bZ HB.1)) (bS HB.1 hb) ?_; clear HB; intro HO147 HB; clear hb ho4; have hcv5 := own_string (P := Tryd.prog) Tryd.underlying93 Tryd.underlying5 Tryd.underlying9 (Kd.own_of_R HO147.1)))
   go_ret
   exact ⟨RF, BL HB.1⟩
 replace H := bindA H; obtain ⟨t148, A6, H⟩ := H
 replace H := nameB H; obtain ⟨y149, Ny149, H⟩ := H
 replace H := ifP H; obtain ⟨c7, H⟩ := H
 have c7b0 := eq_true c7
 have c7b1 := decide_eq_true c7
 try have c7b2 : (9223372036854775807 < t148.size + (strOfNums y149).size) = False := eq_false (Nat.not_lt.2 c7)
 obtain rfl := Option.some.inj H
 go_enter Tryd.func48, Tryd.ntmps48
 try go_wp2
 refine E1 (below_drew1 HB.1) ?_
 clear HB
 intro HB
 refine start_ (n := 11) (S := fun w' => True) (ds := []) #[Zz,Zz,Zz,Zz,Zz,Zz,Zz,Zz,Zz,Zz,Zz] (by kernel_rfl) rfl rfl trivial (fun hHeld => ?_); refine with_tabW spec_l1Num.tab3 spec_l1Num.bits3 (fun HT_ HW_ => ?_)
 generalize w.drew = w8 at HB hHeld ⊢
 refine pureF 0 (N := some 10) HT_.1 ?_
 refine pureF 1 (N := some 11) HT_.1 ?_
 refine pureF 3 (N := some 13) HT_.1 ?_
 refine pureF 4 (N := some 14) HT_.1 ?_
 refine pureF 5 (N := some 15) HT_.1 ?_
 refine pureF 6 (N := some 16) HT_.1 ?_
 refine join_ (σ := Value) 2 #[Yy,Yy,Yy,Yy,Yy,Yy,Yy,Yy,Yy,Zz,Zz] (fun s_ => [(12, .string t148), (17, s_), (18, .string (strOfNums y149))]) (fun s_ w' => (Kd.R (Kd.int .u8) 5 w' w.heap.size (fun _ => True) s_ y149) /\ (Below w.heap.size w w')) ?_ ?_
 rotate_left
 · intro hCont
   refine two_ (i := 2) (j := 7) (Ni := some 12) (Nj := some 17) #[Yy,Yy,Yy,Yy,Yy,Yy,Yy,Zz,Zz,Zz,Zz] #[Yy,Yy,Zz,Yy,Yy,Yy,Yy,Yy,Zz,Zz,Zz] rfl rfl rfl rfl (two_of HT_.1 (by kernel_rfl)) (by decide) (by decide) (fun K hK => ?_) (fun K hK => ?_)
   · skip
     refine goes_ Tryd.func48 (by kernel_rfl) rfl #[.int .i64 (wrap64 (Int.tdiv a0 10))] (by rfl) rfl rfl (by (try simp only [List.map_toArray, List.map_cons, List.map_nil]); first | done | rfl | (simp only [List.length_drop, List.length_take]; rfl)) ?_
     with_reducible refine (ih k (by omega) (wrap64 (Int.tdiv a0 10)) t148 _ A6.1).mono ?_
     rintro e w9 ⟨rfl, hb⟩
     refine ⟨_, rfl, ?_⟩
     refine E1 (bS HB.1 hb) ?_
     clear HB
     intro HB
     (try clear hb)
     (try clear hb2)
     (try clear hk)
     (try clear hi)
     refine hK.out _ _ trivial (fun hHeld => ?_)
     clear hK K
     refine norm_ (a' := ?_) ?_ ?_
     rotate_left
     · show Act.put _ (some 12) _ = _
       simp only [Act.put, List.setIfInBounds_toArray, List.set_cons_zero, List.set_cons_succ, i64_w, i32_w]
       rfl
     refine one_ (i := 7) (N := some 17) #[Yy,Yy,Yy,Yy,Yy,Yy,Yy,Yy,Zz,Zz,Zz] rfl rfl (one_of HT_.1 (by kernel_rfl)) (by decide) (fun K hK => ?_)
     refine R_lit_step (Kd.int .u8) _ 5 ?hg (N := 17) ?hd (xs := ([(wrap64 (48 + (Int.tmod a0 10))) % 256] : List Int)) (inner := [.int .u8 ((wrap64 (48 + (Int.tmod a0 10))) % 256)]) (ok := fun _ => True) (okp := fun _ => True) ?hr ?hp (fun _ hk => hk) trivial (Below.refl _ _) (Nat.le_refl _) (by simp) ?_; (case hd => rfl); (case hg => rfl); (case hr => first | (go_simp; done) | (go_simp; rfl)); (case hp => exact (Reps.one (show Kd.M (Kd.int .u8) _ _ _ ((wrap64 (48 + (Int.tmod a0 10))) % 256) [.int .u8 ((wrap64 (48 + (Int.tmod a0 10))) % 256)] from rfl) (Reps.none _ _)))
     intro v150 w10 ho11 hb hg_ hnew_
     clear hg_ hnew_
     (first | rw [<- Ny149.1] at ho11 | (simp only [Int.reduceToNat] at ho11; rw [<- Ny149.1] at ho11))
     refine E2 (R_lower ho11 (bZ HB.1)) (bS HB.1 hb) ?_
     clear HB
     intro HO151 HB
     clear hb ho11
     refine hK.out _ _ trivial (fun hHeld => ?_)
     clear hK K
     refine norm_ (a' := ?_) ?_ ?_
     rotate_left
     · show Act.put _ (some 17) _ = _
       simp only [Act.put, List.setIfInBounds_toArray, List.set_cons_zero, List.set_cons_succ, i64_w, i32_w]
       rfl
     refine one_ (i := 8) (N := some 18) #[Yy,Yy,Yy,Yy,Yy,Yy,Yy,Yy,Yy,Zz,Zz] rfl rfl (one_of HT_.1 (by kernel_rfl)) (by decide) (fun K hK => ?_)
     have hcv12 := own_string (P := Tryd.prog) Tryd.underlying93 Tryd.underlying5 Tryd.underlying9 (Kd.own_of_R HO151.1)
     refine value_ (w1 := ?_) (v := ?_) (by rfl) rfl ?_ ?_
     rotate_left 2
     · go_simp
       constructor
       · rfl
       rfl
     clear hcv12
     refine hK.out _ _ trivial (fun hHeld => ?_)
     clear hK K
     refine norm_ (a' := ?_) ?_ ?_
     rotate_left
     · show Act.put _ (some 18) _ = _
       simp only [Act.put, List.setIfInBounds_toArray, List.set_cons_zero, List.set_cons_succ, i64_w, i32_w]
       rfl
     exact norm_ NA (hCont (v150) _ ⟨(PR HO151.1), (BL HB.1)⟩)
   skip
   refine R_lit_step (Kd.int .u8) _ 5 ?hg (N := 17) ?hd (xs := ([(wrap64 (48 + (Int.tmod a0 10))) % 256] : List Int)) (inner := [.int .u8 ((wrap64 (48 + (Int.tmod a0 10))) % 256)]) (ok := fun _ => True) (okp := fun _ => True) ?hr ?hp (fun _ hk => hk) trivial (Below.refl _ _) (Nat.le_refl _) (by simp) ?_; (case hd => rfl); (case hg => rfl); (case hr => first | (go_simp; done) | (go_simp; rfl)); (case hp => exact (Reps.one (show Kd.M (Kd.int .u8) _ _ _ ((wrap64 (48 + (Int.tmod a0 10))) % 256) [.int .u8 ((wrap64 (48 + (Int.tmod a0 10))) % 256)] from rfl) (Reps.none _ _)))
   intro v150 w9 ho10 hb hg_ hnew_
   clear hg_ hnew_
   (first | rw [<- Ny149.1] at ho10 | (simp only [Int.reduceToNat] at ho10; rw [<- Ny149.1] at ho10))
   refine E2 (R_lower ho10 (bZ HB.1)) (bS HB.1 hb) ?_
   clear HB
   intro HO151 HB
   clear hb ho10
   refine hK.out _ _ trivial (fun hHeld => ?_)
   clear hK K
   refine norm_ (a' := ?_) ?_ ?_
   rotate_left
   · show Act.put _ (some 17) _ = _
     simp only [Act.put, List.setIfInBounds_toArray, List.set_cons_zero, List.set_cons_succ, i64_w, i32_w]
     rfl
   refine two_ (i := 2) (j := 8) (Ni := some 12) (Nj := some 18) #[Yy,Yy,Yy,Yy,Yy,Yy,Yy,Yy,Zz,Zz,Zz] #[Yy,Yy,Zz,Yy,Yy,Yy,Yy,Yy,Yy,Zz,Zz] rfl rfl rfl rfl (two_of HT_.1 (by kernel_rfl)) (by decide) (by decide) (fun K hK => ?_) (fun K hK => ?_)
   · skip
     refine goes_ Tryd.func48 (by kernel_rfl) rfl #[.int .i64 (wrap64 (Int.tdiv a0 10))] (by rfl) rfl rfl (by (try simp only [List.map_toArray, List.map_cons, List.map_nil]); first | done | rfl | (simp only [List.length_drop, List.length_take]; rfl)) ?_
     with_reducible refine (ih k (by omega) (wrap64 (Int.tdiv a0 10)) t148 _ A6.1).mono ?_
     rintro e w11 ⟨rfl, hb⟩
     refine ⟨_, rfl, ?_⟩
     refine E2 (rB HO151.1 hb) (bS HB.1 hb) ?_
     clear HO151 HB
     intro HO151 HB
     (try clear hb)
     (try clear hb2)
     (try clear hk)
     (try clear hi)
     refine hK.out _ _ trivial (fun hHeld => ?_)
     clear hK K
     refine norm_ (a' := ?_) ?_ ?_
     rotate_left
     · show Act.put _ (some 12) _ = _
       simp only [Act.put, List.setIfInBounds_toArray, List.set_cons_zero, List.set_cons_succ, i64_w, i32_w]
       rfl
     refine one_ (i := 8) (N := some 18) #[Yy,Yy,Yy,Yy,Yy,Yy,Yy,Yy,Yy,Zz,Zz] rfl rfl (one_of HT_.1 (by kernel_rfl)) (by decide) (fun K hK => ?_)
     have hcv12 := own_string (P := Tryd.prog) Tryd.underlying93 Tryd.underlying5 Tryd.underlying9 (Kd.own_of_R HO151.1)
     refine value_ (w1 := ?_) (v := ?_) (by rfl) rfl ?_ ?_
     rotate_left 2
     · go_simp
       constructor
       · rfl
       rfl
     clear hcv12
     refine hK.out _ _ trivial (fun hHeld => ?_)
     clear hK K
     refine norm_ (a' := ?_) ?_ ?_
     rotate_left
     · show Act.put _ (some 18) _ = _
       simp only [Act.put, List.setIfInBounds_toArray, List.set_cons_zero, List.set_cons_succ, i64_w, i32_w]
       rfl
     exact norm_ NA (hCont (v150) _ ⟨(PR HO151.1), (BL HB.1)⟩)
   skip
   have hcv11 := own_string (P := Tryd.prog) Tryd.underlying93 Tryd.underlying5 Tryd.underlying9 (Kd.own_of_R HO151.1)
   refine value_ (w1 := ?_) (v := ?_) (by rfl) rfl ?_ ?_
   rotate_left 2
   · go_simp
     constructor
     · rfl
     rfl
   clear hcv11
   refine hK.out _ _ trivial (fun hHeld => ?_)
   clear hK K
   refine norm_ (a' := ?_) ?_ ?_
   rotate_left
   · show Act.put _ (some 18) _ = _
     simp only [Act.put, List.setIfInBounds_toArray, List.set_cons_zero, List.set_cons_succ, i64_w, i32_w]
     rfl
   refine one_ (i := 2) (N := some 12) #[Yy,Yy,Yy,Yy,Yy,Yy,Yy,Yy,Yy,Zz,Zz] rfl rfl (one_of HT_.1 (by kernel_rfl)) (by decide) (fun K hK => ?_)
   refine goes_ Tryd.func48 (by kernel_rfl) rfl #[.int .i64 (wrap64 (Int.tdiv a0 10))] (by rfl) rfl rfl (by (try simp only [List.map_toArray, List.map_cons, List.map_nil]); first | done | rfl | (simp only [List.length_drop, List.length_take]; rfl)) ?_
   with_reducible refine (ih k (by omega) (wrap64 (Int.tdiv a0 10)) t148 _ A6.1).mono ?_
   rintro e w12 ⟨rfl, hb⟩
   refine ⟨_, rfl, ?_⟩
   refine E2 (rB HO151.1 hb) (bS HB.1 hb) ?_
   clear HO151 HB
   intro HO151 HB
   (try clear hb)
   (try clear hb2)
   (try clear hk)
   (try clear hi)
   refine hK.out _ _ trivial (fun hHeld => ?_)
   clear hK K
   refine norm_ (a' := ?_) ?_ ?_
   rotate_left
   · show Act.put _ (some 12) _ = _
     simp only [Act.put, List.setIfInBounds_toArray, List.set_cons_zero, List.set_cons_succ, i64_w, i32_w]
     rfl
   exact norm_ NA (hCont (v150) _ ⟨(PR HO151.1), (BL HB.1)⟩)
 rintro v150 w13 ⟨h0_, h1_⟩
 refine E2 h0_ h1_ ?_
 clear HB h0_ h1_
 intro HO151 HB
 have hHeld := trivial
 refine norm_ (a' := ?_) ?_ ?_
 rotate_left
 · simp only [putAll, Act.put, List.setIfInBounds_toArray, List.set_cons_zero, List.set_cons_succ]
   rfl
 refine pureF 9 (N := some 19) HT_.1 ?_
 refine pureF 10 (N := some 2) HT_.1 ?_
 refine done_ (done_of HT_.1 (by kernel_rfl)) ?_
 try go_wp2
 go_ret
 exact ⟨RF, BL HB.1⟩
/-! ### spec_DiagramText: function 22 -/
open Kd
def spec_DiagramText.l0 : Nat -> ByteArray -> List (S86) -> Int -> Int -> Int -> List (S86) -> Int -> Option (ByteArray × Bool)
 | 0, _, _, _, _, _, _, _ => none
 | k + 1, x4, x11, x12, x13, x153000, x153001, x153002 => if x13 < x12 then (if 0 <= x13 then (if x13 < (x11.length : Int) then ((spec_l1Num.f k ((rd_T86 x11 x13).f0)).bind fun t156 => (if t156.size + 1 <= 9223372036854775807 then ((spec_l1Num.f k ((rd_T86 x11 x13).f1)).bind fun t157 => (if (t156 ++ (⟨#[32]⟩ : ByteArray)).size + t157.size <= 9223372036854775807 then (if ((t156 ++ (⟨#[32]⟩ : ByteArray)) ++ t157).size + 1 <= 9223372036854775807 then ((spec_l1Num.f k ((rd_T86 x11 x13).f2)).bind fun t158 => (if (((t156 ++ (⟨#[32]⟩ : ByteArray)) ++ t157) ++ (⟨#[32]⟩ : ByteArray)).size + t158.size <= 9223372036854775807 then (if ((((t156 ++ (⟨#[32]⟩ : ByteArray)) ++ t157) ++ (⟨#[32]⟩ : ByteArray)) ++ t158).size + 1 <= 9223372036854775807 then (if x4.size + (((((t156 ++ (⟨#[32]⟩ : ByteArray)) ++ t157) ++ (⟨#[32]⟩ : ByteArray)) ++ t158) ++ (⟨#[10]⟩ : ByteArray)).size <= 9223372036854775807 then (spec_DiagramText.l0 k (x4 ++ (((((t156 ++ (⟨#[32]⟩ : ByteArray)) ++ t157) ++ (⟨#[32]⟩ : ByteArray)) ++ t158) ++ (⟨#[10]⟩ : ByteArray))) x11 x12 (wrap64 (x13 + 1)) x153000 x153001 x153002) else (none)) else (none)) else (none))) else (none)) else (none))) else (none))) else (none)) else (none)) else ((spec_l1Num.f k x153002).bind fun t159 => (if x4.size + t159.size <= 9223372036854775807 then (if (x4 ++ t159).size + 1 <= 9223372036854775807 then (some ((x4 ++ t159) ++ (⟨#[10]⟩ : ByteArray), true)) else (none)) else (none)))
def spec_DiagramText.f (k : Nat) (a0_0 : Int) (l0_1 : List (S86)) (a0_2 : Int) : Option (ByteArray × Bool) := (spec_ddGood.f k a0_0 l0_1 a0_2).bind fun t153 => (if t153 = true then (spec_DiagramText.l0 k (⟨#[]⟩ : ByteArray) l0_1 (l0_1.length : Int) 0 a0_0 l0_1 a0_2) else (some ((⟨#[]⟩ : ByteArray), false)))
theorem spec_DiagramText.mono_l : ∀ k, (∀ y0 y1 y2 y3 y4 y5 y6, LeO (spec_DiagramText.l0 k y0 y1 y2 y3 y4 y5 y6) (spec_DiagramText.l0 (k + 1) y0 y1 y2 y3 y4 y5 y6))
 | 0 => fun _ _ _ _ _ _ _ r h => by simp [spec_DiagramText.l0] at h
 | k + 1 => by
  have ih0 := spec_DiagramText.mono_l k
  intros
  first | unfold spec_DiagramText.l0
  exact LM3 ih0 spec_ddGood.mono spec_l1Num.mono
theorem spec_DiagramText.mono : ∀ a0 a1 a2 k, LeO (spec_DiagramText.f k a0 a1 a2) (spec_DiagramText.f (k + 1) a0 a1 a2) := by
 intro a0 a1 a2 k
 have ih0 := spec_DiagramText.mono_l k
 unfold spec_DiagramText.f
 exact LM3 ih0 spec_ddGood.mono spec_l1Num.mono
def spec_DiagramText.T7 : Bool × List (List Nat × List Nat) := (true, [([], []), ([], []), ([1], [1]), ([2], [2]), ([3], [3]), ([], []), ([5], [5]), ([6, 3], [6]), ([4, 7], [4, 7]), ([8], [8]), ([], []), ([10], [10]), ([11, 7], [11]), ([9, 12], [9, 12]), ([13], [13]), ([0, 14], [0, 14]), ([15, 12, 0, 1, 2, 3, 4, 5, 6, 7, 8, 9, 10, 11, 12, 13, 14, 15], [0, 15])])
def spec_DiagramText.B7 : List Nat := [0, 0, 2, 6, 14, 0, 32, 110, 254, 510, 0, 1024, 3310, 8190, 16382, 32767, 65535]
theorem spec_DiagramText.tab7 : rtab .any (opsOf Tryd.f22 7) = spec_DiagramText.T7 := by kernel_rfl
theorem spec_DiagramText.bits7 : waitsOk spec_DiagramText.T7.2 spec_DiagramText.B7 = true := by kernel_rfl
theorem spec_DiagramText.calls (k : Nat) (a0_0 : Int) (A0_1 : Option Addr) (c0_1 : Nat) (l0_1 : List (S86)) (a0_2 : Int) (r1 : ByteArray) (r2 : Bool) (w : World) (hr0_1 : Kd.C k86 w A0_1 l0_1.length l0_1) (hc0_1 : l0_1.length <= c0_1) (h : spec_DiagramText.f k a0_0 l0_1 a0_2 = some (r1, r2)) :
 Calls Tryd.prog 22 #[.agg #[.int .i64 a0_0, .slice A0_1 l0_1.length c0_1, .int .i64 a0_2]] w fun e w' => e = .returned (.tuple #[.string r1, .bool r2]) /\ Below w.heap.size w w' := by
 have hu50 := Tryd.underlying50
 have hu86 := Tryd.underlying86
 have HR0_1 := Aside0.mk hr0_1
 have HC0_1 := Aside0.mk hc0_1
 clear hr0_1 hc0_1
 have HB := Aside0.mk (Below.refl w.heap.size w)
 have H := h
 clear h
 unfold spec_DiagramText.f at H
 replace H := bindA H; obtain ⟨t153, A2, H⟩ := H
 replace H := ifX H; rcases H with ⟨rfl, H⟩ | ⟨rfl, H⟩
 · have H' := Aside0.mk H
   clear H
   go_enter Tryd.func22, Tryd.ntmps22
   go_wp2_with (first | ((with_reducible refine gate_dst (N := 1) rfl ?_); refine boxE (cs := #[.int .i64 a0_0, .slice A0_1 l0_1.length c0_1, .int .i64 a0_2]) (t := 50) ?_; intro gb152 hg w4 hbox hb; refine E4b HB.1 hg hbox hb ?_; clear HB; intro HB BK152 GW152 GE152; clear hb hbox hg; obtain ⟨hcz5_0, hcz5_1, hcz5_2, hfz5_0, hfz5_1, hfz5_2⟩ := cz3 BK152.1) | ((with_reducible refine gate_callee (f := 47) rfl ?_); refine goesM (N := (some 8)) #[.agg #[.int .i64 a0_0, .slice A0_1 l0_1.length c0_1, .int .i64 a0_2]] Tryd.func47 ?_; (with_reducible refine (spec_ddGood.calls k a0_0 _ _ l0_1 a0_2 true _ ?side1 ?side2 A2.1).mono ?_); (case side1 => exact CB (C_below HR0_1.1 HB.1)); (case side2 => exact HC0_1.1); rintro e w6 ⟨rfl, hb⟩; refine ⟨_, rfl, ?_⟩; refine E2 (bB BK152.1 hb) (bS HB.1 hb) ?_; clear BK152 HB; intro BK152 HB; (try clear hb); obtain ⟨hcz7_0, hcz7_1, hcz7_2, hfz7_0, hfz7_1, hfz7_2⟩ := cz3 BK152.1))
   go_loopg [4, 13] k (fun kq v4 v13 w' => ∃ (x4_1 : ByteArray) (x13_1 : Int), v4 = .string x4_1 /\ v13 = .int .i64 x13_1 /\ Aside0 (spec_DiagramText.l0 kq x4_1 l0_1 (l0_1.length : Int) x13_1 a0_0 l0_1 a0_2 = some (r1, r2)) /\ Aside0 (kq <= k) /\ Aside0 (w'.heap[gb152]? = some (.cells #[.int .i64 a0_0, (.slice A0_1 l0_1.length c0_1), .int .i64 a0_2] 50 (0, 0))) /\ Aside0 (Below w.heap.size w w'))
   case atStart => exact ⟨((⟨#[]⟩ : ByteArray)), (0), RG, RG, H', ⟨Nat.le_refl _⟩, ⟨PB BK152.1⟩, ⟨BL HB.1⟩⟩
   clear H'
   clear hcz5_0 hcz5_1 hcz5_2 hcz7_0 hcz7_1 hcz7_2 hfz5_0 hfz5_1 hfz5_2 hfz7_0 hfz7_1 hfz7_2
   obtain ⟨x4_1, x13_1, rfl, rfl, HA, HK1, BK152, HB⟩ := hrel
   cases gk with
   | zero => exact absurd HA.1 (by simp [spec_DiagramText.l0])
   | succ k1 => ?_
   have H := HA.1
   clear HA
   simp only [spec_DiagramText.l0] at H
   replace H := ifB H; rcases H with ⟨c8b0, H⟩ | ⟨c8b0, H⟩
   · replace H := ifN H; obtain ⟨c9b0, H⟩ := H
     replace H := ifN H; obtain ⟨c10b0, H⟩ := H
     replace H := bindA H; obtain ⟨t156, A11, H⟩ := H
     replace H := ifP H; obtain ⟨c12, H⟩ := H
     have c12b0 := eq_true c12
     have c12b1 := decide_eq_true c12
     try have c12b2 : (9223372036854775807 < t156.size + 1) = False := eq_false (Nat.not_lt.2 c12)
     replace H := bindA H; obtain ⟨t157, A13, H⟩ := H
     replace H := ifP H; obtain ⟨c14, H⟩ := H
     have c14b0 := eq_true c14
     have c14b1 := decide_eq_true c14
     try have c14b2 : (9223372036854775807 < (t156 ++ (⟨#[32]⟩ : ByteArray)).size + t157.size) = False := eq_false (Nat.not_lt.2 c14)
     try have c14b3 : (9223372036854775807 < t156.size + 1 + t157.size) = False := by have h_ := c14b2; simp only [ByteArray.size_append] at h_; exact h_
     replace H := ifP H; obtain ⟨c15, H⟩ := H
     have c15b0 := eq_true c15
     have c15b1 := decide_eq_true c15
     try have c15b2 : (9223372036854775807 < ((t156 ++ (⟨#[32]⟩ : ByteArray)) ++ t157).size + 1) = False := eq_false (Nat.not_lt.2 c15)
     try have c15b3 : (9223372036854775807 < t156.size + 1 + t157.size + 1) = False := by have h_ := c15b2; simp only [ByteArray.size_append] at h_; exact h_
     replace H := bindA H; obtain ⟨t158, A16, H⟩ := H
     replace H := ifP H; obtain ⟨c17, H⟩ := H
     have c17b0 := eq_true c17
     have c17b1 := decide_eq_true c17
     try have c17b2 : (9223372036854775807 < (((t156 ++ (⟨#[32]⟩ : ByteArray)) ++ t157) ++ (⟨#[32]⟩ : ByteArray)).size + t158.size) = False := eq_false (Nat.not_lt.2 c17)
     try have c17b3 : (9223372036854775807 < t156.size + 1 + t157.size + 1 + t158.size) = False := by have h_ := c17b2; simp only [ByteArray.size_append] at h_; exact h_
     replace H := ifP H; obtain ⟨c18, H⟩ := H
     have c18b0 := eq_true c18
     have c18b1 := decide_eq_true c18
     try have c18b2 : (9223372036854775807 < ((((t156 ++ (⟨#[32]⟩ : ByteArray)) ++ t157) ++ (⟨#[32]⟩ : ByteArray)) ++ t158).size + 1) = False := eq_false (Nat.not_lt.2 c18)
     try have c18b3 : (9223372036854775807 < t156.size + 1 + t157.size + 1 + t158.size + 1) = False := by have h_ := c18b2; simp only [ByteArray.size_append] at h_; exact h_
     replace H := ifP H; obtain ⟨c19, H⟩ := H
     have c19b0 := eq_true c19
     have c19b1 := decide_eq_true c19
     try have c19b2 : (9223372036854775807 < x4_1.size + (((((t156 ++ (⟨#[32]⟩ : ByteArray)) ++ t157) ++ (⟨#[32]⟩ : ByteArray)) ++ t158) ++ (⟨#[10]⟩ : ByteArray)).size) = False := eq_false (Nat.not_lt.2 c19)
     try have c19b3 : (9223372036854775807 < x4_1.size + (t156.size + 1 + t157.size + 1 + t158.size + 1)) = False := by have h_ := c19b2; simp only [ByteArray.size_append] at h_; exact h_
     have H' := Aside0.mk H
     clear H
     have p154 : 0 <= (x13_1 : Int) := OD
     have q154 : x13_1 < (l0_1.length : Int) := OD
     obtain ⟨ad154, e154, hx154_0, hx154_1, hx154_2⟩ := at_T86 HR0_1.1 x13_1 p154 q154
     cases e154
     replace hx154_0 := (HB.1.cell (World.block_lt_of_cell? w _ hx154_0)).trans hx154_0
     replace hx154_1 := (HB.1.cell (World.block_lt_of_cell? w _ hx154_1)).trans hx154_1
     replace hx154_2 := (HB.1.cell (World.block_lt_of_cell? w _ hx154_2)).trans hx154_2
     replace p154 := eq_true p154
     replace q154 := eq_true q154
     try go_wp2_with (first | ((with_reducible refine gate_dst (N := 6) rfl ?_); refine boxE (cs := #[.int .i64 0, .int .i64 0, .int .i64 0]) (t := 86) ?_; intro gb155 hg w20 hbox hb; refine E7 (bB BK152.1 hb) (bS HB.1 hb) (hbox) (gX HB.1 hg) (gX HB.1 hg) (nB BK152.1 hg) (nC BK152.1 hg) ?_; clear BK152 HB; intro BK152 HB BK155 GW155 GE155 NB152_155 NB155_152; clear hb hbox hg; have hnb21 := NB155_152.1; have hnc21 := NB152_155.1; obtain ⟨hcz22_0, hcz22_1, hcz22_2, hfz22_0, hfz22_1, hfz22_2⟩ := cz3 BK155.1))
     have n_ : (fun w23 : World => (w23.heap[gb152]? = some (.cells #[.int .i64 a0_0, .slice (some ad154) l0_1.length c0_1, .int .i64 a0_2] 50 (0, 0))) /\ (w23.heap[gb155]? = some (.cells #[.int .i64 ((rd_T86 l0_1 x13_1).f0), .int .i64 ((rd_T86 l0_1 x13_1).f1), .int .i64 ((rd_T86 l0_1 x13_1).f2)] 86 (0, 0))) /\ (Below w.heap.size w w23)) (((w20.setCell ⟨gb155, 0, none⟩ (.int .i64 ((rd_T86 l0_1 x13_1).f0))).setCell ⟨gb155, 1, none⟩ (.int .i64 ((rd_T86 l0_1 x13_1).f1))).setCell ⟨gb155, 2, none⟩ (.int .i64 ((rd_T86 l0_1 x13_1).f2))) := ⟨by (with_reducible repeat (first | refine blk_drewN ?_ _ | refine blk_drew ?_ | refine blk_alloc ?_ _)); refine blk_far ?_ NB152_155.1 _; (with_reducible repeat (first | refine blk_drewN ?_ _ | refine blk_drew ?_ | refine blk_alloc ?_ _)); refine blk_far ?_ NB152_155.1 _; (with_reducible repeat (first | refine blk_drewN ?_ _ | refine blk_drew ?_ | refine blk_alloc ?_ _)); refine blk_far ?_ NB152_155.1 _; (with_reducible repeat (first | refine blk_drewN ?_ _ | refine blk_drew ?_ | refine blk_alloc ?_ _)); exact BK152.1, by (with_reducible repeat (first | refine blk_drewN ?_ _ | refine blk_drew ?_ | refine blk_alloc ?_ _)); refine blk_put (cs := #[.int .i64 ((rd_T86 l0_1 x13_1).f0), .int .i64 ((rd_T86 l0_1 x13_1).f1), .int .i64 0]) ?_ 2 _ rfl; (with_reducible repeat (first | refine blk_drewN ?_ _ | refine blk_drew ?_ | refine blk_alloc ?_ _)); refine blk_put (cs := #[.int .i64 ((rd_T86 l0_1 x13_1).f0), .int .i64 0, .int .i64 0]) ?_ 1 _ rfl; (with_reducible repeat (first | refine blk_drewN ?_ _ | refine blk_drew ?_ | refine blk_alloc ?_ _)); refine blk_put (cs := #[.int .i64 0, .int .i64 0, .int .i64 0]) ?_ 0 _ rfl; (with_reducible repeat (first | refine blk_drewN ?_ _ | refine blk_drew ?_ | refine blk_alloc ?_ _)); exact BK155.1, BL HB.1⟩
     (try clear BK152)
     (try clear BK155)
     (try clear HB)
     generalize (((w20.setCell ⟨gb155, 0, none⟩ (.int .i64 ((rd_T86 l0_1 x13_1).f0))).setCell ⟨gb155, 1, none⟩ (.int .i64 ((rd_T86 l0_1 x13_1).f1))).setCell ⟨gb155, 2, none⟩ (.int .i64 ((rd_T86 l0_1 x13_1).f2))) = w23 at n_ ⊢
     obtain ⟨h0_, h1_, h2_⟩ := n_
     refine E3 h0_ h1_ h2_ ?_
     clear h0_ h1_ h2_
     intro BK152 BK155 HB
     refine E3 (blk_drew BK152.1) (blk_drew BK155.1) (below_drew1 HB.1) ?_
     clear BK152 BK155 HB
     intro BK152 BK155 HB
     refine start_ (n := 17) (S := fun w' => w'.cell? ⟨gb155, 0, none⟩ = some (.int .i64 ((rd_T86 l0_1 x13_1).f0)) /\ w'.cell? ⟨gb155, 1, none⟩ = some (.int .i64 ((rd_T86 l0_1 x13_1).f1)) /\ w'.cell? ⟨gb155, 2, none⟩ = some (.int .i64 ((rd_T86 l0_1 x13_1).f2))) (ds := []) #[Zz,Zz,Zz,Zz,Zz,Zz,Zz,Zz,Zz,Zz,Zz,Zz,Zz,Zz,Zz,Zz,Zz] (by kernel_rfl) rfl rfl ⟨(blk_cell BK155.1 0).trans rfl, (blk_cell BK155.1 1).trans rfl, (blk_cell BK155.1 2).trans rfl⟩ (fun hHeld => ?_); refine with_tabW spec_DiagramText.tab7 spec_DiagramText.bits7 (fun HT_ HW_ => ?_)
     generalize w23.drew = w24 at BK152 BK155 HB hHeld ⊢
     refine pureF 0 (N := some 17) HT_.1 ?_
     refine pureF 1 (N := some 18) HT_.1 ?_
     refine pureF 5 (N := some 22) HT_.1 ?_
     refine pureF 10 (N := some 27) HT_.1 ?_
     refine takeE 2 (N := some 19) HT_.1 HW_.1 hHeld ?_
     refine takeE 6 (N := some 23) HT_.1 HW_.1 hHeld ?_
     refine takeE 11 (N := some 28) HT_.1 HW_.1 hHeld ?_
     refine one_ (i := 3) (N := some 20) #[Yy,Yy,Yy,Yy,Zz,Yy,Yy,Zz,Zz,Zz,Yy,Yy,Zz,Zz,Zz,Zz,Zz] rfl rfl (one_of HT_.1 (by kernel_rfl)) (by decide) (fun K hK => ?_)
     refine goes_ Tryd.func48 (by kernel_rfl) rfl #[.int .i64 ((rd_T86 l0_1 x13_1).f0)] (by rfl) rfl rfl (by (try simp only [List.map_toArray, List.map_cons, List.map_nil]); first | done | rfl | (simp only [List.length_drop, List.length_take]; rfl)) ?_
     with_reducible refine (spec_l1Num.calls k1 ((rd_T86 l0_1 x13_1).f0) t156 _ A11.1).mono ?_
     rintro e w25 ⟨rfl, hb⟩
     refine ⟨_, rfl, ?_⟩
     refine E3 (bB BK152.1 hb) (bB BK155.1 hb) (bS HB.1 hb) ?_
     clear BK152 BK155 HB
     intro BK152 BK155 HB
     (try clear hb)
     (try clear hb2)
     (try clear hk)
     (try clear hi)
     refine hK.out _ _ ⟨(blk_cell BK155.1 0).trans rfl, (blk_cell BK155.1 1).trans rfl, (blk_cell BK155.1 2).trans rfl⟩ (fun hHeld => ?_)
     clear hK K
     refine norm_ (a' := ?_) ?_ ?_
     rotate_left
     · show Act.put _ (some 20) _ = _
       simp only [Act.put, List.setIfInBounds_toArray, List.set_cons_zero, List.set_cons_succ, i64_w, i32_w]
       rfl
     refine pureF 4 (N := some 21) HT_.1 ?_
     refine one_ (i := 7) (N := some 24) #[Yy,Yy,Yy,Yy,Yy,Yy,Yy,Yy,Zz,Zz,Yy,Yy,Zz,Zz,Zz,Zz,Zz] rfl rfl (one_of HT_.1 (by kernel_rfl)) (by decide) (fun K hK => ?_)
     refine goes_ Tryd.func48 (by kernel_rfl) rfl #[.int .i64 ((rd_T86 l0_1 x13_1).f1)] (by rfl) rfl rfl (by (try simp only [List.map_toArray, List.map_cons, List.map_nil]); first | done | rfl | (simp only [List.length_drop, List.length_take]; rfl)) ?_
     with_reducible refine (spec_l1Num.calls k1 ((rd_T86 l0_1 x13_1).f1) t157 _ A13.1).mono ?_
     rintro e w26 ⟨rfl, hb⟩
     refine ⟨_, rfl, ?_⟩
     refine E3 (bB BK152.1 hb) (bB BK155.1 hb) (bS HB.1 hb) ?_
     clear BK152 BK155 HB
     intro BK152 BK155 HB
     (try clear hb)
     (try clear hb2)
     (try clear hk)
     (try clear hi)
     refine hK.out _ _ ⟨(blk_cell BK155.1 0).trans rfl, (blk_cell BK155.1 1).trans rfl, (blk_cell BK155.1 2).trans rfl⟩ (fun hHeld => ?_)
     clear hK K
     refine norm_ (a' := ?_) ?_ ?_
     rotate_left
     · show Act.put _ (some 24) _ = _
       simp only [Act.put, List.setIfInBounds_toArray, List.set_cons_zero, List.set_cons_succ, i64_w, i32_w]
       rfl
     refine pureF 8 (N := some 25) HT_.1 ?_
     refine pureF 9 (N := some 26) HT_.1 ?_
     refine one_ (i := 12) (N := some 29) #[Yy,Yy,Yy,Yy,Yy,Yy,Yy,Yy,Yy,Yy,Yy,Yy,Yy,Zz,Zz,Zz,Zz] rfl rfl (one_of HT_.1 (by kernel_rfl)) (by decide) (fun K hK => ?_)
     refine goes_ Tryd.func48 (by kernel_rfl) rfl #[.int .i64 ((rd_T86 l0_1 x13_1).f2)] (by rfl) rfl rfl (by (try simp only [List.map_toArray, List.map_cons, List.map_nil]); first | done | rfl | (simp only [List.length_drop, List.length_take]; rfl)) ?_
     with_reducible refine (spec_l1Num.calls k1 ((rd_T86 l0_1 x13_1).f2) t158 _ A16.1).mono ?_
     rintro e w27 ⟨rfl, hb⟩
     refine ⟨_, rfl, ?_⟩
     refine E3 (bB BK152.1 hb) (bB BK155.1 hb) (bS HB.1 hb) ?_
     clear BK152 BK155 HB
     intro BK152 BK155 HB
     (try clear hb)
     (try clear hb2)
     (try clear hk)
     (try clear hi)
     refine hK.out _ _ ⟨(blk_cell BK155.1 0).trans rfl, (blk_cell BK155.1 1).trans rfl, (blk_cell BK155.1 2).trans rfl⟩ (fun hHeld => ?_)
     clear hK K
     refine norm_ (a' := ?_) ?_ ?_
     rotate_left
     · show Act.put _ (some 29) _ = _
       simp only [Act.put, List.setIfInBounds_toArray, List.set_cons_zero, List.set_cons_succ, i64_w, i32_w]
       rfl
     refine pureF 13 (N := some 30) HT_.1 ?_
     refine pureF 14 (N := some 31) HT_.1 ?_
     refine pureF 15 (N := some 32) HT_.1 ?_
     refine pureF 16 (N := some 4) HT_.1 ?_
     refine done_ (done_of HT_.1 (by kernel_rfl)) ?_
     try go_wp2
     go_roundg k1
     case measure => have := HK1.1; omega
     case rel => exact ⟨(x4_1 ++ (((((t156 ++ (⟨#[32]⟩ : ByteArray)) ++ t157) ++ (⟨#[32]⟩ : ByteArray)) ++ t158) ++ (⟨#[10]⟩ : ByteArray))), (wrap64 (x13_1 + 1)), RG, RG, H', ⟨by have := HK1.1; omega⟩, ⟨PB BK152.1⟩, ⟨BL HB.1⟩⟩
   replace H := bindA H; obtain ⟨t159, A28, H⟩ := H
   replace H := ifP H; obtain ⟨c29, H⟩ := H
   have c29b0 := eq_true c29
   have c29b1 := decide_eq_true c29
   try have c29b2 : (9223372036854775807 < x4_1.size + t159.size) = False := eq_false (Nat.not_lt.2 c29)
   replace H := ifP H; obtain ⟨c30, H⟩ := H
   have c30b0 := eq_true c30
   have c30b1 := decide_eq_true c30
   try have c30b2 : (9223372036854775807 < (x4_1 ++ t159).size + 1) = False := eq_false (Nat.not_lt.2 c30)
   try have c30b3 : (9223372036854775807 < x4_1.size + t159.size + 1) = False := by have h_ := c30b2; simp only [ByteArray.size_append] at h_; exact h_
   simp only [Option.some.injEq, Prod.mk.injEq] at H
   obtain ⟨rfl, rfl⟩ := H
   obtain ⟨hcz31_0, hcz31_1, hcz31_2, hfz31_0, hfz31_1, hfz31_2⟩ := cz3 BK152.1
   go_wp2_with (first | ((with_reducible refine gate_callee (f := 48) rfl ?_); refine goesM (N := (some 37)) #[.int .i64 a0_2] Tryd.func48 ?_; (with_reducible refine (spec_l1Num.calls k1 a0_2 t159 _ A28.1).mono ?_); rintro e w32 ⟨rfl, hb⟩; refine ⟨_, rfl, ?_⟩; refine E2 (bB BK152.1 hb) (bS HB.1 hb) ?_; clear BK152 HB; intro BK152 HB; (try clear hb)))
   go_ret2
   exact ⟨RF, BL HB.1⟩
 simp only [Option.some.injEq, Prod.mk.injEq] at H
 obtain ⟨rfl, rfl⟩ := H
 go_enter Tryd.func22, Tryd.ntmps22
 go_wp2_with (first | ((with_reducible refine gate_dst (N := 1) rfl ?_); refine boxE (cs := #[.int .i64 a0_0, .slice A0_1 l0_1.length c0_1, .int .i64 a0_2]) (t := 50) ?_; intro gb152 hg w33 hbox hb; refine E4b HB.1 hg hbox hb ?_; clear HB; intro HB BK152 GW152 GE152; clear hb hbox hg; obtain ⟨hcz34_0, hcz34_1, hcz34_2, hfz34_0, hfz34_1, hfz34_2⟩ := cz3 BK152.1) | ((with_reducible refine gate_callee (f := 47) rfl ?_); refine goesM (N := (some 8)) #[.agg #[.int .i64 a0_0, .slice A0_1 l0_1.length c0_1, .int .i64 a0_2]] Tryd.func47 ?_; (with_reducible refine (spec_ddGood.calls k a0_0 _ _ l0_1 a0_2 false _ ?side1 ?side2 A2.1).mono ?_); (case side1 => exact CB (C_below HR0_1.1 HB.1)); (case side2 => exact HC0_1.1); rintro e w35 ⟨rfl, hb⟩; refine ⟨_, rfl, ?_⟩; refine E2 (bB BK152.1 hb) (bS HB.1 hb) ?_; clear BK152 HB; intro BK152 HB; (try clear hb)))
 go_ret2
 exact ⟨RF, BL HB.1⟩

/-! ### laws_toNode: function 67 -/
open Kd
def laws_toNode.f (a0_0 : Int) (a0_1 : Int) (a0_2 : Int) : Option (Int × Int × Int) := some (a0_0, a0_1, a0_2)
theorem laws_toNode.calls (a0_0 : Int) (a0_1 : Int) (a0_2 : Int) (r1 : Int) (r2 : Int) (r3 : Int) (w : World) (h : laws_toNode.f a0_0 a0_1 a0_2 = some (r1, r2, r3)) :
 Calls Tryd.prog 67 #[.agg #[.int .i64 a0_0, .int .i64 a0_1, .int .i64 a0_2]] w fun e w' => e = .returned (.agg #[.int .i64 r1, .int .i64 r2, .int .i64 r3]) /\ Below w.heap.size w w' := by
 have hu105 := Tryd.underlying105
 have hu86 := Tryd.underlying86
 have HB := Aside0.mk (Below.refl w.heap.size w)
 have H := h
 clear h
 unfold laws_toNode.f at H
 simp only [Option.some.injEq, Prod.mk.injEq] at H
 obtain ⟨rfl, rfl, rfl⟩ := H
 go_enter Tryd.func67, Tryd.ntmps67
 go_wp2_with (first | ((with_reducible refine gate_dst (N := 1) rfl ?_); refine boxE (cs := #[.int .i64 a0_0, .int .i64 a0_1, .int .i64 a0_2]) (t := 105) ?_; intro gb160 hg w2 hbox hb; refine E4b HB.1 hg hbox hb ?_; clear HB; intro HB BK160 GW160 GE160; clear hb hbox hg) | ((with_reducible refine gate_dst (N := 2) rfl ?_); refine boxE (cs := #[.int .i64 0, .int .i64 0, .int .i64 0]) (t := 86) ?_; intro gb161 hg w3 hbox hb; refine E7 (bB BK160.1 hb) (bS HB.1 hb) (hbox) (gX HB.1 hg) (gX HB.1 hg) (nB BK160.1 hg) (nC BK160.1 hg) ?_; clear BK160 HB; intro BK160 HB BK161 GW161 GE161 NB160_161 NB161_160; clear hb hbox hg) | ((with_reducible refine gate_dst (N := 3) rfl ?_); refine boxE (cs := #[.int .i64 0, .int .i64 0, .int .i64 0]) (t := 86) ?_; intro gb162 hg w4 hbox hb; refine E10 (bB BK160.1 hb) (bB BK161.1 hb) (bS HB.1 hb) (hbox) (gX HB.1 hg) (gX HB.1 hg) (nB BK160.1 hg) (nC BK160.1 hg) (nB BK161.1 hg) (nC BK161.1 hg) ?_; clear BK160 BK161 HB; intro BK160 BK161 HB BK162 GW162 GE162 NB160_162 NB162_160 NB161_162 NB162_161; clear hb hbox hg; have hnb5 := NB160_161.1; have hnc5 := NB161_160.1; have hnb6 := NB160_162.1; have hnc6 := NB162_160.1; obtain ⟨hcz7_0, hcz7_1, hcz7_2, hfz7_0, hfz7_1, hfz7_2⟩ := cz3 BK160.1; have hnb8 := NB162_161.1; have hnc8 := NB161_162.1; obtain ⟨hcz9_0, hcz9_1, hcz9_2, hfz9_0, hfz9_1, hfz9_2⟩ := cz3 BK162.1; obtain ⟨hcz10_0, hcz10_1, hcz10_2, hfz10_0, hfz10_1, hfz10_2⟩ := cz3 BK161.1))
 refine bodyPost_ret (results_cell_row rfl _ _ gb161 86 #[.int .i64 a0_0, .int .i64 a0_1, .int .i64 a0_2] (0, 0) _ rfl (PF1 NB161_162.1 BK161.1) Tryd.underlying86 rfl (by kernel_rfl)) rfl ?_
 exact ⟨RF, BL HB.1⟩

/-! ### laws_toNodeS: function 49 -/
open Kd
def laws_toNodeS.l0 : Nat -> List (S105) -> List (S86) -> Int -> Option ((List (S86)))
 | 0, _, _, _ => none
 | k + 1, x0, x3, x4 => if x4 < (x0.length : Int) then (if 0 <= x4 then ((laws_toNode.f ((rd_T105 x0 x4).f0) ((rd_T105 x0 x4).f1) ((rd_T105 x0 x4).f2)).bind fun bt167 => (if x4 < (x3.length : Int) then (laws_toNodeS.l0 k x0 (x3.set (x4 : Int).toNat (⟨bt167.1, bt167.2.1, bt167.2.2⟩ : S86)) (wrap64 (x4 + 1))) else (none))) else (none)) else (some x3)
def laws_toNodeS.f (k : Nat) (l0 : List (S105)) : Option ((List (S86))) := if 0 <= (l0.length : Int) then (if ((l0.length : Int) : Int).toNat <= 11728124029610 then (laws_toNodeS.l0 k l0 (List.replicate ((l0.length : Int) : Int).toNat z86) 0) else (none)) else (none)
theorem laws_toNodeS.mono_l : ∀ k, (∀ y0 y1 y2, LeO (laws_toNodeS.l0 k y0 y1 y2) (laws_toNodeS.l0 (k + 1) y0 y1 y2))
 | 0 => fun _ _ _ r h => by simp [laws_toNodeS.l0] at h
 | k + 1 => by
  have ih0 := laws_toNodeS.mono_l k
  intros
  first | unfold laws_toNodeS.l0
  exact LM1 ih0
theorem laws_toNodeS.mono : ∀ a0 k, LeO (laws_toNodeS.f k a0) (laws_toNodeS.f (k + 1) a0) := by
 intro a0 k
 have ih0 := laws_toNodeS.mono_l k
 unfold laws_toNodeS.f
 exact LM1 ih0
theorem laws_toNodeS.calls (k : Nat) (A0 : Option Addr) (c0 : Nat) (l0 : List (S105)) (r : List (S86)) (w : World) (hr0 : Kd.C k105 w A0 l0.length l0) (hc0 : l0.length <= c0) (h : laws_toNodeS.f k l0 = some r) :
 Calls Tryd.prog 49 #[.slice A0 l0.length c0] w fun e w' => ∃ v0_ : Value, e = .returned (v0_) /\ Kd.R k86 86 w' w.heap.size (fun _ => True) v0_ r /\ Below w.heap.size w w' := by
 have hu105 := Tryd.underlying105
 have hu86 := Tryd.underlying86
 have HR0 := Aside0.mk hr0
 have HC0 := Aside0.mk hc0
 clear hr0 hc0
 have HB := Aside0.mk (Below.refl w.heap.size w)
 have H := h
 clear h
 unfold laws_toNodeS.f at H
 replace H := ifP H; obtain ⟨c2, H⟩ := H
 have c2b0 := eq_true c2
 have c2b1 := decide_eq_true c2
 clear c2
 replace H := ifP H; obtain ⟨c3, H⟩ := H
 have c3b0 := eq_true c3
 have c3b1 := decide_eq_true c3
 clear c3
 generalize hy163 : ((List.replicate ((l0.length : Int) : Int).toNat z86) : List (S86)) = y163 at H
 have Ny163 := Aside0.mk hy163.symm; clear hy163
 have H' := Aside0.mk H
 clear H
 go_enter Tryd.func49, Tryd.ntmps49
 go_wp2_with (first | ((with_reducible refine gate_dst (N := 7) rfl ?_); refine R_make k86 _ 86 rfl (N := 7) rfl 48 _ _ rfl (l0.length : Int) rfl rfl Tryd.underlying48 (.agg #[(.int .i64 0), (.int .i64 0), (.int .i64 0)]) 24 info86 rfl (by decide) (by omega) z86 (ok := fun _ => True) (okp := fun _ => True) (k86_mkM _ _ _ z86 ) (fun _ hk => hk) trivial (OD) (Nat.le_trans (Nat.mul_le_mul_right _ (OD : (l0.length : Int).toNat <= 11728124029610)) (by omega)) (Below.refl _ _) (Nat.le_refl _) ?_; intro v164 w4 ho5 hb hg_ hnew_; clear hg_ hnew_; (first | rw [<- Ny163.1] at ho5 | (simp only [Int.reduceToNat] at ho5; rw [<- Ny163.1] at ho5)); refine E2 (R_lower ho5 (bZ HB.1)) (bS HB.1 hb) ?_; clear HB; intro HO165 HB; clear hb ho5))
 go_loopg [4] k (fun kq v4 w' => ∃ (x3_1 : List (S86)) (x4_1 : Int), v4 = .int .i64 x4_1 /\ Aside0 (laws_toNodeS.l0 kq l0 x3_1 x4_1 = some r) /\ Aside0 (kq <= k) /\ Aside0 (Kd.R k86 86 w' w.heap.size (fun _ => True) v164 x3_1) /\ Aside0 (Below w.heap.size w w'))
 case atStart => exact ⟨(y163), (0), RG, H', ⟨Nat.le_refl _⟩, ⟨PR HO165.1⟩, ⟨BL HB.1⟩⟩
 clear H'
 clear c2b0 c2b1 c3b0 c3b1
 obtain ⟨x3_1, x4_1, rfl, HA, HK1, HO_3, HB⟩ := hrel
 cases gk with
 | zero => exact absurd HA.1 (by simp [laws_toNodeS.l0])
 | succ k1 => ?_
 have H := HA.1
 clear HA
 simp only [laws_toNodeS.l0] at H
 replace H := ifB H; rcases H with ⟨c6b0, H⟩ | ⟨c6b0, H⟩
 · replace H := ifN H; obtain ⟨c7b0, H⟩ := H
   replace H := bindA H; obtain ⟨⟨t167, t168, t169⟩, A8, H⟩ := H
   dsimp only at H
   replace H := ifN H; obtain ⟨c9b0, H⟩ := H
   generalize hy170 : ((x3_1.set (x4_1 : Int).toNat (⟨t167, t168, t169⟩ : S86)) : List (S86)) = y170 at H
   have Ny170 := Aside0.mk hy170.symm; clear hy170
   have H' := Aside0.mk H
   clear H
   have p166 : 0 <= (x4_1 : Int) := OD
   have q166 : x4_1 < (l0.length : Int) := OD
   obtain ⟨ad166, e166, hx166_0, hx166_1, hx166_2⟩ := at_T105 HR0.1 x4_1 p166 q166
   cases e166
   replace hx166_0 := (HB.1.cell (World.block_lt_of_cell? w _ hx166_0)).trans hx166_0
   replace hx166_1 := (HB.1.cell (World.block_lt_of_cell? w _ hx166_1)).trans hx166_1
   replace hx166_2 := (HB.1.cell (World.block_lt_of_cell? w _ hx166_2)).trans hx166_2
   replace p166 := eq_true p166
   replace q166 := eq_true q166
   go_wp2_with (first | ((with_reducible refine gate_callee (f := 67) rfl ?_); refine goesM (N := (some 20)) #[.agg #[.int .i64 ((rd_T105 l0 x4_1).f0), .int .i64 ((rd_T105 l0 x4_1).f1), .int .i64 ((rd_T105 l0 x4_1).f2)]] Tryd.func67 ?_; (with_reducible refine (laws_toNode.calls ((rd_T105 l0 x4_1).f0) ((rd_T105 l0 x4_1).f1) ((rd_T105 l0 x4_1).f2) t167 t168 t169 _ A8.1).mono ?_); rintro e w11 ⟨rfl, hb⟩; refine ⟨_, rfl, ?_⟩; refine E2 (rB HO_3.1 hb) (bS HB.1 hb) ?_; clear HO_3 HB; intro HO_3 HB; (try clear hb); have p10 : 0 <= (x4_1 : Int) := OD; have q10 : (x4_1 : Int) < ((x3_1.length : Int) : Int) := OD; obtain ⟨go10, co10, eo10, gb10, gl10, cl10, HG10⟩ := R_form HO_3.1 (by omega); (first | cases eo10 | (injection eo10 with ea_ en_ ec_; (first | subst ea_ | (injection ea_ with ea_; subst ea_)); subst ec_; clear en_)); have GB10 := Aside0.mk gb10; have GG10 := Aside0.mk HG10; clear gb10 gl10 HG10; obtain ⟨ce10, hcl10, hM10, hcc10, hfr10⟩ := R_elem HO_3.1 z86 (x4_1 : Int) p10 q10; obtain rfl := k86_openM hM10; have hx10_0 : w11.cell? ⟨go10, (x4_1 : Int).toNat * 3, none⟩ = some (.int .i64 ((rd_T86 x3_1 x4_1).f0)) := hcc10 0 _ rfl; have hx10_1 : w11.cell? ⟨go10, (x4_1 : Int).toNat * 3 + 1, none⟩ = some (.int .i64 ((rd_T86 x3_1 x4_1).f1)) := hcc10 1 _ rfl; have hx10_2 : w11.cell? ⟨go10, (x4_1 : Int).toNat * 3 + 2, none⟩ = some (.int .i64 ((rd_T86 x3_1 x4_1).f2)) := hcc10 2 _ rfl; have hf10_0 : w11.frozen? ⟨go10, (x4_1 : Int).toNat * 3, none⟩ = false := hfr10 0; have hf10_1 : w11.frozen? ⟨go10, (x4_1 : Int).toNat * 3 + 1, none⟩ = false := hfr10 1; have hf10_2 : w11.frozen? ⟨go10, (x4_1 : Int).toNat * 3 + 2, none⟩ = false := hfr10 2; (try clear hM10); clear hcl10 hcc10 hfr10; replace p10 := eq_true p10; replace q10 := eq_true q10; have HX12 := Aside0.mk (show Kd.R k86 86 w11 w.heap.size (fun _ => True) (.slice (some ⟨go10, 0, none⟩) x3_1.length co10) x3_1 from (PR HO_3.1)); obtain ⟨ce12, hcl12, hM12, hcc12, hfr12⟩ := R_elem HX12.1 z86 (x4_1 : Int) (OD) (by have h_ : (x4_1 : Int) < ((x3_1.length : Int) : Int) := OD; first | exact h_ | (have e_ := (R_reads' HO_3.1).1; omega) | simpa using h_); obtain rfl := k86_openM hM12; have HP12 := R_seg HX12.1 (x4_1 : Int) (OD) (by have h_ : (x4_1 : Int) < ((x3_1.length : Int) : Int) := OD; first | exact h_ | (have e_ := (R_reads' HO_3.1).1; omega) | simpa using h_) (seg := [.int .i64 t167, .int .i64 t168, .int .i64 t169]) (j := 0) hcl12 hcc12 (show 3 <= 3 from by decide) (x' := (⟨t167, t168, t169⟩ : S86)) (k86_mkM _ _ _ (⟨t167, t168, t169⟩ : S86) ) (fun _ hk => hk); have hx12_0 := hcc12 0 _ rfl; (try simp only [show (k86).sz = 3 from rfl, Nat.mul_one, Nat.add_zero] at hx12_0); have hf12_0 := hfr12 0; (try simp only [show (k86).sz = 3 from rfl, Nat.mul_one, Nat.add_zero] at hf12_0); have hx12_1 := hcc12 1 _ rfl; (try simp only [show (k86).sz = 3 from rfl, Nat.mul_one, Nat.add_zero] at hx12_1); have hf12_1 := hfr12 1; (try simp only [show (k86).sz = 3 from rfl, Nat.mul_one, Nat.add_zero] at hf12_1); have hx12_2 := hcc12 2 _ rfl; (try simp only [show (k86).sz = 3 from rfl, Nat.mul_one, Nat.add_zero] at hx12_2); have hf12_2 := hfr12 2; (try simp only [show (k86).sz = 3 from rfl, Nat.mul_one, Nat.add_zero] at hf12_2); clear hcl12 hcc12 hfr12) | ((with_reducible refine gate_store (t := 86) (p := 21) rfl ?_); refine storeE (t := 86) (p := 21) (w1 := (((w11.setCell ⟨go10, (x4_1 : Int).toNat * 3, none⟩ (.int .i64 t167)).setCell ⟨go10, (x4_1 : Int).toNat * 3 + 1, none⟩ (.int .i64 t168)).setCell ⟨go10, (x4_1 : Int).toNat * 3 + 2, none⟩ (.int .i64 t169))) ?_; intro w13 hw; have hg : w11.grownBy w13 (some go10) := (by rw [hw]; exact HP12.2); have hp_ : Kd.R k86 86 w13 w.heap.size (fun _ => True) (.slice (some ⟨go10, 0, none⟩) x3_1.length co10) y170 := (by rw [hw, Ny170.1]; exact HP12.1); clear HP12; refine E2 (hp_) ((by rw [hw]; exact below_set (below_set (below_set (HB.1) GB10.1) GB10.1) GB10.1 : Below w.heap.size w w13)) ?_; clear HO_3 HB; intro HO_3 HB; clear hg hw hp_))
   go_roundg k1
   case measure => have := HK1.1; omega
   case rel => exact ⟨(y170), (wrap64 (x4_1 + 1)), RG, H', ⟨by have := HK1.1; omega⟩, ⟨PR HO_3.1⟩, ⟨BL HB.1⟩⟩
 obtain rfl := Option.some.inj H
 go_wp2
 go_ret
 exact ⟨_, RF, RPE (HO_3.1), BL HB.1⟩
/-! ### laws_toDiagram: function 23 -/
open Kd
def laws_toDiagram.f (k : Nat) (a0_0 : Int) (l0_1 : List (S105)) (a0_2 : Int) : Option (Int × (List (S86)) × Int) := (laws_toNodeS.f k l0_1).bind fun t174 => (some (a0_0, t174, a0_2))
theorem laws_toDiagram.mono : ∀ a0 a1 a2 k, LeO (laws_toDiagram.f k a0 a1 a2) (laws_toDiagram.f (k + 1) a0 a1 a2) := by
 intro a0 a1 a2 k
 unfold laws_toDiagram.f
 repeat' first
  | (with_reducible exact laws_toNodeS.mono _ _)
  | (with_reducible exact LeO.refl _)
  | (with_reducible exact LeO.none _)
  | (with_reducible refine LeO.ite ?_ ?_)
  | (with_reducible refine LeO.bind ?_ (fun _ => ?_))
  | exact laws_toNodeS.mono _ _
  | exact LeO.none _
  | refine LeO.ite ?_ ?_
  | refine LeO.bind ?_ (fun _ => ?_)
theorem laws_toDiagram.calls (k : Nat) (a0_0 : Int) (A0_1 : Option Addr) (c0_1 : Nat) (l0_1 : List (S105)) (a0_2 : Int) (r1 : Int) (r2 : List (S86)) (r3 : Int) (w : World) (hr0_1 : Kd.C k105 w A0_1 l0_1.length l0_1) (hc0_1 : l0_1.length <= c0_1) (h : laws_toDiagram.f k a0_0 l0_1 a0_2 = some (r1, r2, r3)) :
 Calls Tryd.prog 23 #[.agg #[.int .i64 a0_0, .slice A0_1 l0_1.length c0_1, .int .i64 a0_2]] w fun e w' => ∃ v1_ : Value, e = .returned (.agg #[.int .i64 r1, v1_, .int .i64 r3]) /\ Kd.R k86 86 w' w.heap.size (fun _ => True) v1_ r2 /\ Below w.heap.size w w' := by
 have hu45 := Tryd.underlying45
 have hu50 := Tryd.underlying50
 have HR0_1 := Aside0.mk hr0_1
 have HC0_1 := Aside0.mk hc0_1
 clear hr0_1 hc0_1
 have HB := Aside0.mk (Below.refl w.heap.size w)
 have H := h
 clear h
 unfold laws_toDiagram.f at H
 replace H := bindA H; obtain ⟨t174, A2, H⟩ := H
 simp only [Option.some.injEq, Prod.mk.injEq] at H
 obtain ⟨rfl, rfl, rfl⟩ := H
 go_enter Tryd.func23, Tryd.ntmps23
 go_wp2_with (first | ((with_reducible refine gate_dst (N := 1) rfl ?_); refine boxE (cs := #[.int .i64 a0_0, .slice A0_1 l0_1.length c0_1, .int .i64 a0_2]) (t := 45) ?_; intro gb171 hg w3 hbox hb; refine E4b HB.1 hg hbox hb ?_; clear HB; intro HB BK171 GW171 GE171; clear hb hbox hg) | ((with_reducible refine gate_dst (N := 2) rfl ?_); refine boxE (cs := #[.int .i64 0, .slice none 0 0, .int .i64 0]) (t := 50) ?_; intro gb172 hg w4 hbox hb; refine E7 (bB BK171.1 hb) (bS HB.1 hb) (hbox) (gX HB.1 hg) (gX HB.1 hg) (nB BK171.1 hg) (nC BK171.1 hg) ?_; clear BK171 HB; intro BK171 HB BK172 GW172 GE172 NB171_172 NB172_171; clear hb hbox hg) | ((with_reducible refine gate_dst (N := 3) rfl ?_); refine boxE (cs := #[.int .i64 0, .slice none 0 0, .int .i64 0]) (t := 50) ?_; intro gb173 hg w5 hbox hb; refine E10 (bB BK171.1 hb) (bB BK172.1 hb) (bS HB.1 hb) (hbox) (gX HB.1 hg) (gX HB.1 hg) (nB BK171.1 hg) (nC BK171.1 hg) (nB BK172.1 hg) (nC BK172.1 hg) ?_; clear BK171 BK172 HB; intro BK171 BK172 HB BK173 GW173 GE173 NB171_173 NB173_171 NB172_173 NB173_172; clear hb hbox hg; have hnb6 := NB171_172.1; have hnc6 := NB172_171.1; have hnb7 := NB171_173.1; have hnc7 := NB173_171.1; obtain ⟨hcz8_0, hcz8_1, hcz8_2, hfz8_0, hfz8_1, hfz8_2⟩ := cz3 BK171.1; have hnb9 := NB173_172.1; have hnc9 := NB172_173.1; obtain ⟨hcz10_0, hcz10_1, hcz10_2, hfz10_0, hfz10_1, hfz10_2⟩ := cz3 BK173.1) | ((with_reducible refine gate_callee (f := 49) rfl ?_); refine goesM (N := (some 9)) #[.slice A0_1 l0_1.length c0_1] Tryd.func49 ?_; (with_reducible refine (laws_toNodeS.calls k _ _ l0_1 t174 _ ?side1 ?side2 A2.1).mono ?_); (case side1 => exact C_below HR0_1.1 (BL HB.1)); (case side2 => exact HC0_1.1); rintro e w11 ⟨v175, rfl, ho0, hb⟩; refine ⟨_, rfl, ?_⟩; refine E5 (R_lower ho0 (bZ HB.1)) (blk_below (g := gb171) (o := .cells #[.int .i64 a0_0, .slice A0_1 l0_1.length c0_1, .int .i64 a0_2] 45 (0, 0)) (PF1 NB171_173.1 BK171.1) hb) (blk_below (g := gb172) (o := .cells #[.int .i64 0, .slice none 0 0, .int .i64 0] 50 (0, 0)) (PF1 NB172_173.1 BK172.1) hb) (blk_below (g := gb173) (o := .cells #[.int .i64 a0_0, .slice none 0 0, .int .i64 0] 50 (0, 0)) (PF0 BK173.1) hb) (bS HB.1 hb) ?_; clear BK171 BK172 BK173 HB; intro HO176 BK171 BK172 BK173 HB; (try clear hb); (try clear ho0); obtain ⟨Ao12, co12, eo12⟩ := R_slice HO176.1; subst eo12; obtain ⟨hcz13_0, hcz13_1, hcz13_2, hfz13_0, hfz13_1, hfz13_2⟩ := cz3 BK173.1; obtain ⟨hcz14_0, hcz14_1, hcz14_2, hfz14_0, hfz14_1, hfz14_2⟩ := cz3 BK171.1; obtain ⟨hcz15_0, hcz15_1, hcz15_2, hfz15_0, hfz15_1, hfz15_2⟩ := cz3 BK172.1))
 refine bodyPost_ret (results_cell_row rfl _ _ gb172 50 #[.int .i64 a0_0, .slice Ao12 t174.length co12, .int .i64 a0_2] (0, 0) _ rfl (PF1 NB172_173.1 BK172.1) Tryd.underlying50 rfl (by kernel_rfl)) rfl ?_
 exact ⟨_, RF, by (with_reducible repeat (first | apply R_alloc | apply R_drewN | apply R_drew)); exact R_mono (RQ gb172 2 (RQ gb172 1 (RQ gb172 0 (R_far (p := ⟨gb173, 2, none⟩) (R_far (p := ⟨gb173, 1, none⟩) (R_types (R_types HO176.1 BK173.1 (by decide)) BK172.1 (by decide)) (fun _ hk => hk.1.2) (.slice Ao12 t174.length co12)) (fun _ hk => hk.1.2) (.int .i64 a0_2)) _) _) _) (fun _ hk => trivial), BL HB.1⟩

/-! ### strconv_Itoa_31: function 31 -/
open Kd
def strconv_Itoa_31.f (a0 : Int) : Option (ByteArray) := if 0 <= a0 then (if a0 < 100 then (some (⟨(Lib.decDigits a0.toNat).toArray⟩)) else (none)) else (none)
theorem strconv_Itoa_31.calls (a0 : Int) (r : ByteArray) (w : World) (h : strconv_Itoa_31.f a0 = some r) :
 Calls Tryd.prog 31 #[.int .i64 a0] w fun e w' => e = .returned (.string r) /\ Drawn0 w w' := by
 unfold strconv_Itoa_31.f at h
 by_cases h0 : 0 <= a0
 · by_cases h1 : a0 < 100
   · rw [if_pos h0, if_pos h1] at h
     injection h with h
     subst h
     obtain ⟨i, rfl⟩ := Int.eq_ofNat_of_zero_le h0
     refine (Tryd.strconv_Itoa_small i (by omega) w).mono ?_
     rintro e w' ⟨rfl, rfl⟩
     exact ⟨by rw [Int.toNat_natCast], Drawn0.refl _⟩
   · rw [if_pos h0, if_neg h1] at h
     exact absurd h (by simp)
 · rw [if_neg h0] at h
   exact absurd h (by simp)

/-! ### impl_goodReference: function 68 -/
open Kd
def impl_goodReference.f (a0_0 : Int) (l0_1 : List (S86)) (a0_2 : Int) (a1 : Int) (a2 : Int) : Option (Bool) := if a2 < 0 then (some false) else (if a2 ≥ (wrap64 (2 + a1)) then (some false) else (if a2 < 2 then (some true) else (if 0 <= a1 then (if a1 < (l0_1.length : Int) then (if 0 <= (wrap64 (a2 - 2)) then (if (wrap64 (a2 - 2)) < (l0_1.length : Int) then (some (decide (((rd_T86 l0_1 a1).f0) < ((rd_T86 l0_1 (wrap64 (a2 - 2))).f0)))) else (none)) else (none)) else (none)) else (none))))
theorem impl_goodReference.calls (a0_0 : Int) (A0_1 : Option Addr) (c0_1 : Nat) (l0_1 : List (S86)) (a0_2 : Int) (a1 : Int) (a2 : Int) (r : Bool) (w : World) (hr0_1 : Kd.C k86 w A0_1 l0_1.length l0_1) (hc0_1 : l0_1.length <= c0_1) (h : impl_goodReference.f a0_0 l0_1 a0_2 a1 a2 = some r) :
 Calls Tryd.prog 68 #[.agg #[.int .i64 a0_0, .slice A0_1 l0_1.length c0_1, .int .i64 a0_2], .int .i64 a1, .int .i64 a2] w fun e w' => e = .returned (.bool r) /\ Below w.heap.size w w' := by
 have hu50 := Tryd.underlying50
 have HR0_1 := Aside0.mk hr0_1
 have HC0_1 := Aside0.mk hc0_1
 clear hr0_1 hc0_1
 have HB := Aside0.mk (Below.refl w.heap.size w)
 have H := h
 clear h
 unfold impl_goodReference.f at H
 replace H := ifB H; rcases H with ⟨c4b0, H⟩ | ⟨c4b0, H⟩
 · obtain rfl := Option.some.inj H
   go_enter Tryd.func68, Tryd.ntmps68
   go_wp2_with (first | ((with_reducible refine gate_dst (N := 3) rfl ?_); refine boxE (cs := #[.int .i64 a0_0, .slice A0_1 l0_1.length c0_1, .int .i64 a0_2]) (t := 50) ?_; intro gb177 hg w5 hbox hb; refine E4b HB.1 hg hbox hb ?_; clear HB; intro HB BK177 GW177 GE177; clear hb hbox hg))
   repeat (go_quiet (first | ((with_reducible refine gate_dst (N := 3) rfl ?_); refine boxE (cs := #[.int .i64 a0_0, .slice A0_1 l0_1.length c0_1, .int .i64 a0_2]) (t := 50) ?_; intro gb177 hg w5 hbox hb; refine E4b HB.1 hg hbox hb ?_; clear HB; intro HB BK177 GW177 GE177; clear hb hbox hg)); try go_wp2_with (first | ((with_reducible refine gate_dst (N := 3) rfl ?_); refine boxE (cs := #[.int .i64 a0_0, .slice A0_1 l0_1.length c0_1, .int .i64 a0_2]) (t := 50) ?_; intro gb177 hg w5 hbox hb; refine E4b HB.1 hg hbox hb ?_; clear HB; intro HB BK177 GW177 GE177; clear hb hbox hg)))
   go_ret
   exact ⟨RF, BL HB.1⟩
 replace H := ifQ H; rcases H with ⟨c6, H⟩ | ⟨c6, H⟩
 · have c6b0 : decide ((wrap64 (2 + a1)) <= a2) = true := decide_eq_true c6
   clear c6
   obtain rfl := Option.some.inj H
   go_enter Tryd.func68, Tryd.ntmps68
   go_wp2_with (first | ((with_reducible refine gate_dst (N := 3) rfl ?_); refine boxE (cs := #[.int .i64 a0_0, .slice A0_1 l0_1.length c0_1, .int .i64 a0_2]) (t := 50) ?_; intro gb177 hg w7 hbox hb; refine E4b HB.1 hg hbox hb ?_; clear HB; intro HB BK177 GW177 GE177; clear hb hbox hg))
   repeat (go_quiet (first | ((with_reducible refine gate_dst (N := 3) rfl ?_); refine boxE (cs := #[.int .i64 a0_0, .slice A0_1 l0_1.length c0_1, .int .i64 a0_2]) (t := 50) ?_; intro gb177 hg w7 hbox hb; refine E4b HB.1 hg hbox hb ?_; clear HB; intro HB BK177 GW177 GE177; clear hb hbox hg)); try go_wp2_with (first | ((with_reducible refine gate_dst (N := 3) rfl ?_); refine boxE (cs := #[.int .i64 a0_0, .slice A0_1 l0_1.length c0_1, .int .i64 a0_2]) (t := 50) ?_; intro gb177 hg w7 hbox hb; refine E4b HB.1 hg hbox hb ?_; clear HB; intro HB BK177 GW177 GE177; clear hb hbox hg)))
   go_ret
   exact ⟨RF, BL HB.1⟩
 have c6b0 : decide ((wrap64 (2 + a1)) <= a2) = false := decide_eq_false c6
 clear c6
 replace H := ifB H; rcases H with ⟨c8b0, H⟩ | ⟨c8b0, H⟩
 · obtain rfl := Option.some.inj H
   go_enter Tryd.func68, Tryd.ntmps68
   go_wp2_with (first | ((with_reducible refine gate_dst (N := 3) rfl ?_); refine boxE (cs := #[.int .i64 a0_0, .slice A0_1 l0_1.length c0_1, .int .i64 a0_2]) (t := 50) ?_; intro gb177 hg w9 hbox hb; refine E4b HB.1 hg hbox hb ?_; clear HB; intro HB BK177 GW177 GE177; clear hb hbox hg))
   repeat (go_quiet (first | ((with_reducible refine gate_dst (N := 3) rfl ?_); refine boxE (cs := #[.int .i64 a0_0, .slice A0_1 l0_1.length c0_1, .int .i64 a0_2]) (t := 50) ?_; intro gb177 hg w9 hbox hb; refine E4b HB.1 hg hbox hb ?_; clear HB; intro HB BK177 GW177 GE177; clear hb hbox hg)); try go_wp2_with (first | ((with_reducible refine gate_dst (N := 3) rfl ?_); refine boxE (cs := #[.int .i64 a0_0, .slice A0_1 l0_1.length c0_1, .int .i64 a0_2]) (t := 50) ?_; intro gb177 hg w9 hbox hb; refine E4b HB.1 hg hbox hb ?_; clear HB; intro HB BK177 GW177 GE177; clear hb hbox hg)))
   go_ret
   exact ⟨RF, BL HB.1⟩
 replace H := ifN H; obtain ⟨c10b0, H⟩ := H
 replace H := ifN H; obtain ⟨c11b0, H⟩ := H
 obtain ⟨ji12, hji12⟩ : ∃ j_ : Int, (wrap64 (a2 - 2)) = j_ := ⟨_, rfl⟩
 replace H : (if 0 <= (ji12) then (if (ji12) < (l0_1.length : Int) then (some (decide (((rd_T86 l0_1 a1).f0) < ((rd_T86 l0_1 (ji12)).f0)))) else (none)) else (none)) = some r := by first | (rw [hji12] at H; exact H) | (simp only [hji12] at H ⊢; exact H)
 have hji12w : (IntKind.i64.wrap (a2 - 2)) = ji12 := (i64_w _).trans hji12
 replace H := ifN H; obtain ⟨c13b0, H⟩ := H
 replace H := ifN H; obtain ⟨c14b0, H⟩ := H
 obtain rfl := Option.some.inj H
 go_enter Tryd.func68, Tryd.ntmps68
 go_wp2_with (first | ((with_reducible refine gate_dst (N := 3) rfl ?_); refine boxE (cs := #[.int .i64 a0_0, .slice A0_1 l0_1.length c0_1, .int .i64 a0_2]) (t := 50) ?_; intro gb177 hg w15 hbox hb; refine E4b HB.1 hg hbox hb ?_; clear HB; intro HB BK177 GW177 GE177; clear hb hbox hg; obtain ⟨hcz16_0, hcz16_1, hcz16_2, hfz16_0, hfz16_1, hfz16_2⟩ := cz3 BK177.1; have p178 : 0 <= (a1 : Int) := OD; have q178 : a1 < (l0_1.length : Int) := OD; obtain ⟨ad178, e178, hx178_0, hx178_1, hx178_2⟩ := at_T86 HR0_1.1 a1 p178 q178; cases e178; replace hx178_0 := (HB.1.cell (World.block_lt_of_cell? w _ hx178_0)).trans hx178_0; replace hx178_1 := (HB.1.cell (World.block_lt_of_cell? w _ hx178_1)).trans hx178_1; replace hx178_2 := (HB.1.cell (World.block_lt_of_cell? w _ hx178_2)).trans hx178_2; replace p178 := eq_true p178; replace q178 := eq_true q178; have p179 : 0 <= ((ji12) : Int) := OD; have q179 : (ji12) < (l0_1.length : Int) := OD; obtain ⟨ad179, e179, hx179_0, hx179_1, hx179_2⟩ := at_T86 HR0_1.1 (ji12) p179 q179; obtain rfl : ad178 = ad179 := (by injection e179); replace hx179_0 := (HB.1.cell (World.block_lt_of_cell? w _ hx179_0)).trans hx179_0; replace hx179_1 := (HB.1.cell (World.block_lt_of_cell? w _ hx179_1)).trans hx179_1; replace hx179_2 := (HB.1.cell (World.block_lt_of_cell? w _ hx179_2)).trans hx179_2; replace p179 := eq_true p179; replace q179 := eq_true q179))
 repeat (go_quiet (first | ((with_reducible refine gate_dst (N := 3) rfl ?_); refine boxE (cs := #[.int .i64 a0_0, .slice A0_1 l0_1.length c0_1, .int .i64 a0_2]) (t := 50) ?_; intro gb177 hg w15 hbox hb; refine E4b HB.1 hg hbox hb ?_; clear HB; intro HB BK177 GW177 GE177; clear hb hbox hg; obtain ⟨hcz16_0, hcz16_1, hcz16_2, hfz16_0, hfz16_1, hfz16_2⟩ := cz3 BK177.1; have p178 : 0 <= (a1 : Int) := OD; have q178 : a1 < (l0_1.length : Int) := OD; obtain ⟨ad178, e178, hx178_0, hx178_1, hx178_2⟩ := at_T86 HR0_1.1 a1 p178 q178; cases e178; replace hx178_0 := (HB.1.cell (World.block_lt_of_cell? w _ hx178_0)).trans hx178_0; replace hx178_1 := (HB.1.cell (World.block_lt_of_cell? w _ hx178_1)).trans hx178_1; replace hx178_2 := (HB.1.cell (World.block_lt_of_cell? w _ hx178_2)).trans hx178_2; replace p178 := eq_true p178; replace q178 := eq_true q178; have p179 : 0 <= ((ji12) : Int) := OD; have q179 : (ji12) < (l0_1.length : Int) := OD; obtain ⟨ad179, e179, hx179_0, hx179_1, hx179_2⟩ := at_T86 HR0_1.1 (ji12) p179 q179; obtain rfl : ad178 = ad179 := (by injection e179); replace hx179_0 := (HB.1.cell (World.block_lt_of_cell? w _ hx179_0)).trans hx179_0; replace hx179_1 := (HB.1.cell (World.block_lt_of_cell? w _ hx179_1)).trans hx179_1; replace hx179_2 := (HB.1.cell (World.block_lt_of_cell? w _ hx179_2)).trans hx179_2; replace p179 := eq_true p179; replace q179 := eq_true q179)); try go_wp2_with (first | ((with_reducible refine gate_dst (N := 3) rfl ?_); refine boxE (cs := #[.int .i64 a0_0, .slice A0_1 l0_1.length c0_1, .int .i64 a0_2]) (t := 50) ?_; intro gb177 hg w15 hbox hb; refine E4b HB.1 hg hbox hb ?_; clear HB; intro HB BK177 GW177 GE177; clear hb hbox hg; obtain ⟨hcz16_0, hcz16_1, hcz16_2, hfz16_0, hfz16_1, hfz16_2⟩ := cz3 BK177.1; have p178 : 0 <= (a1 : Int) := OD; have q178 : a1 < (l0_1.length : Int) := OD; obtain ⟨ad178, e178, hx178_0, hx178_1, hx178_2⟩ := at_T86 HR0_1.1 a1 p178 q178; cases e178; replace hx178_0 := (HB.1.cell (World.block_lt_of_cell? w _ hx178_0)).trans hx178_0; replace hx178_1 := (HB.1.cell (World.block_lt_of_cell? w _ hx178_1)).trans hx178_1; replace hx178_2 := (HB.1.cell (World.block_lt_of_cell? w _ hx178_2)).trans hx178_2; replace p178 := eq_true p178; replace q178 := eq_true q178; have p179 : 0 <= ((ji12) : Int) := OD; have q179 : (ji12) < (l0_1.length : Int) := OD; obtain ⟨ad179, e179, hx179_0, hx179_1, hx179_2⟩ := at_T86 HR0_1.1 (ji12) p179 q179; obtain rfl : ad178 = ad179 := (by injection e179); replace hx179_0 := (HB.1.cell (World.block_lt_of_cell? w _ hx179_0)).trans hx179_0; replace hx179_1 := (HB.1.cell (World.block_lt_of_cell? w _ hx179_1)).trans hx179_1; replace hx179_2 := (HB.1.cell (World.block_lt_of_cell? w _ hx179_2)).trans hx179_2; replace p179 := eq_true p179; replace q179 := eq_true q179)))
 go_ret
 exact ⟨by first | rfl | (simp [errW_none, errW_some] <;> rfl) | (simp only [<- hji12]; first | rfl | (simp [errW_none, errW_some] <;> rfl)) | (simp [*, errW_none, errW_some] <;> rfl), BL HB.1⟩
end Go.Proofs.YtfekgidcnidijaaDoor.P
