-- PRINTED by print.py (a twelfth state) out of the translation. Not trusted: Lean checks it.
import Derived.Test.YtdkfgomjfigmbaaPx0
import Derived.Test.YtdkfgomjfigmbaaPx4
import Derived.Test.YtdkfgomjfigmbaaPx5
import Derived.Test.YtdkfgomjfigmbaaPx6
import Derived.Test.YtdkfgomjfigmbaaPx7
import Derived.Test.YtdkfgomjfigmbaaPx8
import Derived.Test.YtdkfgomjfigmbaaPx11
import Derived.Test.YtdkfgomjfigmbaaPx13
namespace Go.Proofs.Ytdkfgomjfigmbaa.P
open Go.RowKit Go.Proofs.YtdkfgomjfigmbaaW.PrintWords Go.Proofs.YtdkfgomjfigmbaaW.PrintLast Go.Proofs.YtdkfgomjfigmbaaW.PrintMore
attribute [local go_sem] max2_int min2_int max_two min_two max_three min_three max_four min_four   -- for this text's walks alone
set_option linter.unusedVariables false
set_option linter.unusedSimpArgs false

/-! ### spec_ttIndex: function 66 -/
open Kd
def spec_ttIndex.l0 : Nat -> Int -> List Int -> Int -> Int -> Option (Int)
 | 0, _, _, _, _ => none
 | k + 1, x3, x6, x7, x8 => if x8 < x7 then (if 0 <= x8 then (if x8 < (x6.length : Int) then (if 0 <= (IntKind.u64.wrap (x8)) then (spec_ttIndex.l0 k (wrap64 (x3 + (shl .i64 (rd x6 x8) (IntKind.u64.wrap (x8))))) x6 x7 (wrap64 (x8 + 1))) else (none)) else (none)) else (none)) else (some x3)
def spec_ttIndex.f (k : Nat) (l0 : List Int) : Option (Int) := spec_ttIndex.l0 k 0 l0 (l0.length : Int) 0
theorem spec_ttIndex.mono_l : ∀ k, (∀ y0 y1 y2 y3, LeO (spec_ttIndex.l0 k y0 y1 y2 y3) (spec_ttIndex.l0 (k + 1) y0 y1 y2 y3))
 | 0 => fun _ _ _ _ r h => by simp [spec_ttIndex.l0] at h
 | k + 1 => by
  have ih0 := spec_ttIndex.mono_l k
  intros
  first | unfold spec_ttIndex.l0
  repeat' first | (with_reducible first | apply ih0 | exact LeO.refl _ | exact LeO.none _ | refine LeO.ite ?_ ?_ | refine LeO.bind ?_ (fun _ => ?_)) | exact LeO.none _ | refine LeO.ite ?_ ?_ | refine LeO.bind ?_ (fun _ => ?_)
theorem spec_ttIndex.mono : ∀ a0 k, LeO (spec_ttIndex.f k a0) (spec_ttIndex.f (k + 1) a0) := by
 intro a0 k
 have ih0 := spec_ttIndex.mono_l k
 unfold spec_ttIndex.f
 repeat' first | (with_reducible first | apply ih0 | exact LeO.refl _ | exact LeO.none _ | refine LeO.ite ?_ ?_ | refine LeO.bind ?_ (fun _ => ?_)) | exact LeO.none _ | refine LeO.ite ?_ ?_ | refine LeO.bind ?_ (fun _ => ?_)
set_option maxHeartbeats 8000000 in
set_option maxRecDepth 100000 in
theorem spec_ttIndex.calls (k : Nat) (A0 : Option Addr) (c0 : Nat) (l0 : List Int) (r : Int) (w : World) (hr0 : Kd.C (Kd.int .i64) w A0 l0.length l0) (hc0 : l0.length <= c0) (h : spec_ttIndex.f k l0 = some r) :
 Calls Try.prog 66 #[.slice A0 l0.length c0] w fun e w' => e = .returned (.int .i64 r) /\ Drawn0 w w' := by
 have HR0 := Aside0.mk hr0
 have HC0 := Aside0.mk hc0
 clear hr0 hc0
 have H := h
 clear h
 unfold spec_ttIndex.f at H
 have H' := Aside0.mk H
 clear H
 go_enter Try.func66, Try.ntmps66
 go_wp2
 go_loopg [3, 8] k (fun kq v3 v8 w' => ∃ (x3_1 : Int) (x8_1 : Int), v3 = .int .i64 x3_1 /\ v8 = .int .i64 x8_1 /\ Aside0 (spec_ttIndex.l0 kq x3_1 l0 (l0.length : Int) x8_1 = some r) /\ Aside0 (kq <= k) /\ Drawn0 w w')
 case atStart => exact ⟨(0), (0), RG, RG, H', ⟨Nat.le_refl _⟩, DR⟩
 clear H'
 obtain ⟨x3_1, x8_1, rfl, rfl, HA, HK1, ⟨m1, rfl⟩⟩ := hrel
 cases gk with
 | zero => exact absurd HA.1 (by simp [spec_ttIndex.l0])
 | succ k1 => ?_
 have H := HA.1
 clear HA
 simp only [spec_ttIndex.l0] at H
 replace H := ifB H; rcases H with ⟨c2b0, H⟩ | ⟨c2b0, H⟩
 · replace H := ifN H; obtain ⟨c3b0, H⟩ := H
   replace H := ifN H; obtain ⟨c4b0, H⟩ := H
   obtain ⟨ji5, hji5⟩ : ∃ j_ : Int, (IntKind.u64.wrap (x8_1)) = j_ := ⟨_, rfl⟩
   replace H : (if 0 <= (ji5) then (spec_ttIndex.l0 k1 (wrap64 (x3_1 + (shl .i64 (rd l0 x8_1) (ji5)))) l0 (l0.length : Int) (wrap64 (x8_1 + 1))) else (none)) = some r := by first | (rw [hji5] at H; exact H) | (simp only [hji5] at H ⊢; exact H)
   replace H := ifP H; obtain ⟨c6, H⟩ := H
   have c6b0 := eq_true c6
   have c6b1 := decide_eq_true c6
   clear c6
   obtain ⟨ji7, hji7⟩ : ∃ j_ : Int, (shl .i64 (rd l0 x8_1) (ji5)) = j_ := ⟨_, rfl⟩
   replace H : (spec_ttIndex.l0 k1 (wrap64 (x3_1 + (ji7))) l0 (l0.length : Int) (wrap64 (x8_1 + 1))) = some r := by first | (rw [hji7] at H; exact H) | (simp only [hji7] at H ⊢; exact H)
   have hji7_ : (IntKind.i64.wrap ((rd l0 x8_1) * 2 ^ min (ji5).toNat 64)) = ji7 := hji7
   have hji7z : (ji5) <= 64 -> (IntKind.i64.wrap ((rd l0 x8_1) * 2 ^ (ji5).toNat)) = ji7 := shl_small hji7
   have hji7y : (wrap64 ((rd l0 x8_1) * 2 ^ min (ji5).toNat 64)) = ji7 := (i64_w _).symm.trans hji7_
   have hji7x : (ji5) <= 64 -> (wrap64 ((rd l0 x8_1) * 2 ^ (ji5).toNat)) = ji7 := fun h_ => (i64_w _).symm.trans (hji7z h_)
   have H' := Aside0.mk H
   clear H
   have p503 : 0 <= (x8_1 : Int) := OD
   have q503 : x8_1 < (l0.length : Int) := OD
   obtain ⟨ad503, e503, hx503_0⟩ := Kd.at_int HR0.1 x8_1 p503 q503
   cases e503
   replace p503 := eq_true p503
   replace q503 := eq_true q503
   go_wp2
   go_roundg k1
   case measure => have := HK1.1; omega
   case rel => exact ⟨(wrap64 (x3_1 + (ji7))), (wrap64 (x8_1 + 1)), (by first | rfl | (simp; done) | (simp only [<- hji7] <;> (first | rfl | simp)) | (simp [*]; done)), RG, H', ⟨by have := HK1.1; omega⟩, DR⟩
 obtain rfl := Option.some.inj H
 go_wp2
 go_ret
 exact ⟨RG, DR⟩
/-! ### spec_DiagramValue: function 34 -/
open Kd
def spec_DiagramValue.j0 : Nat -> List Int -> Bool -> Int -> List (S63) -> Int -> Option (Int × Bool)
 | 0, _, _, _, _, _ => none
 | k + 1, x1, x20, x505000, x505001, x505002 => if x20 = true then (some (0, false)) else ((spec_ttIndex.f k x1).bind fun t507 => ((spec_ddValue.f k x505000 x505001 x505002 t507).bind fun t508 => (some (t508, true))))
def spec_DiagramValue.f (k : Nat) (a0_0 : Int) (l0_1 : List (S63)) (a0_2 : Int) (l1 : List Int) : Option (Int × Bool) := (spec_ddGood.f k a0_0 l0_1 a0_2).bind fun t505 => (if t505 = true then (if (l1.length : Int) = a0_0 then ((spec_l1All.f k l1 0 1).bind fun t506 => (spec_DiagramValue.j0 k l1 (!t506) a0_0 l0_1 a0_2)) else (spec_DiagramValue.j0 k l1 true a0_0 l0_1 a0_2)) else (spec_DiagramValue.j0 k l1 true a0_0 l0_1 a0_2))
theorem spec_DiagramValue.mono_l : ∀ k, (∀ y0 y1 y2 y3 y4, LeO (spec_DiagramValue.j0 k y0 y1 y2 y3 y4) (spec_DiagramValue.j0 (k + 1) y0 y1 y2 y3 y4))
 | 0 => fun _ _ _ _ _ r h => by simp [spec_DiagramValue.j0] at h
 | k + 1 => by
  have ih0 := spec_DiagramValue.mono_l k
  intros
  first | unfold spec_DiagramValue.j0
  repeat' first | (with_reducible first | apply ih0 | apply spec_ddGood.mono | apply spec_ddValue.mono | apply spec_l1All.mono | apply spec_ttIndex.mono | exact LeO.refl _ | exact LeO.none _ | refine LeO.ite ?_ ?_ | refine LeO.bind ?_ (fun _ => ?_)) | exact LeO.none _ | refine LeO.ite ?_ ?_ | refine LeO.bind ?_ (fun _ => ?_)
theorem spec_DiagramValue.mono : ∀ a0 a1 a2 a3 k, LeO (spec_DiagramValue.f k a0 a1 a2 a3) (spec_DiagramValue.f (k + 1) a0 a1 a2 a3) := by
 intro a0 a1 a2 a3 k
 have ih0 := spec_DiagramValue.mono_l k
 unfold spec_DiagramValue.f
 repeat' first | (with_reducible first | apply ih0 | apply spec_ddGood.mono | apply spec_ddValue.mono | apply spec_l1All.mono | apply spec_ttIndex.mono | exact LeO.refl _ | exact LeO.none _ | refine LeO.ite ?_ ?_ | refine LeO.bind ?_ (fun _ => ?_)) | exact LeO.none _ | refine LeO.ite ?_ ?_ | refine LeO.bind ?_ (fun _ => ?_)
set_option maxHeartbeats 8000000 in
set_option maxRecDepth 100000 in
theorem spec_DiagramValue.calls (k : Nat) (a0_0 : Int) (A0_1 : Option Addr) (c0_1 : Nat) (l0_1 : List (S63)) (a0_2 : Int) (A1 : Option Addr) (c1 : Nat) (l1 : List Int) (r1 : Int) (r2 : Bool) (w : World) (hr0_1 : Kd.C k63 w A0_1 l0_1.length l0_1) (hc0_1 : l0_1.length <= c0_1) (hr1 : Kd.C (Kd.int .i64) w A1 l1.length l1) (hc1 : l1.length <= c1) (h : spec_DiagramValue.f k a0_0 l0_1 a0_2 l1 = some (r1, r2)) :
 Calls Try.prog 34 #[.agg #[.int .i64 a0_0, .slice A0_1 l0_1.length c0_1, .int .i64 a0_2], .slice A1 l1.length c1] w fun e w' => e = .returned (.tuple #[.int .i64 r1, .bool r2]) /\ Below w.heap.size w w' := by
 have hu29 := Try.underlying29
 have HR0_1 := Aside0.mk hr0_1
 have HC0_1 := Aside0.mk hc0_1
 clear hr0_1 hc0_1
 have HR1 := Aside0.mk hr1
 have HC1 := Aside0.mk hc1
 clear hr1 hc1
 have HB := Aside0.mk (Below.refl w.heap.size w)
 have H := h
 clear h
 unfold spec_DiagramValue.f at H
 have HC3 := Aside0.mk H
 clear H
 go_enter Try.func34, Try.ntmps34
 go_upto_region 1 with (first | ((with_reducible refine gate_dst (N := 2) rfl ?_); (try (refine gate_guard (by rfl) ?_; dsimp only)); refine boxE (cs := #[.int .i64 a0_0, .slice A0_1 l0_1.length c0_1, .int .i64 a0_2]) (t := 29) ?_; intro gb504 hg w4 hbox hb; refine E4b HB.1 hg hbox hb ?_; clear HB; intro HB BK504 GW504 GE504; clear hb hbox hg))
 (try simp only [Act.put, List.setIfInBounds_toArray, List.set_cons_zero, List.set_cons_succ])
 go_cut [20] (fun v20 wc => ∃ (kq : Nat) (x20_2 : Bool), v20 = .bool x20_2 /\ Aside0 (spec_DiagramValue.j0 kq l1 x20_2 a0_0 l0_1 a0_2 = some (r1, r2)) /\ Aside0 (kq <= k) /\ Aside0 (wc.heap[gb504]? = some (.cells #[.int .i64 a0_0, (.slice A0_1 l0_1.length c0_1), .int .i64 a0_2] 29 (0, 0))) /\ Aside0 (Below w.heap.size w wc))
 case first =>
  have H := HC3.1
  clear HC3
  replace H := bindA H; obtain ⟨t505, A5, H⟩ := H
  replace H := ifX H; rcases H with ⟨rfl, H⟩ | ⟨rfl, H⟩
  · replace H := ifQ H; rcases H with ⟨c7, H⟩ | ⟨c7, H⟩
    · have c7b0 := beq_iff_eq.mpr c7
      have c7b1 := bne_eq_false_iff_eq.mpr c7
      clear c7
      (first | rw [c7b0] | (simp only [i64_w, i32_w]; rw [c7b0]) | skip)
      replace H := bindA H; obtain ⟨t506, A8, H⟩ := H
      have H' := Aside0.mk H
      clear H
      obtain ⟨hcz9_0, hcz9_1, hcz9_2, hfz9_0, hfz9_1, hfz9_2⟩ := cz3 BK504.1
      go_wp2_with (first | ((with_reducible refine gate_callee (f := 45) rfl ?_); refine goesM (N := (some 7)) #[.agg #[.int .i64 a0_0, .slice A0_1 l0_1.length c0_1, .int .i64 a0_2]] Try.func45 ?_; (with_reducible refine (spec_ddGood.calls k a0_0 _ _ l0_1 a0_2 true _ ?side1 ?side2 A5.1).mono ?_); (case side1 => exact CB (C_below HR0_1.1 HB.1)); (case side2 => exact HC0_1.1); rintro e w10 ⟨rfl, hb⟩; refine ⟨_, rfl, ?_⟩; refine E2 (bB BK504.1 hb) (bS HB.1 hb) ?_; clear BK504 HB; intro BK504 HB; (try clear hb); obtain ⟨hcz11_0, hcz11_1, hcz11_2, hfz11_0, hfz11_1, hfz11_2⟩ := cz3 BK504.1) | (go_at_call 64; (with_reducible refine (spec_l1All.calls k _ _ l1 0 1 t506 _ ?side1 ?side2 A8.1).mono ?_); (case side1 => exact CB (C_below HR1.1 HB.1)); (case side2 => exact HC1.1); rintro e w' ⟨rfl, ⟨nd, rfl⟩⟩))
      go_meet
      case rel => exact ⟨_, (!t506), RG, H', ⟨by first | omega | exact Nat.le_refl _⟩, ⟨PB BK504.1⟩, ⟨BL HB.1⟩⟩
    have c7b0 := beq_eq_false_iff_ne.mpr c7
    have c7b1 := bne_iff_ne.mpr c7
    (first | rw [c7b0] | (simp only [i64_w, i32_w]; rw [c7b0]) | skip)
    have H' := Aside0.mk H
    clear H
    obtain ⟨hcz12_0, hcz12_1, hcz12_2, hfz12_0, hfz12_1, hfz12_2⟩ := cz3 BK504.1
    go_wp2_with (first | ((with_reducible refine gate_callee (f := 45) rfl ?_); refine goesM (N := (some 7)) #[.agg #[.int .i64 a0_0, .slice A0_1 l0_1.length c0_1, .int .i64 a0_2]] Try.func45 ?_; (with_reducible refine (spec_ddGood.calls k a0_0 _ _ l0_1 a0_2 true _ ?side1 ?side2 A5.1).mono ?_); (case side1 => exact CB (C_below HR0_1.1 HB.1)); (case side2 => exact HC0_1.1); rintro e w13 ⟨rfl, hb⟩; refine ⟨_, rfl, ?_⟩; refine E2 (bB BK504.1 hb) (bS HB.1 hb) ?_; clear BK504 HB; intro BK504 HB; (try clear hb); obtain ⟨hcz14_0, hcz14_1, hcz14_2, hfz14_0, hfz14_1, hfz14_2⟩ := cz3 BK504.1))
    go_meet
    case rel => exact ⟨_, (true), RG, H', ⟨by first | omega | exact Nat.le_refl _⟩, ⟨PB BK504.1⟩, ⟨BL HB.1⟩⟩
  have H' := Aside0.mk H
  clear H
  obtain ⟨hcz15_0, hcz15_1, hcz15_2, hfz15_0, hfz15_1, hfz15_2⟩ := cz3 BK504.1
  go_wp2_with (first | ((with_reducible refine gate_callee (f := 45) rfl ?_); refine goesM (N := (some 7)) #[.agg #[.int .i64 a0_0, .slice A0_1 l0_1.length c0_1, .int .i64 a0_2]] Try.func45 ?_; (with_reducible refine (spec_ddGood.calls k a0_0 _ _ l0_1 a0_2 false _ ?side1 ?side2 A5.1).mono ?_); (case side1 => exact CB (C_below HR0_1.1 HB.1)); (case side2 => exact HC0_1.1); rintro e w16 ⟨rfl, hb⟩; refine ⟨_, rfl, ?_⟩; refine E2 (bB BK504.1 hb) (bS HB.1 hb) ?_; clear BK504 HB; intro BK504 HB; (try clear hb)))
  go_meet
  case rel => exact ⟨_, (true), RG, H', ⟨by first | omega | exact Nat.le_refl _⟩, ⟨PB BK504.1⟩, ⟨BL HB.1⟩⟩
 clear HC3
 try clear c1
 obtain ⟨kq, x20_2, rfl, HA, HJ2, BK504, HB⟩ := hcut
 cases kq with
 | zero => exact absurd HA.1 (by simp [spec_DiagramValue.j0])
 | succ kj2 => ?_
 have H := HA.1
 clear HA
 simp only [spec_DiagramValue.j0] at H
 replace H := ifX H; rcases H with ⟨rfl, H⟩ | ⟨rfl, H⟩
 · simp only [Option.some.injEq, Prod.mk.injEq] at H
   obtain ⟨rfl, rfl⟩ := H
   go_wp2
   go_ret2
   exact ⟨RF, BL HB.1⟩
 replace H := bindA H; obtain ⟨t507, A18, H⟩ := H
 replace H := bindA H; obtain ⟨t508, A19, H⟩ := H
 simp only [Option.some.injEq, Prod.mk.injEq] at H
 obtain ⟨rfl, rfl⟩ := H
 try go_wp2
 refine E2 (blk_drew BK504.1) (below_drew1 HB.1) ?_
 clear BK504 HB
 intro BK504 HB
 refine start_ (n := 6) (S := fun w' => w'.cell? ⟨gb504, 0, none⟩ = some (.int .i64 a0_0) /\ w'.cell? ⟨gb504, 1, none⟩ = some (.slice A0_1 l0_1.length c0_1) /\ w'.cell? ⟨gb504, 2, none⟩ = some (.int .i64 a0_2)) (ds := []) #[Zz,Zz,Zz,Zz,Zz,Zz] (by kernel_rfl) rfl rfl ⟨(blk_cell BK504.1 0).trans rfl, (blk_cell BK504.1 1).trans rfl, (blk_cell BK504.1 2).trans rfl⟩ (fun hHeld => ?_)
 generalize wc.drew = w20 at BK504 HB hHeld ⊢
 refine pure_ (i := 1) (N := some 22) (v := ?_) (a' := ?_) #[Zz,Yy,Zz,Zz,Zz,Zz] rfl rfl (by kernel_rfl) (fun _ _ _ h => h) (Or.inl ⟨by rfl, ?_⟩) ?_ ?_
 rotate_left
 · intro w'
   go_simp
   with_reducible rfl
 rotate_left
 · simp only [Act.put, List.setIfInBounds_toArray, List.set_cons_zero, List.set_cons_succ, i64_w, i32_w]
   rfl
 refine takeF 0 (N := some 21) hHeld ?_
 refine one_ (i := 2) (N := some 23) #[Yy,Yy,Yy,Zz,Zz,Zz] rfl rfl (by kernel_rfl) (by decide) (fun K hK => ?_)
 refine goes_ Try.func66 (by kernel_rfl) rfl #[.slice A1 l1.length c1] (by rfl) rfl rfl (by (try simp only [List.map_toArray, List.map_cons, List.map_nil]); first | done | rfl | (simp only [List.length_drop, List.length_take]; rfl)) ?_
 with_reducible refine (spec_ttIndex.calls kj2 _ _ l1 t507 _ ?side1 ?side2 A18.1).mono ?_
 (case side1 => exact CB (C_below HR1.1 HB.1))
 (case side2 => exact HC1.1)
 rintro e w' ⟨rfl, ⟨nd, rfl⟩⟩
 refine ⟨_, rfl, ?_⟩
 refine hK.out _ _ ⟨(blk_cell BK504.1 0).trans rfl, (blk_cell BK504.1 1).trans rfl, (blk_cell BK504.1 2).trans rfl⟩ (fun hHeld => ?_)
 clear hK K
 refine norm_ (a' := ?_) ?_ ?_
 rotate_left
 · show Act.put _ (some 23) _ = _
   simp only [Act.put, List.setIfInBounds_toArray, List.set_cons_zero, List.set_cons_succ, i64_w, i32_w]
   rfl
 refine one_ (i := 3) (N := some 24) #[Yy,Yy,Yy,Yy,Zz,Zz] rfl rfl (by kernel_rfl) (by decide) (fun K hK => ?_)
 refine goes_ Try.func65 (by kernel_rfl) rfl #[.agg #[.int .i64 a0_0, .slice A0_1 l0_1.length c0_1, .int .i64 a0_2], .int .i64 t507] (by rfl) rfl rfl (by (try simp only [List.map_toArray, List.map_cons, List.map_nil]); first | done | rfl | (simp only [List.length_drop, List.length_take]; rfl)) ?_
 with_reducible refine (spec_ddValue.calls kj2 a0_0 _ _ l0_1 a0_2 t507 t508 _ ?side1 ?side2 A19.1).mono ?_
 (case side1 => repeat (first | exact (C_below HR0_1.1 (BL HB.1)) | (with_reducible refine C_alloc ?_ _) | (with_reducible refine C_drewN ?_ _) | (with_reducible refine C_drew ?_)))
 (case side2 => exact HC0_1.1)
 rintro e w21 ⟨rfl, hb⟩
 refine ⟨_, rfl, ?_⟩
 refine E2 (bB BK504.1 hb) (bS HB.1 hb) ?_
 clear BK504 HB
 intro BK504 HB
 (try clear hb)
 (try clear hb2)
 (try clear hk)
 (try clear hi)
 refine hK.out _ _ ⟨(blk_cell BK504.1 0).trans rfl, (blk_cell BK504.1 1).trans rfl, (blk_cell BK504.1 2).trans rfl⟩ (fun hHeld => ?_)
 clear hK K
 refine norm_ (a' := ?_) ?_ ?_
 rotate_left
 · show Act.put _ (some 24) _ = _
   simp only [Act.put, List.setIfInBounds_toArray, List.set_cons_zero, List.set_cons_succ, i64_w, i32_w]
   rfl
 refine pure_ (i := 4) (N := some 4) (v := ?_) (a' := ?_) #[Yy,Yy,Yy,Yy,Yy,Zz] rfl rfl (by kernel_rfl) (fun _ _ _ h => h) (Or.inl ⟨by rfl, ?_⟩) ?_ ?_
 rotate_left
 · intro w'
   go_simp
   with_reducible rfl
 rotate_left
 · simp only [Act.put, List.setIfInBounds_toArray, List.set_cons_zero, List.set_cons_succ, i64_w, i32_w]
   rfl
 refine pure_ (i := 5) (N := some 5) (v := ?_) (a' := ?_) #[Yy,Yy,Yy,Yy,Yy,Yy] rfl rfl (by kernel_rfl) (fun _ _ _ h => h) (Or.inl ⟨by rfl, ?_⟩) ?_ ?_
 rotate_left
 · intro w'
   go_simp
   with_reducible rfl
 rotate_left
 · simp only [Act.put, List.setIfInBounds_toArray, List.set_cons_zero, List.set_cons_succ, i64_w, i32_w]
   rfl
 refine done_ (by kernel_rfl) ?_
 try go_wp2
 go_ret2
 exact ⟨RF, BL HB.1⟩

/-! ### impl_DiagramValue: function 36 -/
open Kd
def impl_DiagramValue.f (k : Nat) (a0_0 : Int) (l0_1 : List (S63)) (a0_2 : Int) (l1 : List Int) : Option (Int × Bool) := (impl_IsDiagram.f k a0_0 l0_1 a0_2).bind fun t510 => (if t510 = true then (if (l1.length : Int) = a0_0 then ((impl_areBits.f k l1).bind fun t511 => (if t511 = true then ((impl_diagramValue.f k a0_0 l0_1 a0_2 l1).bind fun t512 => (some (t512, true))) else (some (0, false)))) else (some (0, false))) else (some (0, false)))
theorem impl_DiagramValue.mono : ∀ a0 a1 a2 a3 k, LeO (impl_DiagramValue.f k a0 a1 a2 a3) (impl_DiagramValue.f (k + 1) a0 a1 a2 a3) := by
 intro a0 a1 a2 a3 k
 unfold impl_DiagramValue.f
 repeat' first
  | (with_reducible exact impl_IsDiagram.mono _ _ _ _)
  | (with_reducible exact impl_areBits.mono _ _)
  | (with_reducible exact impl_diagramValue.mono _ _ _ _ _)
  | (with_reducible exact LeO.refl _)
  | (with_reducible exact LeO.none _)
  | (with_reducible refine LeO.ite ?_ ?_)
  | (with_reducible refine LeO.bind ?_ (fun _ => ?_))
  | exact impl_IsDiagram.mono _ _ _ _
  | exact impl_areBits.mono _ _
  | exact impl_diagramValue.mono _ _ _ _ _
  | exact LeO.none _
  | refine LeO.ite ?_ ?_
  | refine LeO.bind ?_ (fun _ => ?_)
set_option maxHeartbeats 8000000 in
set_option maxRecDepth 100000 in
theorem impl_DiagramValue.calls (k : Nat) (a0_0 : Int) (A0_1 : Option Addr) (c0_1 : Nat) (l0_1 : List (S63)) (a0_2 : Int) (A1 : Option Addr) (c1 : Nat) (l1 : List Int) (r1 : Int) (r2 : Bool) (w : World) (hr0_1 : Kd.C k63 w A0_1 l0_1.length l0_1) (hc0_1 : l0_1.length <= c0_1) (hr1 : Kd.C (Kd.int .i64) w A1 l1.length l1) (hc1 : l1.length <= c1) (h : impl_DiagramValue.f k a0_0 l0_1 a0_2 l1 = some (r1, r2)) :
 Calls Try.prog 36 #[.agg #[.int .i64 a0_0, .slice A0_1 l0_1.length c0_1, .int .i64 a0_2], .slice A1 l1.length c1] w fun e w' => e = .returned (.tuple #[.int .i64 r1, .bool r2]) /\ Below w.heap.size w w' := by
 have hu29 := Try.underlying29
 have HR0_1 := Aside0.mk hr0_1
 have HC0_1 := Aside0.mk hc0_1
 clear hr0_1 hc0_1
 have HR1 := Aside0.mk hr1
 have HC1 := Aside0.mk hc1
 clear hr1 hc1
 have HB := Aside0.mk (Below.refl w.heap.size w)
 have H := h
 clear h
 unfold impl_DiagramValue.f at H
 replace H := bindA H; obtain ⟨t510, A3, H⟩ := H
 replace H := ifX H; rcases H with ⟨rfl, H⟩ | ⟨rfl, H⟩
 · replace H := ifQ H; rcases H with ⟨c5, H⟩ | ⟨c5, H⟩
   · have c5b0 := beq_iff_eq.mpr c5
     have c5b1 := bne_eq_false_iff_eq.mpr c5
     clear c5
     replace H := bindA H; obtain ⟨t511, A6, H⟩ := H
     replace H := ifX H; rcases H with ⟨rfl, H⟩ | ⟨rfl, H⟩
     · replace H := bindA H; obtain ⟨t512, A8, H⟩ := H
       simp only [Option.some.injEq, Prod.mk.injEq] at H
       obtain ⟨rfl, rfl⟩ := H
       go_enter Try.func36, Try.ntmps36
       go_wp2_with (first | ((with_reducible refine gate_dst (N := 2) rfl ?_); (try (refine gate_guard (by rfl) ?_; dsimp only)); refine boxE (cs := #[.int .i64 a0_0, .slice A0_1 l0_1.length c0_1, .int .i64 a0_2]) (t := 29) ?_; intro gb509 hg w9 hbox hb; refine E4b HB.1 hg hbox hb ?_; clear HB; intro HB BK509 GW509 GE509; clear hb hbox hg; obtain ⟨hcz10_0, hcz10_1, hcz10_2, hfz10_0, hfz10_1, hfz10_2⟩ := cz3 BK509.1) | ((with_reducible refine gate_callee (f := 15) rfl ?_); refine goesM (N := (some 7)) #[.agg #[.int .i64 a0_0, .slice A0_1 l0_1.length c0_1, .int .i64 a0_2]] Try.func15 ?_; (with_reducible refine (impl_IsDiagram.calls k a0_0 _ _ l0_1 a0_2 true _ ?side1 ?side2 A3.1).mono ?_); (case side1 => exact CB (C_below HR0_1.1 HB.1)); (case side2 => exact HC0_1.1); rintro e w11 ⟨rfl, hb⟩; refine ⟨_, rfl, ?_⟩; refine E2 (bB BK509.1 hb) (bS HB.1 hb) ?_; clear BK509 HB; intro BK509 HB; (try clear hb); obtain ⟨hcz12_0, hcz12_1, hcz12_2, hfz12_0, hfz12_1, hfz12_2⟩ := cz3 BK509.1) | (go_at_call 67; (with_reducible refine (impl_areBits.calls k _ _ l1 true _ ?side1 ?side2 A6.1).mono ?_); (case side1 => exact CB (C_below HR1.1 HB.1)); (case side2 => exact HC1.1); rintro e w' ⟨rfl, ⟨nd, rfl⟩⟩) | ((with_reducible refine gate_callee (f := 68) rfl ?_); refine goesM (N := (some 23)) #[.agg #[.int .i64 a0_0, .slice A0_1 l0_1.length c0_1, .int .i64 a0_2], .slice A1 l1.length c1] Try.func68 ?_; (with_reducible refine (impl_diagramValue.calls k a0_0 _ _ l0_1 a0_2 _ _ l1 t512 _ ?side1 ?side2 ?side3 ?side4 A8.1).mono ?_); (case side1 => repeat (first | exact (C_below HR0_1.1 (BL HB.1)) | (with_reducible refine C_alloc ?_ _) | (with_reducible refine C_drewN ?_ _) | (with_reducible refine C_drew ?_))); (case side2 => exact HC0_1.1); (case side3 => repeat (first | exact (C_below HR1.1 (BL HB.1)) | (with_reducible refine C_alloc ?_ _) | (with_reducible refine C_drewN ?_ _) | (with_reducible refine C_drew ?_))); (case side4 => exact HC1.1); rintro e w13 ⟨rfl, hb⟩; refine ⟨_, rfl, ?_⟩; refine E2 (bB BK509.1 hb) (bS HB.1 hb) ?_; clear BK509 HB; intro BK509 HB; (try clear hb)))
       go_ret2
       exact ⟨RF, BL HB.1⟩
     simp only [Option.some.injEq, Prod.mk.injEq] at H
     obtain ⟨rfl, rfl⟩ := H
     go_enter Try.func36, Try.ntmps36
     go_wp2_with (first | ((with_reducible refine gate_dst (N := 2) rfl ?_); (try (refine gate_guard (by rfl) ?_; dsimp only)); refine boxE (cs := #[.int .i64 a0_0, .slice A0_1 l0_1.length c0_1, .int .i64 a0_2]) (t := 29) ?_; intro gb509 hg w14 hbox hb; refine E4b HB.1 hg hbox hb ?_; clear HB; intro HB BK509 GW509 GE509; clear hb hbox hg; obtain ⟨hcz15_0, hcz15_1, hcz15_2, hfz15_0, hfz15_1, hfz15_2⟩ := cz3 BK509.1) | ((with_reducible refine gate_callee (f := 15) rfl ?_); refine goesM (N := (some 7)) #[.agg #[.int .i64 a0_0, .slice A0_1 l0_1.length c0_1, .int .i64 a0_2]] Try.func15 ?_; (with_reducible refine (impl_IsDiagram.calls k a0_0 _ _ l0_1 a0_2 true _ ?side1 ?side2 A3.1).mono ?_); (case side1 => exact CB (C_below HR0_1.1 HB.1)); (case side2 => exact HC0_1.1); rintro e w16 ⟨rfl, hb⟩; refine ⟨_, rfl, ?_⟩; refine E2 (bB BK509.1 hb) (bS HB.1 hb) ?_; clear BK509 HB; intro BK509 HB; (try clear hb); obtain ⟨hcz17_0, hcz17_1, hcz17_2, hfz17_0, hfz17_1, hfz17_2⟩ := cz3 BK509.1) | (go_at_call 67; (with_reducible refine (impl_areBits.calls k _ _ l1 false _ ?side1 ?side2 A6.1).mono ?_); (case side1 => exact CB (C_below HR1.1 HB.1)); (case side2 => exact HC1.1); rintro e w' ⟨rfl, ⟨nd, rfl⟩⟩))
     go_ret2
     exact ⟨RF, BL HB.1⟩
   have c5b0 := beq_eq_false_iff_ne.mpr c5
   have c5b1 := bne_iff_ne.mpr c5
   simp only [Option.some.injEq, Prod.mk.injEq] at H
   obtain ⟨rfl, rfl⟩ := H
   go_enter Try.func36, Try.ntmps36
   go_wp2_with (first | ((with_reducible refine gate_dst (N := 2) rfl ?_); (try (refine gate_guard (by rfl) ?_; dsimp only)); refine boxE (cs := #[.int .i64 a0_0, .slice A0_1 l0_1.length c0_1, .int .i64 a0_2]) (t := 29) ?_; intro gb509 hg w18 hbox hb; refine E4b HB.1 hg hbox hb ?_; clear HB; intro HB BK509 GW509 GE509; clear hb hbox hg; obtain ⟨hcz19_0, hcz19_1, hcz19_2, hfz19_0, hfz19_1, hfz19_2⟩ := cz3 BK509.1) | ((with_reducible refine gate_callee (f := 15) rfl ?_); refine goesM (N := (some 7)) #[.agg #[.int .i64 a0_0, .slice A0_1 l0_1.length c0_1, .int .i64 a0_2]] Try.func15 ?_; (with_reducible refine (impl_IsDiagram.calls k a0_0 _ _ l0_1 a0_2 true _ ?side1 ?side2 A3.1).mono ?_); (case side1 => exact CB (C_below HR0_1.1 HB.1)); (case side2 => exact HC0_1.1); rintro e w20 ⟨rfl, hb⟩; refine ⟨_, rfl, ?_⟩; refine E2 (bB BK509.1 hb) (bS HB.1 hb) ?_; clear BK509 HB; intro BK509 HB; (try clear hb); obtain ⟨hcz21_0, hcz21_1, hcz21_2, hfz21_0, hfz21_1, hfz21_2⟩ := cz3 BK509.1))
   go_ret2
   exact ⟨RF, BL HB.1⟩
 simp only [Option.some.injEq, Prod.mk.injEq] at H
 obtain ⟨rfl, rfl⟩ := H
 go_enter Try.func36, Try.ntmps36
 go_wp2_with (first | ((with_reducible refine gate_dst (N := 2) rfl ?_); (try (refine gate_guard (by rfl) ?_; dsimp only)); refine boxE (cs := #[.int .i64 a0_0, .slice A0_1 l0_1.length c0_1, .int .i64 a0_2]) (t := 29) ?_; intro gb509 hg w22 hbox hb; refine E4b HB.1 hg hbox hb ?_; clear HB; intro HB BK509 GW509 GE509; clear hb hbox hg; obtain ⟨hcz23_0, hcz23_1, hcz23_2, hfz23_0, hfz23_1, hfz23_2⟩ := cz3 BK509.1) | ((with_reducible refine gate_callee (f := 15) rfl ?_); refine goesM (N := (some 7)) #[.agg #[.int .i64 a0_0, .slice A0_1 l0_1.length c0_1, .int .i64 a0_2]] Try.func15 ?_; (with_reducible refine (impl_IsDiagram.calls k a0_0 _ _ l0_1 a0_2 false _ ?side1 ?side2 A3.1).mono ?_); (case side1 => exact CB (C_below HR0_1.1 HB.1)); (case side2 => exact HC0_1.1); rintro e w24 ⟨rfl, hb⟩; refine ⟨_, rfl, ?_⟩; refine E2 (bB BK509.1 hb) (bS HB.1 hb) ?_; clear BK509 HB; intro BK509 HB; (try clear hb)))
 go_ret2
 exact ⟨RF, BL HB.1⟩

/-! ### laws_FnExactDiagramValue: function 8 -/
open Kd
def laws_FnExactDiagramValue.j0 : Nat -> List Int -> List Int -> Bool -> Int -> List (S86) -> Int -> Int -> List (S63) -> Int -> Option (Bool)
 | 0, _, _, _, _, _, _, _, _, _ => none
 | k + 1, x1, x9, x45, x514000, x514001, x514002, x531000, x531001, x531002 => if x45 = true then (some false) else ((laws_toDiagram.f k x514000 x514001 x514002).bind fun bt536 => ((laws_eqDiagram.f k x531000 x531001 x531002 bt536.1 bt536.2.1 bt536.2.2).bind fun t541 => (if t541 = true then ((laws_toIntS.f k x1).bind fun t542 => ((laws_eqIntS.f k x9 t542).bind fun t545 => (if t545 = true then (some true) else (some false)))) else (some false))))
def laws_FnExactDiagramValue.f (k : Nat) (a0_0 : Int) (l0_1 : List (S86)) (a0_2 : Int) (l1 : List Int) : Option (Bool) := if (l1.length : Int) > 1048576 then (some true) else ((laws_szDiagram.f a0_0 l0_1 a0_2 1048576).bind fun t514 => (if t514 < 0 then (some true) else ((laws_toDiagram.f k a0_0 l0_1 a0_2).bind fun bt515 => ((laws_toIntS.f k l1).bind fun t520 => ((spec_DiagramValue.f k bt515.1 bt515.2.1 bt515.2.2 t520).bind fun bt523 => ((laws_toDiagram.f k a0_0 l0_1 a0_2).bind fun bt525 => ((laws_toIntS.f k l1).bind fun t531 => ((impl_DiagramValue.f k bt525.1 bt525.2.1 bt525.2.2 t531).bind fun bt534 => (if bt534.1 = bt523.1 then (laws_FnExactDiagramValue.j0 k l1 t531 (bt534.2 != bt523.2) a0_0 l0_1 a0_2 bt525.1 bt525.2.1 bt525.2.2) else (laws_FnExactDiagramValue.j0 k l1 t531 true a0_0 l0_1 a0_2 bt525.1 bt525.2.1 bt525.2.2))))))))))
theorem laws_FnExactDiagramValue.mono_l : ∀ k, (∀ y0 y1 y2 y3 y4 y5 y6 y7 y8, LeO (laws_FnExactDiagramValue.j0 k y0 y1 y2 y3 y4 y5 y6 y7 y8) (laws_FnExactDiagramValue.j0 (k + 1) y0 y1 y2 y3 y4 y5 y6 y7 y8))
 | 0 => fun _ _ _ _ _ _ _ _ _ r h => by simp [laws_FnExactDiagramValue.j0] at h
 | k + 1 => by
  have ih0 := laws_FnExactDiagramValue.mono_l k
  intros
  first | unfold laws_FnExactDiagramValue.j0
  repeat' first | (with_reducible first | apply ih0 | apply impl_DiagramValue.mono | apply laws_eqDiagram.mono | apply laws_eqIntS.mono | apply laws_toDiagram.mono | apply laws_toIntS.mono | apply spec_DiagramValue.mono | exact LeO.refl _ | exact LeO.none _ | refine LeO.ite ?_ ?_ | refine LeO.bind ?_ (fun _ => ?_)) | exact LeO.none _ | refine LeO.ite ?_ ?_ | refine LeO.bind ?_ (fun _ => ?_)
theorem laws_FnExactDiagramValue.mono : ∀ a0 a1 a2 a3 k, LeO (laws_FnExactDiagramValue.f k a0 a1 a2 a3) (laws_FnExactDiagramValue.f (k + 1) a0 a1 a2 a3) := by
 intro a0 a1 a2 a3 k
 have ih0 := laws_FnExactDiagramValue.mono_l k
 unfold laws_FnExactDiagramValue.f
 repeat' first | (with_reducible first | apply ih0 | apply impl_DiagramValue.mono | apply laws_eqDiagram.mono | apply laws_eqIntS.mono | apply laws_toDiagram.mono | apply laws_toIntS.mono | apply spec_DiagramValue.mono | exact LeO.refl _ | exact LeO.none _ | refine LeO.ite ?_ ?_ | refine LeO.bind ?_ (fun _ => ?_)) | exact LeO.none _ | refine LeO.ite ?_ ?_ | refine LeO.bind ?_ (fun _ => ?_)
set_option maxHeartbeats 8000000 in
set_option maxRecDepth 100000 in
theorem laws_FnExactDiagramValue.calls (k : Nat) (a0_0 : Int) (A0_1 : Option Addr) (c0_1 : Nat) (l0_1 : List (S86)) (a0_2 : Int) (A1 : Option Addr) (c1 : Nat) (l1 : List Int) (w : World) (hr0_1 : Kd.C k86 w A0_1 l0_1.length l0_1) (hc0_1 : l0_1.length <= c0_1) (hr1 : Kd.C (Kd.int .i64) w A1 l1.length l1) (hc1 : l1.length <= c1) (h : laws_FnExactDiagramValue.f k a0_0 l0_1 a0_2 l1 = some true) :
 Calls Try.prog 8 #[.agg #[.int .i64 a0_0, .slice A0_1 l0_1.length c0_1, .int .i64 a0_2], .slice A1 l1.length c1] w fun e w' => e = .returned (.bool true) /\ Below w.heap.size w w' := by
 have hu24 := Try.underlying24
 have hu29 := Try.underlying29
 have HR0_1 := Aside0.mk hr0_1
 have HC0_1 := Aside0.mk hc0_1
 clear hr0_1 hc0_1
 have HR1 := Aside0.mk hr1
 have HC1 := Aside0.mk hc1
 clear hr1 hc1
 have HB := Aside0.mk (Below.refl w.heap.size w)
 have H := h
 clear h
 unfold laws_FnExactDiagramValue.f at H
 replace H := ifQ H; rcases H with ⟨c3, H⟩ | ⟨c3, H⟩
 · have c3b0 : decide (1048576 < (l1.length : Int)) = true := decide_eq_true c3
   have c3b1 : decide (1048576 < l1.length) = true := decide_eq_true (by omega)
   clear c3
   first | (obtain rfl := Option.some.inj H) | clear H
   go_enter Try.func8, Try.ntmps8
   go_wp2_with (first | ((with_reducible refine gate_dst (N := 2) rfl ?_); refine boxE (cs := #[.int .i64 a0_0, .slice A0_1 l0_1.length c0_1, .int .i64 a0_2]) (t := 24) ?_; intro gb513 hg w4 hbox hb; refine E4b HB.1 hg hbox hb ?_; clear HB; intro HB BK513 GW513 GE513; clear hb hbox hg))
   go_ret
   exact ⟨RF, BL HB.1⟩
 have c3b0 : decide (1048576 < (l1.length : Int)) = false := decide_eq_false c3
 have c3b1 : decide (1048576 < l1.length) = false := decide_eq_false (by omega)
 clear c3
 replace H := bindA H; obtain ⟨t514, A5, H⟩ := H
 replace H := ifB H; rcases H with ⟨c6b0, H⟩ | ⟨c6b0, H⟩
 · first | (obtain rfl := Option.some.inj H) | clear H
   go_enter Try.func8, Try.ntmps8
   go_wp2_with (first | ((with_reducible refine gate_dst (N := 2) rfl ?_); refine boxE (cs := #[.int .i64 a0_0, .slice A0_1 l0_1.length c0_1, .int .i64 a0_2]) (t := 24) ?_; intro gb513 hg w7 hbox hb; refine E4b HB.1 hg hbox hb ?_; clear HB; intro HB BK513 GW513 GE513; clear hb hbox hg; obtain ⟨hcz8_0, hcz8_1, hcz8_2, hfz8_0, hfz8_1, hfz8_2⟩ := cz3 BK513.1) | ((with_reducible refine gate_callee (f := 12) rfl ?_); refine goesM (N := (some 17)) #[.agg #[.int .i64 a0_0, .slice A0_1 l0_1.length c0_1, .int .i64 a0_2], .int .i64 1048576] Try.func12 ?_; (with_reducible refine (laws_szDiagram.calls a0_0 _ _ l0_1 a0_2 1048576 t514 _ ?side1 ?side2 A5.1).mono ?_); (case side1 => exact CB (C_below HR0_1.1 HB.1)); (case side2 => exact HC0_1.1); rintro e w9 ⟨rfl, hb⟩; refine ⟨_, rfl, ?_⟩; refine E2 (bB BK513.1 hb) (bS HB.1 hb) ?_; clear BK513 HB; intro BK513 HB; (try clear hb)))
   go_ret
   exact ⟨RF, BL HB.1⟩
 replace H := bindA H; obtain ⟨⟨t515, t516, t519⟩, A10, H⟩ := H
 dsimp only at H
 replace H := bindA H; obtain ⟨t520, A11, H⟩ := H
 replace H := bindA H; obtain ⟨⟨t523, t524⟩, A12, H⟩ := H
 dsimp only at H
 replace H := bindA H; obtain ⟨⟨t525, t526, t529⟩, A13, H⟩ := H
 dsimp only at H
 replace H := bindA H; obtain ⟨t531, A14, H⟩ := H
 replace H := bindA H; obtain ⟨⟨t534, t535⟩, A15, H⟩ := H
 dsimp only at H
 have HC16 := Aside0.mk H
 clear H
 go_enter Try.func8, Try.ntmps8
 go_upto_region 11 with (first | ((with_reducible refine gate_dst (N := 2) rfl ?_); refine boxE (cs := #[.int .i64 a0_0, .slice A0_1 l0_1.length c0_1, .int .i64 a0_2]) (t := 24) ?_; intro gb513 hg w17 hbox hb; refine E4b HB.1 hg hbox hb ?_; clear HB; intro HB BK513 GW513 GE513; clear hb hbox hg; obtain ⟨hcz18_0, hcz18_1, hcz18_2, hfz18_0, hfz18_1, hfz18_2⟩ := cz3 BK513.1) | ((with_reducible refine gate_callee (f := 12) rfl ?_); refine goesM (N := (some 17)) #[.agg #[.int .i64 a0_0, .slice A0_1 l0_1.length c0_1, .int .i64 a0_2], .int .i64 1048576] Try.func12 ?_; (with_reducible refine (laws_szDiagram.calls a0_0 _ _ l0_1 a0_2 1048576 t514 _ ?side1 ?side2 A5.1).mono ?_); (case side1 => exact CB (C_below HR0_1.1 HB.1)); (case side2 => exact HC0_1.1); rintro e w19 ⟨rfl, hb⟩; refine ⟨_, rfl, ?_⟩; refine E2 (bB BK513.1 hb) (bS HB.1 hb) ?_; clear BK513 HB; intro BK513 HB; (try clear hb); obtain ⟨hcz20_0, hcz20_1, hcz20_2, hfz20_0, hfz20_1, hfz20_2⟩ := cz3 BK513.1) | ((with_reducible refine gate_callee (f := 14) rfl ?_); refine goesM (N := (some 22)) #[.agg #[.int .i64 a0_0, .slice A0_1 l0_1.length c0_1, .int .i64 a0_2]] Try.func14 ?_; (with_reducible refine (laws_toDiagram.calls k a0_0 _ _ l0_1 a0_2 t515 t516 t519 _ ?side1 ?side2 A10.1).mono ?_); (case side1 => exact CB (C_below HR0_1.1 HB.1)); (case side2 => exact HC0_1.1); rintro e w21 ⟨v517, rfl, ho0, hb⟩; refine ⟨_, rfl, ?_⟩; refine E3 (R_lower ho0 (bZ HB.1)) (bB BK513.1 hb) (bS HB.1 hb) ?_; clear BK513 HB; intro HO518 BK513 HB; (try clear hb); (try clear ho0)) | ((with_reducible refine gate_callee (f := 35) rfl ?_); refine goesM (N := (some 24)) #[.slice A1 l1.length c1] Try.func35 ?_; (with_reducible refine (laws_toIntS.calls k _ _ l1 t520 _ ?side1 ?side2 A11.1).mono ?_); (case side1 => exact CB (C_below HR1.1 HB.1)); (case side2 => exact HC1.1); rintro e w22 ⟨v521, rfl, ho0, hb⟩; refine ⟨_, rfl, ?_⟩; refine E4 (rB HO518.1 hb) (R_lower ho0 (bZ HB.1)) (bB BK513.1 hb) (bS HB.1 hb) ?_; clear HO518 BK513 HB; intro HO518 HO522 BK513 HB; (try clear hb); (try clear ho0); obtain ⟨Ao23, co23, eo23⟩ := R_slice HO518.1; subst eo23; obtain ⟨Ao24, co24, eo24⟩ := R_slice HO522.1; subst eo24) | ((with_reducible refine gate_callee (f := 34) rfl ?_); refine goesM (N := (some 25)) #[.agg #[.int .i64 t515, .slice Ao23 t516.length co23, .int .i64 t519], .slice Ao24 t520.length co24] Try.func34 ?_; (with_reducible refine (spec_DiagramValue.calls k t515 _ _ t516 t519 _ _ t520 t523 t524 _ ?side1 ?side2 ?side3 ?side4 A12.1).mono ?_); (case side1 => exact CB (R_reads' HO518.1).2.2); (case side2 => exact (R_reads' HO518.1).2.1); (case side3 => exact CB (R_reads' HO522.1).2.2); (case side4 => exact (R_reads' HO522.1).2.1); rintro e w25 ⟨rfl, hb⟩; refine ⟨_, rfl, ?_⟩; refine E4 (rB HO518.1 hb) (rB HO522.1 hb) (bB BK513.1 hb) (bS HB.1 hb) ?_; clear HO518 HO522 BK513 HB; intro HO518 HO522 BK513 HB; (try clear hb); obtain ⟨hcz26_0, hcz26_1, hcz26_2, hfz26_0, hfz26_1, hfz26_2⟩ := cz3 BK513.1) | ((with_reducible refine gate_callee (f := 14) rfl ?_); refine goesM (N := (some 29)) #[.agg #[.int .i64 a0_0, .slice A0_1 l0_1.length c0_1, .int .i64 a0_2]] Try.func14 ?_; (with_reducible refine (laws_toDiagram.calls k a0_0 _ _ l0_1 a0_2 t525 t526 t529 _ ?side1 ?side2 A13.1).mono ?_); (case side1 => exact CB (C_below HR0_1.1 HB.1)); (case side2 => exact HC0_1.1); rintro e w27 ⟨v527, rfl, ho0, hb⟩; refine ⟨_, rfl, ?_⟩; refine E5 (R_elder' (PR HO518.1) (R_base ho0) hb) (rB HO522.1 hb) (R_lower (R_new' ho0 (R_lt (PR HO518.1))) (bZ HB.1)) (bB BK513.1 hb) (bS HB.1 hb) ?_; clear HO518 HO522 BK513 HB; intro HO518 HO522 HO528 BK513 HB; (try clear hb); (try clear ho0)) | ((with_reducible refine gate_dst (N := 8) rfl ?_); refine boxE (cs := #[.int .i64 0, .slice none 0 0, .int .i64 0]) (t := 29) ?_; intro gb530 hg w28 hbox hb; refine E10 (rB HO518.1 hb) (rB HO522.1 hb) (rB HO528.1 hb) (bB BK513.1 hb) (bS HB.1 hb) (hbox) (gX HB.1 hg) (gX HB.1 hg) (nB BK513.1 hg) (nC BK513.1 hg) ?_; clear HO518 HO522 HO528 BK513 HB; intro HO518 HO522 HO528 BK513 HB BK530 GW530 GE530 NB513_530 NB530_513; clear hb hbox hg; have hnb29 := NB530_513.1; have hnc29 := NB513_530.1; obtain ⟨hcz30_0, hcz30_1, hcz30_2, hfz30_0, hfz30_1, hfz30_2⟩ := cz3 BK530.1; obtain ⟨Ao31, co31, eo31⟩ := R_slice HO528.1; subst eo31) | ((with_reducible refine gate_callee (f := 35) rfl ?_); refine goesM (N := (some 31)) #[.slice A1 l1.length c1] Try.func35 ?_; (with_reducible refine (laws_toIntS.calls k _ _ l1 t531 _ ?side1 ?side2 A14.1).mono ?_); (case side1 => exact C_below HR1.1 (BL HB.1)); (case side2 => exact HC1.1); rintro e w32 ⟨v532, rfl, ho0, hb⟩; refine ⟨_, rfl, ?_⟩; refine E7 (R_below (by (with_reducible repeat (first | apply R_alloc | apply R_drewN | apply R_drew)); exact (R_mono (RQ gb530 2 (RQ gb530 1 (RQ gb530 0 (R_types HO518.1 BK530.1 (by decide)) _) _) _) (fun _ h_ => h_.1))) hb) (R_elder' (by (with_reducible repeat (first | apply R_alloc | apply R_drewN | apply R_drew)); exact (R_mono (RQ gb530 2 (RQ gb530 1 (RQ gb530 0 (R_types HO522.1 BK530.1 (by decide)) _) _) _) (fun _ h_ => h_.1))) (R_base ho0) hb) (R_below (by (with_reducible repeat (first | apply R_alloc | apply R_drewN | apply R_drew)); exact (R_mono (RQ gb530 2 (RQ gb530 1 (RQ gb530 0 (R_types HO528.1 BK530.1 (by decide)) _) _) _) (fun _ h_ => h_.1))) hb) (R_lower (R_new' ho0 (R_lt (by (with_reducible repeat (first | apply R_alloc | apply R_drewN | apply R_drew)); exact (R_mono (RQ gb530 2 (RQ gb530 1 (RQ gb530 0 (R_types HO522.1 BK530.1 (by decide)) _) _) _) (fun _ h_ => h_.1))))) (bZ HB.1)) (blk_below (g := gb513) (o := .cells #[.int .i64 a0_0, .slice A0_1 l0_1.length c0_1, .int .i64 a0_2] 24 (0, 0)) (PF1 NB513_530.1 BK513.1) hb) (blk_below (g := gb530) (o := .cells #[.int .i64 t525, .slice Ao31 t526.length co31, .int .i64 t529] 29 (0, 0)) (PF0 BK530.1) hb) (bS HB.1 hb) ?_; clear HO518 HO522 HO528 BK513 BK530 HB; intro HO518 HO522 HO528 HO533 BK513 BK530 HB; (try clear hb); (try clear ho0); obtain ⟨hcz33_0, hcz33_1, hcz33_2, hfz33_0, hfz33_1, hfz33_2⟩ := cz3 BK530.1; obtain ⟨Ao34, co34, eo34⟩ := R_slice HO533.1; subst eo34) | ((with_reducible refine gate_callee (f := 36) rfl ?_); refine goesM (N := (some 35)) #[.agg #[.int .i64 t525, .slice Ao31 t526.length co31, .int .i64 t529], .slice Ao34 t531.length co34] Try.func36 ?_; (with_reducible refine (impl_DiagramValue.calls k t525 _ _ t526 t529 _ _ t531 t534 t535 _ ?side1 ?side2 ?side3 ?side4 A15.1).mono ?_); (case side1 => exact CB (R_reads' HO528.1).2.2); (case side2 => exact (R_reads' HO528.1).2.1); (case side3 => exact CB (R_reads' HO533.1).2.2); (case side4 => exact (R_reads' HO533.1).2.1); rintro e w35 ⟨rfl, hb⟩; refine ⟨_, rfl, ?_⟩; refine E7 (rB HO518.1 hb) (rB HO522.1 hb) (rB HO528.1 hb) (rB HO533.1 hb) (bB BK513.1 hb) (bB BK530.1 hb) (bS HB.1 hb) ?_; clear HO518 HO522 HO528 HO533 BK513 BK530 HB; intro HO518 HO522 HO528 HO533 BK513 BK530 HB; (try clear hb)))
 (try simp only [Act.put, List.setIfInBounds_toArray, List.set_cons_zero, List.set_cons_succ])
 go_cut [45] (fun v45 wc => ∃ (kq : Nat) (x45_15 : Bool), v45 = .bool x45_15 /\ Aside0 (laws_FnExactDiagramValue.j0 kq l1 t531 x45_15 a0_0 l0_1 a0_2 t525 t526 t529 = some true) /\ Aside0 (kq <= k) /\ Aside0 (Kd.R (Kd.int .i64) 3 wc w.heap.size (fun _ => True) (.slice Ao34 t531.length co34) t531) /\ Aside0 (Kd.R k63 63 wc w.heap.size (fun _ => True) (.slice Ao31 t526.length co31) t526) /\ Aside0 (wc.heap[gb513]? = some (.cells #[.int .i64 a0_0, (.slice A0_1 l0_1.length c0_1), .int .i64 a0_2] 24 (0, 0))) /\ Aside0 (wc.heap[gb530]? = some (.cells #[.int .i64 t525, (.slice Ao31 t526.length co31), .int .i64 t529] 29 (0, 0))) /\ Aside0 (Below w.heap.size w wc))
 case first =>
  have H := HC16.1
  clear HC16
  replace H := ifQ H; rcases H with ⟨c36, H⟩ | ⟨c36, H⟩
  · have c36b0 := beq_iff_eq.mpr c36
    have c36b1 := bne_eq_false_iff_eq.mpr c36
    clear c36
    (first | rw [c36b0] | (simp only [i64_w, i32_w]; rw [c36b0]) | skip)
    have H' := Aside0.mk H
    clear H
    go_wp2
    go_meet
    case rel => exact ⟨_, ((t535 != t524)), RG, H', ⟨by first | omega | exact Nat.le_refl _⟩, ⟨RPE (R_mono HO533.1 (fun _ hk => trivial))⟩, ⟨RPE (R_mono HO528.1 (fun _ hk => trivial))⟩, ⟨PB BK513.1⟩, ⟨PB BK530.1⟩, ⟨BL HB.1⟩⟩
  exact absurd H (by cases k <;> simp [laws_FnExactDiagramValue.j0])
 clear HC16
 try clear c1; clear c3b0 c3b1 c6b0 hcz18_0 hcz18_1 hcz18_2 hcz20_0 hcz20_1 hcz20_2 hcz26_0 hcz26_1 hcz26_2 hcz30_0 hcz30_1 hcz30_2 hcz33_0 hcz33_1 hcz33_2 hfz18_0 hfz18_1 hfz18_2 hfz20_0 hfz20_1 hfz20_2 hfz26_0 hfz26_1 hfz26_2 hfz30_0 hfz30_1 hfz30_2 hfz33_0 hfz33_1 hfz33_2
 obtain ⟨kq, x45_15, rfl, HA, HJ15, HO_9, HO_531001, BK513, BK530, HB⟩ := hcut
 cases kq with
 | zero => exact absurd HA.1 (by simp [laws_FnExactDiagramValue.j0])
 | succ kj15 => ?_
 have H := HA.1
 clear HA
 simp only [laws_FnExactDiagramValue.j0] at H
 replace H := ifF H (by simp); obtain ⟨rfl, H⟩ := H
 replace H := bindA H; obtain ⟨⟨t536, t537, t540⟩, A38, H⟩ := H
 dsimp only at H
 replace H := bindA H; obtain ⟨t541, A39, H⟩ := H
 replace H := ifT H (by simp); obtain ⟨rfl, H⟩ := H
 replace H := bindA H; obtain ⟨t542, A41, H⟩ := H
 replace H := bindA H; obtain ⟨t545, A42, H⟩ := H
 replace H := ifT H (by simp); obtain ⟨rfl, H⟩ := H
 first | (obtain rfl := Option.some.inj H) | clear H
 try go_wp2
 refine E5 (R_drew HO_9.1) (R_drew HO_531001.1) (blk_drew BK513.1) (blk_drew BK530.1) (below_drew1 HB.1) ?_
 clear HO_9 HO_531001 BK513 BK530 HB
 intro HO_9 HO_531001 BK513 BK530 HB
 refine start_ (n := 5) (S := fun w' => w'.cell? ⟨gb530, 0, none⟩ = some (.int .i64 t525) /\ w'.cell? ⟨gb530, 1, none⟩ = some (.slice Ao31 t526.length co31) /\ w'.cell? ⟨gb530, 2, none⟩ = some (.int .i64 t529) /\ w'.cell? ⟨gb513, 0, none⟩ = some (.int .i64 a0_0) /\ w'.cell? ⟨gb513, 1, none⟩ = some (.slice A0_1 l0_1.length c0_1) /\ w'.cell? ⟨gb513, 2, none⟩ = some (.int .i64 a0_2)) (ds := []) #[Zz,Zz,Zz,Zz,Zz] (by kernel_rfl) rfl rfl ⟨(blk_cell BK530.1 0).trans rfl, (blk_cell BK530.1 1).trans rfl, (blk_cell BK530.1 2).trans rfl, (blk_cell BK513.1 0).trans rfl, (blk_cell BK513.1 1).trans rfl, (blk_cell BK513.1 2).trans rfl⟩ (fun hHeld => ?_)
 generalize wc.drew = w44 at HO_9 HO_531001 BK513 BK530 HB hHeld ⊢
 refine takeF 0 (N := some 46) hHeld ?_
 refine takeF 1 (N := some 47) hHeld ?_
 refine one_ (i := 2) (N := some 48) #[Yy,Yy,Yy,Zz,Zz] rfl rfl (by kernel_rfl) (by decide) (fun K hK => ?_)
 refine goes_ Try.func14 (by kernel_rfl) rfl #[.agg #[.int .i64 a0_0, .slice A0_1 l0_1.length c0_1, .int .i64 a0_2]] (by rfl) rfl rfl (by (try simp only [List.map_toArray, List.map_cons, List.map_nil]); first | done | rfl | (simp only [List.length_drop, List.length_take]; rfl)) ?_
 with_reducible refine (laws_toDiagram.calls kj15 a0_0 _ _ l0_1 a0_2 t536 t537 t540 _ ?side1 ?side2 A38.1).mono ?_
 (case side1 => exact CB (C_below HR0_1.1 HB.1))
 (case side2 => exact HC0_1.1)
 rintro e w45 ⟨v538, rfl, ho0, hb⟩
 refine ⟨_, rfl, ?_⟩
 refine E6 (rB HO_9.1 hb) (R_elder' (PR HO_531001.1) (R_base ho0) hb) (R_lower (R_new' ho0 (R_lt (PR HO_531001.1))) (bZ HB.1)) (bB BK513.1 hb) (bB BK530.1 hb) (bS HB.1 hb) ?_
 clear HO_9 HO_531001 BK513 BK530 HB
 intro HO_9 HO_531001 HO539 BK513 BK530 HB
 (try clear hb)
 (try clear hb2)
 (try clear hk)
 (try clear hi)
 (try clear ho0)
 obtain ⟨Ao46, co46, eo46⟩ := R_slice HO539.1
 (first | subst eo46 | (injection eo46 with f1_ f2_ f3_; have f4_ := f1_.symm; have f5_ := f3_.symm; clear f1_ f2_ f3_; subst f4_; subst f5_))
 refine hK.out _ _ ⟨(blk_cell BK530.1 0).trans rfl, (blk_cell BK530.1 1).trans rfl, (blk_cell BK530.1 2).trans rfl, (blk_cell BK513.1 0).trans rfl, (blk_cell BK513.1 1).trans rfl, (blk_cell BK513.1 2).trans rfl⟩ (fun hHeld => ?_)
 clear hK K
 refine norm_ (a' := ?_) ?_ ?_
 rotate_left
 · show Act.put _ (some 48) _ = _
   simp only [Act.put, List.setIfInBounds_toArray, List.set_cons_zero, List.set_cons_succ, i64_w, i32_w]
   rfl
 refine one_ (i := 3) (N := some 49) #[Yy,Yy,Yy,Yy,Zz] rfl rfl (by kernel_rfl) (by decide) (fun K hK => ?_)
 refine goes_ Try.func16 (by kernel_rfl) rfl #[.agg #[.int .i64 t525, .slice Ao31 t526.length co31, .int .i64 t529], .agg #[.int .i64 t536, .slice Ao46 t537.length co46, .int .i64 t540]] (by rfl) rfl rfl (by (try simp only [List.map_toArray, List.map_cons, List.map_nil]); first | done | rfl | (simp only [List.length_drop, List.length_take]; rfl)) ?_
 with_reducible refine (laws_eqDiagram.calls kj15 t525 _ _ t526 t529 t536 _ _ t537 t540 true _ ?side1 ?side2 ?side3 ?side4 A39.1).mono ?_
 (case side1 => exact CB (R_reads' HO_531001.1).2.2)
 (case side2 => exact (R_reads' HO_531001.1).2.1)
 (case side3 => exact CB (R_reads' HO539.1).2.2)
 (case side4 => exact (R_reads' HO539.1).2.1)
 rintro e w47 ⟨rfl, hb⟩
 refine ⟨_, rfl, ?_⟩
 refine E6 (rB HO_9.1 hb) (rB HO_531001.1 hb) (rB HO539.1 hb) (bB BK513.1 hb) (bB BK530.1 hb) (bS HB.1 hb) ?_
 clear HO_9 HO_531001 HO539 BK513 BK530 HB
 intro HO_9 HO_531001 HO539 BK513 BK530 HB
 (try clear hb)
 (try clear hb2)
 (try clear hk)
 (try clear hi)
 refine hK.out _ _ ⟨(blk_cell BK530.1 0).trans rfl, (blk_cell BK530.1 1).trans rfl, (blk_cell BK530.1 2).trans rfl, (blk_cell BK513.1 0).trans rfl, (blk_cell BK513.1 1).trans rfl, (blk_cell BK513.1 2).trans rfl⟩ (fun hHeld => ?_)
 clear hK K
 refine norm_ (a' := ?_) ?_ ?_
 rotate_left
 · show Act.put _ (some 49) _ = _
   simp only [Act.put, List.setIfInBounds_toArray, List.set_cons_zero, List.set_cons_succ, i64_w, i32_w]
   rfl
 refine pure_ (i := 4) (N := some 50) (v := ?_) (a' := ?_) #[Yy,Yy,Yy,Yy,Yy] rfl rfl (by kernel_rfl) (fun _ _ _ h => h) (Or.inl ⟨by rfl, ?_⟩) ?_ ?_
 rotate_left
 · intro w'
   go_simp
   with_reducible rfl
 rotate_left
 · simp only [Act.put, List.setIfInBounds_toArray, List.set_cons_zero, List.set_cons_succ, i64_w, i32_w]
   rfl
 refine done_ (by kernel_rfl) ?_
 try go_wp2_with (first | ((with_reducible refine gate_callee (f := 35) rfl ?_); refine goesM (N := (some 53)) #[.slice A1 l1.length c1] Try.func35 ?_; (with_reducible refine (laws_toIntS.calls kj15 _ _ l1 t542 _ ?side1 ?side2 A41.1).mono ?_); (case side1 => exact CB (C_below HR1.1 HB.1)); (case side2 => exact HC1.1); rintro e w48 ⟨v543, rfl, ho0, hb⟩; refine ⟨_, rfl, ?_⟩; refine E7 (R_elder' (PR HO_9.1) (R_base ho0) hb) (rB HO_531001.1 hb) (rB HO539.1 hb) (R_lower (R_new' ho0 (R_lt (PR HO_9.1))) (bZ HB.1)) (bB BK513.1 hb) (bB BK530.1 hb) (bS HB.1 hb) ?_; clear HO_9 HO_531001 HO539 BK513 BK530 HB; intro HO_9 HO_531001 HO539 HO544 BK513 BK530 HB; (try clear hb); (try clear ho0); obtain ⟨Ao49, co49, eo49⟩ := R_slice HO544.1; subst eo49) | ((with_reducible refine gate_callee (f := 31) rfl ?_); refine goesM (N := (some 54)) #[.slice Ao34 t531.length co34, .slice Ao49 t542.length co49] Try.func31 ?_; (with_reducible refine (laws_eqIntS.calls kj15 _ _ t531 _ _ t542 true _ ?side1 ?side2 ?side3 ?side4 A42.1).mono ?_); (case side1 => exact CB (R_reads' HO_9.1).2.2); (case side2 => exact (R_reads' HO_9.1).2.1); (case side3 => exact CB (R_reads' HO544.1).2.2); (case side4 => exact (R_reads' HO544.1).2.1); rintro e w' ⟨rfl, ⟨nd, rfl⟩⟩; refine ⟨_, rfl, ?_⟩))
 go_ret
 exact ⟨RF, BL HB.1⟩
end Go.Proofs.Ytdkfgomjfigmbaa.P
