import Derived.Test.YtbpfdbjnnlmdjaaPx0
import Derived.Test.YtbpfdbjnnlmdjaaPx1
import Derived.Test.YtbpfdbjnnlmdjaaPx3
import Derived.Test.YtbpfdbjnnlmdjaaPx5
import Derived.Test.YtbpfdbjnnlmdjaaPx8
import Derived.Test.YtbpfdbjnnlmdjaaPx10
import Derived.Test.YtbpfdbjnnlmdjaaPx11
import Derived.Test.YtbpfdbjnnlmdjaaPx12
import Derived.Test.YtbpfdbjnnlmdjaaPx14
namespace Go.Proofs.Ytbpfdbjnnlmdjaa.P
open Go.RowKit Go.Proofs.YtbpfdbjnnlmdjaaW.PrintWords Go.Proofs.YtbpfdbjnnlmdjaaW.PrintLast Go.Proofs.YtbpfdbjnnlmdjaaW.PrintMore
attribute [local go_sem] max2_int min2_int max_two min_two max_three min_three max_four min_four
set_option linter.unusedVariables false
set_option linter.unusedSimpArgs false
set_option maxHeartbeats 8000000
set_option maxRecDepth 100000
open Kd
def spec_reSorted.l0 : Nat -> List Int -> List Int -> Int -> Int -> Option (List Int)
 | 0, _, _, _, _ => none
 | k + 1, x3, x6, x7, x8 => if x8 < x7 then (if 0 <= x8 then (if x8 < (x6.length : Int) then ((spec_l1Put.f k x3 (rd x6 x8)).bind fun t1087 => (spec_reSorted.l0 k t1087 x6 x7 (wrap64 (x8 + 1)))) else (none)) else (none)) else (some x3)
def spec_reSorted.f (k : Nat) (l0 : List Int) : Option (List Int) := spec_reSorted.l0 k ([] : List Int) l0 (l0.length : Int) 0
theorem spec_reSorted.mono_l : ∀ k, (∀ y0 y1 y2 y3, LeO (spec_reSorted.l0 k y0 y1 y2 y3) (spec_reSorted.l0 (k + 1) y0 y1 y2 y3))
 | 0 => fun _ _ _ _ r h => by simp [spec_reSorted.l0] at h
 | k + 1 => by
  have ih0 := spec_reSorted.mono_l k
  intros
  first | unfold spec_reSorted.l0
  exact LM2 ih0 spec_l1Put.mono
theorem spec_reSorted.mono : ∀ a0 k, LeO (spec_reSorted.f k a0) (spec_reSorted.f (k + 1) a0) := by
 intro a0 k
 have ih0 := spec_reSorted.mono_l k
 unfold spec_reSorted.f
 exact LM2 ih0 spec_l1Put.mono
theorem spec_reSorted.calls (k : Nat) (A0 : Option Addr) (c0 : Nat) (l0 : List Int) (r : List Int) (w : World) (hr0 : Kd.C (Kd.int .i64) w A0 l0.length l0) (hc0 : l0.length <= c0) (h : spec_reSorted.f k l0 = some r) :
 Calls Try.prog 64 #[.slice A0 l0.length c0] w fun e w' => ∃ v0_ : Value, e = .returned (v0_) /\ Kd.R (Kd.int .i64) 3 w' w.heap.size (fun _ => True) v0_ r /\ Below w.heap.size w w' := by
 have HR0 := Aside0.mk hr0
 have HC0 := Aside0.mk hc0
 clear hr0 hc0
 have HB := Aside0.mk (Below.refl w.heap.size w)
 have H := h
 clear h
 unfold spec_reSorted.f at H
 have H' := Aside0.mk H
 clear H
 go_enter Try.func64, Try.ntmps64
 go_wp2
 go_loopg [3, 8] k (fun kq v3 v8 w' => ∃ (x3_1 : List Int) (x8_1 : Int), v8 = .int .i64 x8_1 /\ Aside0 (spec_reSorted.l0 kq x3_1 l0 (l0.length : Int) x8_1 = some r) /\ Aside0 (kq <= k) /\ Aside0 (Kd.R (Kd.int .i64) 3 w' w.heap.size (fun _ => True) v3 x3_1) /\ Aside0 (Below w.heap.size w w'))
 case atStart => exact ⟨(([] : List Int)), (0), RG, H', ⟨Nat.le_refl _⟩, ⟨by first | exact R_nil _ _ _ _ _ | exact N_nil _ _ _ _ _ | exact V_nil _ _ _ _ _ | exact Q_nil _ _ _ _ _ | exact S_nil _ _ _ _ _⟩, ⟨BL HB.1⟩⟩
 clear H'
 obtain ⟨x3_1, x8_1, rfl, HA, HK1, HO_3, HB⟩ := hrel
 cases gk with
 | zero => exact absurd HA.1 (by simp [spec_reSorted.l0])
 | succ k1 => ?_
 have H := HA.1
 clear HA
 simp only [spec_reSorted.l0] at H
 replace H := ifB H; rcases H with ⟨c2b0, H⟩ | ⟨c2b0, H⟩
 · replace H := ifN H; obtain ⟨c3b0, H⟩ := H
   replace H := ifN H; obtain ⟨c4b0, H⟩ := H
   replace H := bindA H; obtain ⟨t1087, A5, H⟩ := H
   have H' := Aside0.mk H
   clear H
   have p1086 : 0 <= (x8_1 : Int) := OD
   have q1086 : x8_1 < (l0.length : Int) := OD
   obtain ⟨ad1086, e1086, hx1086_0⟩ := Kd.at_int HR0.1 x8_1 p1086 q1086
   cases e1086
   replace hx1086_0 := (HB.1.cell (World.block_lt_of_cell? w _ hx1086_0)).trans hx1086_0
   replace p1086 := eq_true p1086
   replace q1086 := eq_true q1086
   obtain ⟨Ao6, co6, eo6⟩ := R_slice HO_3.1
   subst eo6
   go_wp2_with (first | ((with_reducible refine gate_callee (f := 82) rfl ?_); refine goesM (N := (some 14)) #[.slice Ao6 x3_1.length co6, .int .i64 (rd l0 x8_1)] Try.func82 ?_; (with_reducible refine (spec_l1Put.calls k1 (fun k_ => some k_ = (.slice Ao6 x3_1.length co6 : Value).ownBlock) (.slice Ao6 x3_1.length co6) x3_1 (rd l0 x8_1) t1087 w _ ?side1 ?side2 A5.1).mono ?_); (case side1 => exact BL HB.1); (case side2 => exact R_tight rfl HO_3.1); rintro e w7 ⟨v1088, rfl, ho0, hb, hkp⟩; refine ⟨_, rfl, ?_⟩; refine E2 (R_mono (ok' := fun k_ => True) ho0 (fun k_ hk_ => trivial)) (hb) ?_; clear HB HO_3; intro HO1089 HB; (try clear hb); (try clear hkp); (try clear ho0)))
   go_roundg k1
   case measure => have := HK1.1; omega
   case rel => exact ⟨(t1087), (wrap64 (x8_1 + 1)), RG, H', ⟨by have := HK1.1; omega⟩, ⟨PR HO1089.1⟩, ⟨BL HB.1⟩⟩
 obtain rfl := Option.some.inj H
 go_wp2
 go_ret
 exact ⟨_, RF, RPE (HO_3.1), BL HB.1⟩
def spec_ReachedNumbers.f (k : Nat) (a0_0 : Int) (a0_1 : Int) (l0_2 : List (S83)) (l1 : List Int) : Option (List Int × Bool) := (spec_reAsked.f k a0_0 a0_1 l0_2 l1).bind fun t1091 => (if t1091 = true then ((spec_reAll.f k a0_0 a0_1 l0_2 l1).bind fun bt1092 => ((spec_reSorted.f k bt1092.1).bind fun t1098 => (some (t1098, true)))) else (some (([] : List Int), false)))
theorem spec_ReachedNumbers.mono : ∀ a0 a1 a2 a3 k, LeO (spec_ReachedNumbers.f k a0 a1 a2 a3) (spec_ReachedNumbers.f (k + 1) a0 a1 a2 a3) := by
 intro a0 a1 a2 a3 k
 unfold spec_ReachedNumbers.f
 repeat' first
  | (with_reducible exact spec_reAll.mono _ _ _ _ _)
  | (with_reducible exact spec_reAsked.mono _ _ _ _ _)
  | (with_reducible exact spec_reSorted.mono _ _)
  | (with_reducible exact LeO.refl _)
  | (with_reducible exact LeO.none _)
  | (with_reducible refine LeO.ite ?_ ?_)
  | (with_reducible refine LeO.bind ?_ (fun _ => ?_))
  | exact spec_reAll.mono _ _ _ _ _
  | exact spec_reAsked.mono _ _ _ _ _
  | exact spec_reSorted.mono _ _
  | exact LeO.none _
  | refine LeO.ite ?_ ?_
  | refine LeO.bind ?_ (fun _ => ?_)
theorem spec_ReachedNumbers.calls (k : Nat) (a0_0 : Int) (a0_1 : Int) (A0_2 : Option Addr) (c0_2 : Nat) (l0_2 : List (S83)) (A1 : Option Addr) (c1 : Nat) (l1 : List Int) (r1 : List Int) (r2 : Bool) (w : World) (hr0_2 : Kd.C k83 w A0_2 l0_2.length l0_2) (hc0_2 : l0_2.length <= c0_2) (hr1 : Kd.C (Kd.int .i64) w A1 l1.length l1) (hc1 : l1.length <= c1) (h : spec_ReachedNumbers.f k a0_0 a0_1 l0_2 l1 = some (r1, r2)) :
 Calls Try.prog 35 #[.agg #[.int .i64 a0_0, .int .i64 a0_1, .slice A0_2 l0_2.length c0_2], .slice A1 l1.length c1] w fun e w' => ∃ v0_ : Value, e = .returned (.tuple #[v0_, .bool r2]) /\ Kd.R (Kd.int .i64) 3 w' w.heap.size (fun _ => True) v0_ r1 /\ Below w.heap.size w w' := by
 have hu30 := Try.underlying30
 have HR0_2 := Aside0.mk hr0_2
 have HC0_2 := Aside0.mk hc0_2
 clear hr0_2 hc0_2
 have HR1 := Aside0.mk hr1
 have HC1 := Aside0.mk hc1
 clear hr1 hc1
 have HB := Aside0.mk (Below.refl w.heap.size w)
 have H := h
 clear h
 unfold spec_ReachedNumbers.f at H
 replace H := bindA H; obtain ⟨t1091, A3, H⟩ := H
 replace H := ifX H; rcases H with ⟨rfl, H⟩ | ⟨rfl, H⟩
 · replace H := bindA H; obtain ⟨⟨t1092, t1095⟩, A5, H⟩ := H
   dsimp only at H
   replace H := bindA H; obtain ⟨t1098, A6, H⟩ := H
   simp only [Option.some.injEq, Prod.mk.injEq] at H
   obtain ⟨rfl, rfl⟩ := H
   go_enter Try.func35, Try.ntmps35
   go_wp2_with (first | ((with_reducible refine gate_dst (N := 2) rfl ?_); refine boxE (cs := #[.int .i64 a0_0, .int .i64 a0_1, .slice A0_2 l0_2.length c0_2]) (t := 30) ?_; intro gb1090 hg w7 hbox hb; refine E4b HB.1 hg hbox hb ?_; clear HB; intro HB BK1090 GW1090 GE1090; clear hb hbox hg; obtain ⟨hcz8_0, hcz8_1, hcz8_2, hfz8_0, hfz8_1, hfz8_2⟩ := cz3 BK1090.1) | ((with_reducible refine gate_callee (f := 57) rfl ?_); refine goesM (N := (some 10)) #[.agg #[.int .i64 a0_0, .int .i64 a0_1, .slice A0_2 l0_2.length c0_2], .slice A1 l1.length c1] Try.func57 ?_; (with_reducible refine (spec_reAsked.calls k a0_0 a0_1 _ _ l0_2 _ _ l1 true _ ?side1 ?side2 ?side3 ?side4 A3.1).mono ?_); (case side1 => exact CB (C_below HR0_2.1 HB.1)); (case side2 => exact HC0_2.1); (case side3 => exact CB (C_below HR1.1 HB.1)); (case side4 => exact HC1.1); rintro e w9 ⟨rfl, hb⟩; refine ⟨_, rfl, ?_⟩; refine E2 (bB BK1090.1 hb) (bS HB.1 hb) ?_; clear BK1090 HB; intro BK1090 HB; (try clear hb); obtain ⟨hcz10_0, hcz10_1, hcz10_2, hfz10_0, hfz10_1, hfz10_2⟩ := cz3 BK1090.1) | ((with_reducible refine gate_callee (f := 58) rfl ?_); refine goesM (N := (some 15)) #[.agg #[.int .i64 a0_0, .int .i64 a0_1, .slice A0_2 l0_2.length c0_2], .slice A1 l1.length c1] Try.func58 ?_; (with_reducible refine (spec_reAll.calls k a0_0 a0_1 _ _ l0_2 _ _ l1 t1092 t1095 _ ?side1 ?side2 ?side3 ?side4 A5.1).mono ?_); (case side1 => exact CB (C_below HR0_2.1 HB.1)); (case side2 => exact HC0_2.1); (case side3 => exact CB (C_below HR1.1 HB.1)); (case side4 => exact HC1.1); rintro e w11 ⟨v1093, v1096, rfl, ho0, ho1, hb⟩; refine ⟨_, rfl, ?_⟩; refine E4 (R_lower ho0 (bZ HB.1)) (S_lower ho1 (bZ HB.1)) (bB BK1090.1 hb) (bS HB.1 hb) ?_; clear BK1090 HB; intro HO1094 HO1097 BK1090 HB; (try clear hb); (try clear ho0); (try clear ho1); obtain ⟨Ao12, co12, eo12⟩ := R_slice HO1094.1; subst eo12) | ((with_reducible refine gate_callee (f := 64) rfl ?_); refine goesM (N := (some 19)) #[.slice Ao12 t1092.length co12] Try.func64 ?_; (with_reducible refine (spec_reSorted.calls k _ _ t1092 t1098 _ ?side1 ?side2 A6.1).mono ?_); (case side1 => exact CB (R_reads' HO1094.1).2.2); (case side2 => exact (R_reads' HO1094.1).2.1); rintro e w13 ⟨v1099, rfl, ho0, hb⟩; refine ⟨_, rfl, ?_⟩; refine E5 (R_elder' (PR HO1094.1) (R_base ho0) hb) (S_elder' (PS HO1097.1) (R_base ho0) hb) (R_lower (R_new' ho0 (R_lt (PR HO1094.1))) (bZ HB.1)) (bB BK1090.1 hb) (bS HB.1 hb) ?_; clear HO1094 HO1097 BK1090 HB; intro HO1094 HO1097 HO1100 BK1090 HB; (try clear hb); (try clear ho0)))
   go_ret2
   exact ⟨_, RF, RPE (R_mono HO1100.1 (fun _ hk => trivial)), BL HB.1⟩
 simp only [Option.some.injEq, Prod.mk.injEq] at H
 obtain ⟨rfl, rfl⟩ := H
 go_enter Try.func35, Try.ntmps35
 go_wp2_with (first | ((with_reducible refine gate_dst (N := 2) rfl ?_); refine boxE (cs := #[.int .i64 a0_0, .int .i64 a0_1, .slice A0_2 l0_2.length c0_2]) (t := 30) ?_; intro gb1090 hg w14 hbox hb; refine E4b HB.1 hg hbox hb ?_; clear HB; intro HB BK1090 GW1090 GE1090; clear hb hbox hg; obtain ⟨hcz15_0, hcz15_1, hcz15_2, hfz15_0, hfz15_1, hfz15_2⟩ := cz3 BK1090.1) | ((with_reducible refine gate_callee (f := 57) rfl ?_); refine goesM (N := (some 10)) #[.agg #[.int .i64 a0_0, .int .i64 a0_1, .slice A0_2 l0_2.length c0_2], .slice A1 l1.length c1] Try.func57 ?_; (with_reducible refine (spec_reAsked.calls k a0_0 a0_1 _ _ l0_2 _ _ l1 false _ ?side1 ?side2 ?side3 ?side4 A3.1).mono ?_); (case side1 => exact CB (C_below HR0_2.1 HB.1)); (case side2 => exact HC0_2.1); (case side3 => exact CB (C_below HR1.1 HB.1)); (case side4 => exact HC1.1); rintro e w16 ⟨rfl, hb⟩; refine ⟨_, rfl, ?_⟩; refine E2 (bB BK1090.1 hb) (bS HB.1 hb) ?_; clear BK1090 HB; intro BK1090 HB; (try clear hb)))
 go_ret2
 exact ⟨_, RF, by first | exact R_nil _ _ _ _ _ | exact N_nil _ _ _ _ _ | exact V_nil _ _ _ _ _ | exact Q_nil _ _ _ _ _ | exact S_nil _ _ _ _ _, BL HB.1⟩
mutual
def impl_ReachedNumbers.j0 : Nat -> List Int -> Bool -> Int -> Int -> List (S83) -> Option (List Int × Bool)
 | 0, _, _, _, _, _ => none
 | k + 1, x1, x18, x1102000, x1102001, x1102002 => if x18 = true then (some (([] : List Int), false)) else ((impl_reachedStates.f k x1102000 x1102001 x1102002 x1).bind fun t1104 => (impl_ReachedNumbers.l0 k (([] : List Int)) t1104 (t1104.length : Int) 0))
def impl_ReachedNumbers.l0 : Nat -> List Int -> List Bool -> Int -> Int -> Option (List Int × Bool)
 | 0, _, _, _, _ => none
 | k + 1, x7, x23, x24, x25 => if x25 < x24 then (if 0 <= x25 then (if x25 < (x23.length : Int) then (if rdOf false x23 x25 = true then (if x7.length < 17592186044416 then (impl_ReachedNumbers.l0 k (x7 ++ [x25]) x23 x24 (wrap64 (x25 + 1))) else (none)) else (impl_ReachedNumbers.l0 k x7 x23 x24 (wrap64 (x25 + 1)))) else (none)) else (none)) else (some (x7, true))
end
def impl_ReachedNumbers.f (k : Nat) (a0_0 : Int) (a0_1 : Int) (l0_2 : List (S83)) (l1 : List Int) : Option (List Int × Bool) := (impl_fewUnits.f k a0_0 a0_1 l0_2).bind fun t1102 => (if t1102 = true then ((impl_validEntriesUp.f k a0_0 a0_1 l0_2 l1).bind fun t1103 => (impl_ReachedNumbers.j0 k l1 (!t1103) a0_0 a0_1 l0_2)) else (impl_ReachedNumbers.j0 k l1 true a0_0 a0_1 l0_2))
theorem impl_ReachedNumbers.mono_l : ∀ k, (∀ y0 y1 y2 y3 y4, LeO (impl_ReachedNumbers.j0 k y0 y1 y2 y3 y4) (impl_ReachedNumbers.j0 (k + 1) y0 y1 y2 y3 y4)) /\ (∀ y0 y1 y2 y3, LeO (impl_ReachedNumbers.l0 k y0 y1 y2 y3) (impl_ReachedNumbers.l0 (k + 1) y0 y1 y2 y3))
 | 0 => by refine ⟨?_, ?_⟩ <;> (intros; intro r h; first | (simp [impl_ReachedNumbers.j0] at h; done) | (simp [impl_ReachedNumbers.l0] at h; done))
 | k + 1 => by
  obtain ⟨ih0, ih1⟩ := impl_ReachedNumbers.mono_l k
  refine ⟨?_, ?_⟩ <;> (
   intros
   first | unfold impl_ReachedNumbers.j0 | unfold impl_ReachedNumbers.l0
   exact LM5 ih0 ih1 impl_fewUnits.mono impl_reachedStates.mono impl_validEntriesUp.mono)
theorem impl_ReachedNumbers.mono : ∀ a0 a1 a2 a3 k, LeO (impl_ReachedNumbers.f k a0 a1 a2 a3) (impl_ReachedNumbers.f (k + 1) a0 a1 a2 a3) := by
 intro a0 a1 a2 a3 k
 obtain ⟨ih0, ih1⟩ := impl_ReachedNumbers.mono_l k
 unfold impl_ReachedNumbers.f
 exact LM5 ih0 ih1 impl_fewUnits.mono impl_reachedStates.mono impl_validEntriesUp.mono
theorem impl_ReachedNumbers.calls (k : Nat) (a0_0 : Int) (a0_1 : Int) (A0_2 : Option Addr) (c0_2 : Nat) (l0_2 : List (S83)) (A1 : Option Addr) (c1 : Nat) (l1 : List Int) (r1 : List Int) (r2 : Bool) (w : World) (hr0_2 : Kd.C k83 w A0_2 l0_2.length l0_2) (hc0_2 : l0_2.length <= c0_2) (hr1 : Kd.C (Kd.int .i64) w A1 l1.length l1) (hc1 : l1.length <= c1) (h : impl_ReachedNumbers.f k a0_0 a0_1 l0_2 l1 = some (r1, r2)) :
 Calls Try.prog 36 #[.agg #[.int .i64 a0_0, .int .i64 a0_1, .slice A0_2 l0_2.length c0_2], .slice A1 l1.length c1] w fun e w' => ∃ v0_ : Value, e = .returned (.tuple #[v0_, .bool r2]) /\ Kd.R (Kd.int .i64) 3 w' w.heap.size (fun _ => True) v0_ r1 /\ Below w.heap.size w w' := by
 have hu30 := Try.underlying30
 have HR0_2 := Aside0.mk hr0_2
 have HC0_2 := Aside0.mk hc0_2
 clear hr0_2 hc0_2
 have HR1 := Aside0.mk hr1
 have HC1 := Aside0.mk hc1
 clear hr1 hc1
 have HB := Aside0.mk (Below.refl w.heap.size w)
 have H := h
 clear h
 unfold impl_ReachedNumbers.f at H
 have HC3 := Aside0.mk H
 clear H
 go_enter Try.func36, Try.ntmps36
 go_upto_region 1 with (first | ((with_reducible refine gate_dst (N := 2) rfl ?_); refine boxE (cs := #[.int .i64 a0_0, .int .i64 a0_1, .slice A0_2 l0_2.length c0_2]) (t := 30) ?_; intro gb1101 hg w4 hbox hb; refine E4b HB.1 hg hbox hb ?_; clear HB; intro HB BK1101 GW1101 GE1101; clear hb hbox hg))
 (try simp only [Act.put, List.setIfInBounds_toArray, List.set_cons_zero, List.set_cons_succ])
 go_cut [18] (fun v18 wc => ∃ (kq : Nat) (x18_2 : Bool), v18 = .bool x18_2 /\ Aside0 (impl_ReachedNumbers.j0 kq l1 x18_2 a0_0 a0_1 l0_2 = some (r1, r2)) /\ Aside0 (kq <= k) /\ Aside0 (wc.heap[gb1101]? = some (.cells #[.int .i64 a0_0, .int .i64 a0_1, (.slice A0_2 l0_2.length c0_2)] 30 (0, 0))) /\ Aside0 (Below w.heap.size w wc))
 case first =>
  have H := HC3.1
  clear HC3
  replace H := bindA H; obtain ⟨t1102, A5, H⟩ := H
  replace H := ifX H; rcases H with ⟨rfl, H⟩ | ⟨rfl, H⟩
  · replace H := bindA H; obtain ⟨t1103, A7, H⟩ := H
    have H' := Aside0.mk H
    clear H
    obtain ⟨hcz8_0, hcz8_1, hcz8_2, hfz8_0, hfz8_1, hfz8_2⟩ := cz3 BK1101.1
    go_wp2_with (first | ((with_reducible refine gate_callee (f := 46) rfl ?_); refine goesM (N := (some 11)) #[.agg #[.int .i64 a0_0, .int .i64 a0_1, .slice A0_2 l0_2.length c0_2]] Try.func46 ?_; (with_reducible refine (impl_fewUnits.calls k a0_0 a0_1 _ _ l0_2 true _ ?side1 ?side2 A5.1).mono ?_); (case side1 => exact CB (C_below HR0_2.1 HB.1)); (case side2 => exact HC0_2.1); rintro e w9 ⟨rfl, hb⟩; refine ⟨_, rfl, ?_⟩; refine E2 (bB BK1101.1 hb) (bS HB.1 hb) ?_; clear BK1101 HB; intro BK1101 HB; (try clear hb); obtain ⟨hcz10_0, hcz10_1, hcz10_2, hfz10_0, hfz10_1, hfz10_2⟩ := cz3 BK1101.1) | (go_at_call 60; (with_reducible refine (impl_validEntriesUp.calls k a0_0 a0_1 _ _ l0_2 _ _ l1 t1103 _ ?side1 ?side2 ?side3 ?side4 A7.1).mono ?_); (case side1 => exact CB (C_below HR0_2.1 HB.1)); (case side2 => exact HC0_2.1); (case side3 => exact CB (C_below HR1.1 HB.1)); (case side4 => exact HC1.1); rintro e w11 ⟨rfl, hb⟩; refine E2 (bB BK1101.1 hb) (bS HB.1 hb) ?_; clear BK1101 HB; intro BK1101 HB; (try clear hb)))
    go_meet
    case rel => exact ⟨_, (!t1103), RG, H', ⟨by first | omega | exact Nat.le_refl _⟩, ⟨PB BK1101.1⟩, ⟨BL HB.1⟩⟩
  have H' := Aside0.mk H
  clear H
  obtain ⟨hcz12_0, hcz12_1, hcz12_2, hfz12_0, hfz12_1, hfz12_2⟩ := cz3 BK1101.1
  go_wp2_with (first | ((with_reducible refine gate_callee (f := 46) rfl ?_); refine goesM (N := (some 11)) #[.agg #[.int .i64 a0_0, .int .i64 a0_1, .slice A0_2 l0_2.length c0_2]] Try.func46 ?_; (with_reducible refine (impl_fewUnits.calls k a0_0 a0_1 _ _ l0_2 false _ ?side1 ?side2 A5.1).mono ?_); (case side1 => exact CB (C_below HR0_2.1 HB.1)); (case side2 => exact HC0_2.1); rintro e w13 ⟨rfl, hb⟩; refine ⟨_, rfl, ?_⟩; refine E2 (bB BK1101.1 hb) (bS HB.1 hb) ?_; clear BK1101 HB; intro BK1101 HB; (try clear hb)))
  go_meet
  case rel => exact ⟨_, (true), RG, H', ⟨by first | omega | exact Nat.le_refl _⟩, ⟨PB BK1101.1⟩, ⟨BL HB.1⟩⟩
 clear HC3
 try clear c1
 obtain ⟨kq, x18_2, rfl, HA, HJ2, BK1101, HB⟩ := hcut
 cases kq with
 | zero => exact absurd HA.1 (by simp [impl_ReachedNumbers.j0])
 | succ kj2 => ?_
 have H := HA.1
 clear HA
 simp only [impl_ReachedNumbers.j0] at H
 replace H := ifX H; rcases H with ⟨rfl, H⟩ | ⟨rfl, H⟩
 · simp only [Option.some.injEq, Prod.mk.injEq] at H
   obtain ⟨rfl, rfl⟩ := H
   go_wp2
   go_ret2
   exact ⟨_, RF, by first | exact R_nil _ _ _ _ _ | exact N_nil _ _ _ _ _ | exact V_nil _ _ _ _ _ | exact Q_nil _ _ _ _ _ | exact S_nil _ _ _ _ _, BL HB.1⟩
 replace H := bindA H; obtain ⟨t1104, A15, H⟩ := H
 generalize hy1107 : ((([] : List Int)) : List Int) = y1107 at H
 have Ny1107 := Aside0.mk hy1107.symm; clear hy1107
 have H' := Aside0.mk H
 clear H
 obtain ⟨hcz16_0, hcz16_1, hcz16_2, hfz16_0, hfz16_1, hfz16_2⟩ := cz3 BK1101.1
 go_wp2_with (first | ((with_reducible refine gate_callee (f := 63) rfl ?_); refine goesM (N := (some 21)) #[.agg #[.int .i64 a0_0, .int .i64 a0_1, .slice A0_2 l0_2.length c0_2], .slice A1 l1.length c1] Try.func63 ?_; (with_reducible refine (impl_reachedStates.calls kj2 a0_0 a0_1 _ _ l0_2 _ _ l1 t1104 _ ?side1 ?side2 ?side3 ?side4 A15.1).mono ?_); (case side1 => exact CB (C_below HR0_2.1 HB.1)); (case side2 => exact HC0_2.1); (case side3 => exact CB (C_below HR1.1 HB.1)); (case side4 => exact HC1.1); rintro e w17 ⟨v1105, rfl, ho0, hb⟩; refine ⟨_, rfl, ?_⟩; refine E3 (R_lower ho0 (bZ HB.1)) (bB BK1101.1 hb) (bS HB.1 hb) ?_; clear BK1101 HB; intro HO1106 BK1101 HB; (try clear hb); (try clear ho0)) | ((with_reducible refine gate_dst (N := 22) rfl ?_); refine R_lit (Kd.int .i64) _ 3 ?hg (N := 22) ?hd (xs := ([] : List Int)) (inner := []) (ok := fun _ => True) (okp := fun _ => True) ?hr ?hp (fun _ hk => hk) trivial (Below.refl _ _) (Nat.le_refl _) (by simp) ?_; (case hd => rfl); (case hg => rfl); (case hr => first | (go_simp; done) | (go_simp; rfl)); (case hp => exact (Reps.none _ _)); intro v1108 w18 ho19 hb hg_ hnew_; clear hg_ hnew_; (first | rw [<- Ny1107.1] at ho19 | (simp only [Int.reduceToNat] at ho19; rw [<- Ny1107.1] at ho19)); refine E4 (rB HO1106.1 hb) (R_lower ho19 (bZ HB.1)) (bB BK1101.1 hb) (bS HB.1 hb) ?_; clear HO1106 BK1101 HB; intro HO1106 HO1109 BK1101 HB; clear hb ho19; obtain ⟨Ao20, co20, eo20⟩ := R_slice HO1106.1; subst eo20))
 go_loopg [7, 25] kj2 (fun kq v7 v25 w' => ∃ (x7_2 : List Int) (x25_2 : Int), v25 = .int .i64 x25_2 /\ Aside0 (impl_ReachedNumbers.l0 kq x7_2 t1104 (t1104.length : Int) x25_2 = some (r1, r2)) /\ Aside0 (kq <= kj2) /\ Aside0 (Kd.R (Kd.int .i64) 3 w' w.heap.size (fun _ => True) v7 x7_2) /\ Aside0 (Kd.R Kd.bool 4 w' w.heap.size (fun _ => True) (.slice Ao20 t1104.length co20) t1104) /\ Aside0 (w'.heap[gb1101]? = some (.cells #[.int .i64 a0_0, .int .i64 a0_1, (.slice A0_2 l0_2.length c0_2)] 30 (0, 0))) /\ Aside0 (Below w.heap.size w w'))
 case atStart => exact ⟨(y1107), (0), RG, H', ⟨Nat.le_refl _⟩, ⟨PR HO1109.1⟩, ⟨PR HO1106.1⟩, ⟨PB BK1101.1⟩, ⟨BL HB.1⟩⟩
 clear H'
 try clear c1; clear hcz16_0 hcz16_1 hcz16_2 hfz16_0 hfz16_1 hfz16_2
 obtain ⟨x7_2, x25_2, rfl, HA, HK2, HO_7, HO_23, BK1101, HB⟩ := hrel
 cases gk with
 | zero => exact absurd HA.1 (by simp [impl_ReachedNumbers.l0])
 | succ k2 => ?_
 have H := HA.1
 clear HA
 simp only [impl_ReachedNumbers.l0] at H
 replace H := ifB H; rcases H with ⟨c21b0, H⟩ | ⟨c21b0, H⟩
 · replace H := ifN H; obtain ⟨c22b0, H⟩ := H
   replace H := ifN H; obtain ⟨c23b0, H⟩ := H
   obtain ⟨bq24, hbq24⟩ : ∃ b_ : Bool, b_ = (rdOf false t1104 x25_2) := ⟨_, rfl⟩
   replace H : (if bq24 = true then (if x7_2.length < 17592186044416 then (impl_ReachedNumbers.l0 k2 (x7_2 ++ [x25_2]) t1104 (t1104.length : Int) (wrap64 (x25_2 + 1))) else (none)) else (impl_ReachedNumbers.l0 k2 x7_2 t1104 (t1104.length : Int) (wrap64 (x25_2 + 1)))) = some (r1, r2) := by rw [<- hbq24] at H; exact H
   have Nbq24 := Aside0.mk hbq24
   clear hbq24
   replace H := ifX H; rcases H with ⟨rfl, H⟩ | ⟨rfl, H⟩
   · replace H := ifP H; obtain ⟨c26, H⟩ := H
     have LMc26 := Aside0.mk c26
     clear c26
     generalize hy1111 : ((x7_2 ++ [x25_2]) : List Int) = y1111 at H
     have Ny1111 := Aside0.mk hy1111.symm; clear hy1111
     have H' := Aside0.mk H
     clear H
     have p1110 : 0 <= (x25_2 : Int) := OD
     have q1110 : x25_2 < (t1104.length : Int) := OD
     obtain ⟨ad1110, e1110, hx1110_0⟩ := Kd.at_bool (R_reads' HO_23.1).2.2 x25_2 p1110 q1110
     (try rw [<- Nbq24.1] at hx1110_0)
     cases e1110
     replace p1110 := eq_true p1110
     replace q1110 := eq_true q1110
     go_wp2_with (first | ((with_reducible refine gate_builtin (b := .append) (xs := #[.tmp 31, .tmp 33]) rfl ?_); at_builtin; refine R_append (Kd.int .i64) (w0 := w) w.heap.size rfl (.tmp 31) (.tmp 33) 38 3 (.int .i64 0) 8 rfl Try.underlying38 info3 rfl (by decide) (by omega) u7 x7_2 x25_2 [.int .i64 x25_2] (fun _ => True) (fun _ => False) rfl rfl ?aP (fun _ hk => hk.elim) ?aF ?aO ?aB ?aS ?aL ?_; (case aP => exact rfl); (case aB => exact (BL HB.1)); (case aF => exact (fun _ _ => trivial)); (case aO => exact (PR HO_7.1)); (case aS => exact (bZ HB.1)); (case aL => have := LMc26.1; omega); intro v1112 w27 ho hb hg hat; rw [<- Ny1111.1] at ho; refine E4 (R_over' (PR HO_23.1) (R_typed (PR HO_7.1)) (by decide) hg) (bG BK1101.1 hg (R_ne HO_7.1 BK1101.1 (by decide))) (hb) (ho) ?_; clear HO_23 BK1101 HB HO_7; intro HO_23 BK1101 HB HO1113; clear ho hb hg hat))
     go_roundg k2
     case measure => have := HJ2.1; have := HK2.1; omega
     case rel => exact ⟨(y1111), (wrap64 (x25_2 + 1)), RG, H', ⟨by have := HJ2.1; have := HK2.1; omega⟩, ⟨PR HO1113.1⟩, ⟨PR HO_23.1⟩, ⟨PB BK1101.1⟩, ⟨BL HB.1⟩⟩
   have H' := Aside0.mk H
   clear H
   have p1110 : 0 <= (x25_2 : Int) := OD
   have q1110 : x25_2 < (t1104.length : Int) := OD
   obtain ⟨ad1110, e1110, hx1110_0⟩ := Kd.at_bool (R_reads' HO_23.1).2.2 x25_2 p1110 q1110
   (try rw [<- Nbq24.1] at hx1110_0)
   cases e1110
   replace p1110 := eq_true p1110
   replace q1110 := eq_true q1110
   go_wp2
   go_roundg k2
   case measure => have := HJ2.1; have := HK2.1; omega
   case rel => exact ⟨(x7_2), (wrap64 (x25_2 + 1)), RG, H', ⟨by have := HJ2.1; have := HK2.1; omega⟩, ⟨PR HO_7.1⟩, ⟨PR HO_23.1⟩, ⟨PB BK1101.1⟩, ⟨BL HB.1⟩⟩
 simp only [Option.some.injEq, Prod.mk.injEq] at H
 obtain ⟨rfl, rfl⟩ := H
 go_wp2
 go_ret2
 exact ⟨_, RF, RPE (HO_7.1), BL HB.1⟩
mutual
def laws_FnExactReachedNumbers.j0 : Nat -> List Int -> List Int -> Bool -> List Int -> List Int -> Bool -> Bool -> Int -> Int -> List (S85) -> Int -> Int -> List (S83) -> Option (Bool)
 | 0, _, _, _, _, _, _, _, _, _, _, _, _, _ => none
 | k + 1, x1, x6, x7, x9, x10, x11, x51, x1115000, x1115001, x1115002, x1134000, x1134001, x1134002 => if x51 = true then (some false) else ((laws_toBoard.f k x1115000 x1115001 x1115002).bind fun bt1142 => ((laws_eqBoard.f k x1134000 x1134001 x1134002 bt1142.1 bt1142.2.1 bt1142.2.2).bind fun t1147 => (if t1147 = true then ((laws_toIntS.f k x1).bind fun t1148 => ((laws_eqIntS.f k x9 t1148).bind fun t1151 => (if t1151 = true then ((laws_markBoard.f k x1134000 x1134001 x1134002 1).bind fun bt1152 => ((laws_markIntS.f k x9 bt1152.1).bind fun bt1154 => (if bt1154.1 < 0 then (laws_FnExactReachedNumbers.j1 k x1 x6 x7 x10 true x1115000 x1115001 x1115002) else ((laws_eqIntS.f k x10 x6).bind fun t1156 => (if t1156 = true then (laws_FnExactReachedNumbers.j1 k x1 x6 x7 x10 (x11 != x7) x1115000 x1115001 x1115002) else (laws_FnExactReachedNumbers.j1 k x1 x6 x7 x10 true x1115000 x1115001 x1115002)))))) else (some false)))) else (some false))))
def laws_FnExactReachedNumbers.j1 : Nat -> List Int -> List Int -> Bool -> List Int -> Bool -> Int -> Int -> List (S85) -> Option (Bool)
 | 0, _, _, _, _, _, _, _, _ => none
 | k + 1, x1, x6, x7, x10, x80, x1115000, x1115001, x1115002 => if x80 = true then (some false) else ((laws_markIntS.f k x10 1).bind fun bt1157 => ((laws_heldIntS.f k bt1157.2 1).bind fun t1159 => (if t1159 < 0 then (some false) else (if t1159 = bt1157.1 then ((laws_toBoard.f k x1115000 x1115001 x1115002).bind fun bt1160 => ((laws_toIntS.f k x1).bind fun t1165 => ((impl_ReachedNumbers.f k bt1160.1 bt1160.2.1 bt1160.2.2 t1165).bind fun bt1168 => ((laws_eqIntS.f k bt1168.1 x6).bind fun t1172 => (if t1172 = true then (laws_FnExactReachedNumbers.j2 k bt1157.2 bt1157.1 (bt1168.2 != x7)) else (laws_FnExactReachedNumbers.j2 k bt1157.2 bt1157.1 true)))))) else (some false)))))
def laws_FnExactReachedNumbers.j2 : Nat -> List Int -> Int -> Bool -> Option (Bool)
 | 0, _, _, _ => none
 | k + 1, x10, x13, x108 => if x108 = true then (some false) else ((laws_heldIntS.f k x10 1).bind fun t1173 => (if t1173 < 0 then (some false) else (if t1173 = x13 then (some true) else (some false))))
end
def laws_FnExactReachedNumbers.f (k : Nat) (a0_0 : Int) (a0_1 : Int) (l0_2 : List (S85)) (l1 : List Int) : Option (Bool) := if (l1.length : Int) > 1048576 then (some true) else ((laws_szBoard.f a0_0 a0_1 l0_2 1048576).bind fun t1115 => (if t1115 < 0 then (some true) else ((laws_toBoard.f k a0_0 a0_1 l0_2).bind fun bt1116 => ((laws_toIntS.f k l1).bind fun t1121 => ((spec_ReachedNumbers.f k bt1116.1 bt1116.2.1 bt1116.2.2 t1121).bind fun bt1124 => ((laws_toBoard.f k a0_0 a0_1 l0_2).bind fun bt1128 => ((laws_toIntS.f k l1).bind fun t1134 => ((impl_ReachedNumbers.f k bt1128.1 bt1128.2.1 bt1128.2.2 t1134).bind fun bt1137 => ((laws_eqIntS.f k bt1137.1 bt1124.1).bind fun t1141 => (if t1141 = true then (laws_FnExactReachedNumbers.j0 k l1 bt1124.1 bt1124.2 t1134 bt1137.1 bt1137.2 (bt1137.2 != bt1124.2) a0_0 a0_1 l0_2 bt1128.1 bt1128.2.1 bt1128.2.2) else (laws_FnExactReachedNumbers.j0 k l1 bt1124.1 bt1124.2 t1134 bt1137.1 bt1137.2 true a0_0 a0_1 l0_2 bt1128.1 bt1128.2.1 bt1128.2.2)))))))))))
theorem laws_FnExactReachedNumbers.mono_l : ∀ k, (∀ y0 y1 y2 y3 y4 y5 y6 y7 y8 y9 y10 y11 y12, LeO (laws_FnExactReachedNumbers.j0 k y0 y1 y2 y3 y4 y5 y6 y7 y8 y9 y10 y11 y12) (laws_FnExactReachedNumbers.j0 (k + 1) y0 y1 y2 y3 y4 y5 y6 y7 y8 y9 y10 y11 y12)) /\ (∀ y0 y1 y2 y3 y4 y5 y6 y7, LeO (laws_FnExactReachedNumbers.j1 k y0 y1 y2 y3 y4 y5 y6 y7) (laws_FnExactReachedNumbers.j1 (k + 1) y0 y1 y2 y3 y4 y5 y6 y7)) /\ (∀ y0 y1 y2, LeO (laws_FnExactReachedNumbers.j2 k y0 y1 y2) (laws_FnExactReachedNumbers.j2 (k + 1) y0 y1 y2))
 | 0 => by refine ⟨?_, ?_, ?_⟩ <;> (intros; intro r h; first | (simp [laws_FnExactReachedNumbers.j0] at h; done) | (simp [laws_FnExactReachedNumbers.j1] at h; done) | (simp [laws_FnExactReachedNumbers.j2] at h; done))
 | k + 1 => by
  obtain ⟨ih0, ih1, ih2⟩ := laws_FnExactReachedNumbers.mono_l k
  refine ⟨?_, ?_, ?_⟩ <;> (
   intros
   first | unfold laws_FnExactReachedNumbers.j0 | unfold laws_FnExactReachedNumbers.j1 | unfold laws_FnExactReachedNumbers.j2
   repeat' first | (with_reducible first | apply ih0 | apply ih1 | apply ih2 | apply impl_ReachedNumbers.mono | apply laws_eqBoard.mono | apply laws_eqIntS.mono | apply laws_heldIntS.mono | apply laws_markBoard.mono | apply laws_markIntS.mono | apply laws_toBoard.mono | apply laws_toIntS.mono | apply spec_ReachedNumbers.mono | exact LeO.refl _ | exact LeO.none _ | refine LeO.ite ?_ ?_ | refine LeO.bind ?_ (fun _ => ?_)) | exact LeO.none _ | refine LeO.ite ?_ ?_ | refine LeO.bind ?_ (fun _ => ?_))
theorem laws_FnExactReachedNumbers.mono : ∀ a0 a1 a2 a3 k, LeO (laws_FnExactReachedNumbers.f k a0 a1 a2 a3) (laws_FnExactReachedNumbers.f (k + 1) a0 a1 a2 a3) := by
 intro a0 a1 a2 a3 k
 obtain ⟨ih0, ih1, ih2⟩ := laws_FnExactReachedNumbers.mono_l k
 unfold laws_FnExactReachedNumbers.f
 repeat' first | (with_reducible first | apply ih0 | apply ih1 | apply ih2 | apply impl_ReachedNumbers.mono | apply laws_eqBoard.mono | apply laws_eqIntS.mono | apply laws_heldIntS.mono | apply laws_markBoard.mono | apply laws_markIntS.mono | apply laws_toBoard.mono | apply laws_toIntS.mono | apply spec_ReachedNumbers.mono | exact LeO.refl _ | exact LeO.none _ | refine LeO.ite ?_ ?_ | refine LeO.bind ?_ (fun _ => ?_)) | exact LeO.none _ | refine LeO.ite ?_ ?_ | refine LeO.bind ?_ (fun _ => ?_)
theorem laws_FnExactReachedNumbers.calls (k : Nat) (a0_0 : Int) (a0_1 : Int) (A0_2 : Option Addr) (c0_2 : Nat) (l0_2 : List (S85)) (A1 : Option Addr) (c1 : Nat) (l1 : List Int) (w : World) (hr0_2 : Kd.C k85 w A0_2 l0_2.length l0_2) (hc0_2 : l0_2.length <= c0_2) (hr1 : Kd.C (Kd.int .i64) w A1 l1.length l1) (hc1 : l1.length <= c1) (h : laws_FnExactReachedNumbers.f k a0_0 a0_1 l0_2 l1 = some true) :
 Calls Try.prog 10 #[.agg #[.int .i64 a0_0, .int .i64 a0_1, .slice A0_2 l0_2.length c0_2], .slice A1 l1.length c1] w fun e w' => e = .returned (.bool true) /\ Below w.heap.size w w' := by
 have hu24 := Try.underlying24
 have hu30 := Try.underlying30
 have HR0_2 := Aside0.mk hr0_2
 have HC0_2 := Aside0.mk hc0_2
 clear hr0_2 hc0_2
 have HR1 := Aside0.mk hr1
 have HC1 := Aside0.mk hc1
 clear hr1 hc1
 have HB := Aside0.mk (Below.refl w.heap.size w)
 have H := h
 clear h
 unfold laws_FnExactReachedNumbers.f at H
 replace H := ifQ H; rcases H with ⟨c3, H⟩ | ⟨c3, H⟩
 · have c3b0 : decide (1048576 < (l1.length : Int)) = true := decide_eq_true c3
   have c3b1 : decide (1048576 < l1.length) = true := decide_eq_true (by omega)
   clear c3
   first | (obtain rfl := Option.some.inj H) | clear H
   go_enter Try.func10, Try.ntmps10
   go_wp2_with (first | ((with_reducible refine gate_dst (N := 2) rfl ?_); refine boxE (cs := #[.int .i64 a0_0, .int .i64 a0_1, .slice A0_2 l0_2.length c0_2]) (t := 24) ?_; intro gb1114 hg w4 hbox hb; refine E4b HB.1 hg hbox hb ?_; clear HB; intro HB BK1114 GW1114 GE1114; clear hb hbox hg))
   go_ret
   exact ⟨RF, BL HB.1⟩
 have c3b0 : decide (1048576 < (l1.length : Int)) = false := decide_eq_false c3
 have c3b1 : decide (1048576 < l1.length) = false := decide_eq_false (by omega)
 clear c3
 replace H := bindA H; obtain ⟨t1115, A5, H⟩ := H
 replace H := ifB H; rcases H with ⟨c6b0, H⟩ | ⟨c6b0, H⟩
 · first | (obtain rfl := Option.some.inj H) | clear H
   go_enter Try.func10, Try.ntmps10
   go_wp2_with (first | ((with_reducible refine gate_dst (N := 2) rfl ?_); refine boxE (cs := #[.int .i64 a0_0, .int .i64 a0_1, .slice A0_2 l0_2.length c0_2]) (t := 24) ?_; intro gb1114 hg w7 hbox hb; refine E4b HB.1 hg hbox hb ?_; clear HB; intro HB BK1114 GW1114 GE1114; clear hb hbox hg; obtain ⟨hcz8_0, hcz8_1, hcz8_2, hfz8_0, hfz8_1, hfz8_2⟩ := cz3 BK1114.1) | ((with_reducible refine gate_callee (f := 13) rfl ?_); refine goesM (N := (some 22)) #[.agg #[.int .i64 a0_0, .int .i64 a0_1, .slice A0_2 l0_2.length c0_2], .int .i64 1048576] Try.func13 ?_; (with_reducible refine (laws_szBoard.calls a0_0 a0_1 _ _ l0_2 1048576 t1115 _ ?side1 ?side2 A5.1).mono ?_); (case side1 => exact CB (C_below HR0_2.1 HB.1)); (case side2 => exact HC0_2.1); rintro e w9 ⟨rfl, hb⟩; refine ⟨_, rfl, ?_⟩; refine E2 (bB BK1114.1 hb) (bS HB.1 hb) ?_; clear BK1114 HB; intro BK1114 HB; (try clear hb)))
   go_ret
   exact ⟨RF, BL HB.1⟩
 replace H := bindA H; obtain ⟨⟨t1116, t1117, t1118⟩, A10, H⟩ := H
 dsimp only at H
 replace H := bindA H; obtain ⟨t1121, A11, H⟩ := H
 replace H := bindA H; obtain ⟨⟨t1124, t1127⟩, A12, H⟩ := H
 dsimp only at H
 replace H := bindA H; obtain ⟨⟨t1128, t1129, t1130⟩, A13, H⟩ := H
 dsimp only at H
 replace H := bindA H; obtain ⟨t1134, A14, H⟩ := H
 replace H := bindA H; obtain ⟨⟨t1137, t1140⟩, A15, H⟩ := H
 dsimp only at H
 have HC16 := Aside0.mk H
 clear H
 go_enter Try.func10, Try.ntmps10
 go_upto_region 11 with (first | ((with_reducible refine gate_dst (N := 2) rfl ?_); refine boxE (cs := #[.int .i64 a0_0, .int .i64 a0_1, .slice A0_2 l0_2.length c0_2]) (t := 24) ?_; intro gb1114 hg w17 hbox hb; refine E4b HB.1 hg hbox hb ?_; clear HB; intro HB BK1114 GW1114 GE1114; clear hb hbox hg; obtain ⟨hcz18_0, hcz18_1, hcz18_2, hfz18_0, hfz18_1, hfz18_2⟩ := cz3 BK1114.1) | ((with_reducible refine gate_callee (f := 13) rfl ?_); refine goesM (N := (some 22)) #[.agg #[.int .i64 a0_0, .int .i64 a0_1, .slice A0_2 l0_2.length c0_2], .int .i64 1048576] Try.func13 ?_; (with_reducible refine (laws_szBoard.calls a0_0 a0_1 _ _ l0_2 1048576 t1115 _ ?side1 ?side2 A5.1).mono ?_); (case side1 => exact CB (C_below HR0_2.1 HB.1)); (case side2 => exact HC0_2.1); rintro e w19 ⟨rfl, hb⟩; refine ⟨_, rfl, ?_⟩; refine E2 (bB BK1114.1 hb) (bS HB.1 hb) ?_; clear BK1114 HB; intro BK1114 HB; (try clear hb); obtain ⟨hcz20_0, hcz20_1, hcz20_2, hfz20_0, hfz20_1, hfz20_2⟩ := cz3 BK1114.1) | ((with_reducible refine gate_callee (f := 15) rfl ?_); refine goesM (N := (some 27)) #[.agg #[.int .i64 a0_0, .int .i64 a0_1, .slice A0_2 l0_2.length c0_2]] Try.func15 ?_; (with_reducible refine (laws_toBoard.calls k a0_0 a0_1 _ _ l0_2 t1116 t1117 t1118 _ ?side1 ?side2 A10.1).mono ?_); (case side1 => exact CB (C_below HR0_2.1 HB.1)); (case side2 => exact HC0_2.1); rintro e w21 ⟨v1119, rfl, ho0, hb⟩; refine ⟨_, rfl, ?_⟩; refine E3 (R_lower ho0 (bZ HB.1)) (bB BK1114.1 hb) (bS HB.1 hb) ?_; clear BK1114 HB; intro HO1120 BK1114 HB; (try clear hb); (try clear ho0)) | ((with_reducible refine gate_callee (f := 31) rfl ?_); refine goesM (N := (some 29)) #[.slice A1 l1.length c1] Try.func31 ?_; (with_reducible refine (laws_toIntS.calls k _ _ l1 t1121 _ ?side1 ?side2 A11.1).mono ?_); (case side1 => exact CB (C_below HR1.1 HB.1)); (case side2 => exact HC1.1); rintro e w22 ⟨v1122, rfl, ho0, hb⟩; refine ⟨_, rfl, ?_⟩; refine E4 (rB HO1120.1 hb) (R_lower ho0 (bZ HB.1)) (bB BK1114.1 hb) (bS HB.1 hb) ?_; clear HO1120 BK1114 HB; intro HO1120 HO1123 BK1114 HB; (try clear hb); (try clear ho0); obtain ⟨Ao23, co23, eo23⟩ := R_slice HO1120.1; subst eo23; obtain ⟨Ao24, co24, eo24⟩ := R_slice HO1123.1; subst eo24) | ((with_reducible refine gate_callee (f := 35) rfl ?_); refine goesM (N := (some 30)) #[.agg #[.int .i64 t1116, .int .i64 t1117, .slice Ao23 t1118.length co23], .slice Ao24 t1121.length co24] Try.func35 ?_; (with_reducible refine (spec_ReachedNumbers.calls k t1116 t1117 _ _ t1118 _ _ t1121 t1124 t1127 _ ?side1 ?side2 ?side3 ?side4 A12.1).mono ?_); (case side1 => exact CB (R_reads' HO1120.1).2.2); (case side2 => exact (R_reads' HO1120.1).2.1); (case side3 => exact CB (R_reads' HO1123.1).2.2); (case side4 => exact (R_reads' HO1123.1).2.1); rintro e w25 ⟨v1125, rfl, ho0, hb⟩; refine ⟨_, rfl, ?_⟩; refine E5 (rB HO1120.1 hb) (R_elder' (PR HO1123.1) (R_base ho0) hb) (R_lower (R_new' ho0 (R_lt (PR HO1123.1))) (bZ HB.1)) (bB BK1114.1 hb) (bS HB.1 hb) ?_; clear HO1120 HO1123 BK1114 HB; intro HO1120 HO1123 HO1126 BK1114 HB; (try clear hb); (try clear ho0); obtain ⟨hcz26_0, hcz26_1, hcz26_2, hfz26_0, hfz26_1, hfz26_2⟩ := cz3 BK1114.1) | ((with_reducible refine gate_callee (f := 15) rfl ?_); refine goesM (N := (some 34)) #[.agg #[.int .i64 a0_0, .int .i64 a0_1, .slice A0_2 l0_2.length c0_2]] Try.func15 ?_; (with_reducible refine (laws_toBoard.calls k a0_0 a0_1 _ _ l0_2 t1128 t1129 t1130 _ ?side1 ?side2 A13.1).mono ?_); (case side1 => exact CB (C_below HR0_2.1 HB.1)); (case side2 => exact HC0_2.1); rintro e w27 ⟨v1131, rfl, ho0, hb⟩; refine ⟨_, rfl, ?_⟩; refine E6 (R_elder' (PR HO1120.1) (R_base ho0) hb) (rB HO1123.1 hb) (rB HO1126.1 hb) (R_lower (R_new' ho0 (R_lt (PR HO1120.1))) (bZ HB.1)) (bB BK1114.1 hb) (bS HB.1 hb) ?_; clear HO1120 HO1123 HO1126 BK1114 HB; intro HO1120 HO1123 HO1126 HO1132 BK1114 HB; (try clear hb); (try clear ho0)) | ((with_reducible refine gate_dst (N := 8) rfl ?_); refine boxE (cs := #[.int .i64 0, .int .i64 0, .slice none 0 0]) (t := 30) ?_; intro gb1133 hg w28 hbox hb; refine E11 (rB HO1120.1 hb) (rB HO1123.1 hb) (rB HO1126.1 hb) (rB HO1132.1 hb) (bB BK1114.1 hb) (bS HB.1 hb) (hbox) (gX HB.1 hg) (gX HB.1 hg) (nB BK1114.1 hg) (nC BK1114.1 hg) ?_; clear HO1120 HO1123 HO1126 HO1132 BK1114 HB; intro HO1120 HO1123 HO1126 HO1132 BK1114 HB BK1133 GW1133 GE1133 NB1114_1133 NB1133_1114; clear hb hbox hg; have hnb29 := NB1133_1114.1; have hnc29 := NB1114_1133.1; obtain ⟨hcz30_0, hcz30_1, hcz30_2, hfz30_0, hfz30_1, hfz30_2⟩ := cz3 BK1133.1; obtain ⟨Ao31, co31, eo31⟩ := R_slice HO1132.1; subst eo31) | ((with_reducible refine gate_callee (f := 31) rfl ?_); refine goesM (N := (some 36)) #[.slice A1 l1.length c1] Try.func31 ?_; (with_reducible refine (laws_toIntS.calls k _ _ l1 t1134 _ ?side1 ?side2 A14.1).mono ?_); (case side1 => exact C_below HR1.1 (BL HB.1)); (case side2 => exact HC1.1); rintro e w32 ⟨v1135, rfl, ho0, hb⟩; refine ⟨_, rfl, ?_⟩; refine E8 (R_below (by (with_reducible repeat (first | apply R_alloc | apply R_drewN | apply R_drew)); exact (R_mono (RQ gb1133 2 (RQ gb1133 1 (RQ gb1133 0 (R_types HO1120.1 BK1133.1 (by decide)) _) _) _) (fun _ h_ => h_.1))) hb) (R_elder' (by (with_reducible repeat (first | apply R_alloc | apply R_drewN | apply R_drew)); exact (R_mono (RQ gb1133 2 (RQ gb1133 1 (RQ gb1133 0 (R_types HO1123.1 BK1133.1 (by decide)) _) _) _) (fun _ h_ => h_.1))) (R_base ho0) hb) (R_elder' (by (with_reducible repeat (first | apply R_alloc | apply R_drewN | apply R_drew)); exact (R_mono (RQ gb1133 2 (RQ gb1133 1 (RQ gb1133 0 (R_types HO1126.1 BK1133.1 (by decide)) _) _) _) (fun _ h_ => h_.1))) (R_base ho0) hb) (R_below (by (with_reducible repeat (first | apply R_alloc | apply R_drewN | apply R_drew)); exact (R_mono (RQ gb1133 2 (RQ gb1133 1 (RQ gb1133 0 (R_types HO1132.1 BK1133.1 (by decide)) _) _) _) (fun _ h_ => h_.1))) hb) (R_lower (R_new' (R_new' ho0 (R_lt (by (with_reducible repeat (first | apply R_alloc | apply R_drewN | apply R_drew)); exact (R_mono (RQ gb1133 2 (RQ gb1133 1 (RQ gb1133 0 (R_types HO1123.1 BK1133.1 (by decide)) _) _) _) (fun _ h_ => h_.1))))) (R_lt (by (with_reducible repeat (first | apply R_alloc | apply R_drewN | apply R_drew)); exact (R_mono (RQ gb1133 2 (RQ gb1133 1 (RQ gb1133 0 (R_types HO1126.1 BK1133.1 (by decide)) _) _) _) (fun _ h_ => h_.1))))) (bZ HB.1)) (blk_below (g := gb1114) (o := .cells #[.int .i64 a0_0, .int .i64 a0_1, .slice A0_2 l0_2.length c0_2] 24 (0, 0)) (PF1 NB1114_1133.1 BK1114.1) hb) (blk_below (g := gb1133) (o := .cells #[.int .i64 t1128, .int .i64 t1129, .slice Ao31 t1130.length co31] 30 (0, 0)) (PF0 BK1133.1) hb) (bS HB.1 hb) ?_; clear HO1120 HO1123 HO1126 HO1132 BK1114 BK1133 HB; intro HO1120 HO1123 HO1126 HO1132 HO1136 BK1114 BK1133 HB; (try clear hb); (try clear ho0); obtain ⟨hcz33_0, hcz33_1, hcz33_2, hfz33_0, hfz33_1, hfz33_2⟩ := cz3 BK1133.1; obtain ⟨Ao34, co34, eo34⟩ := R_slice HO1136.1; subst eo34) | ((with_reducible refine gate_callee (f := 36) rfl ?_); refine goesM (N := (some 40)) #[.agg #[.int .i64 t1128, .int .i64 t1129, .slice Ao31 t1130.length co31], .slice Ao34 t1134.length co34] Try.func36 ?_; (with_reducible refine (impl_ReachedNumbers.calls k t1128 t1129 _ _ t1130 _ _ t1134 t1137 t1140 _ ?side1 ?side2 ?side3 ?side4 A15.1).mono ?_); (case side1 => exact CB (R_reads' HO1132.1).2.2); (case side2 => exact (R_reads' HO1132.1).2.1); (case side3 => exact CB (R_reads' HO1136.1).2.2); (case side4 => exact (R_reads' HO1136.1).2.1); rintro e w35 ⟨v1138, rfl, ho0, hb⟩; refine ⟨_, rfl, ?_⟩; refine E9 (rB HO1120.1 hb) (R_elder' (PR HO1123.1) (R_base ho0) hb) (R_elder' (PR HO1126.1) (R_base ho0) hb) (rB HO1132.1 hb) (R_elder' (PR HO1136.1) (R_base ho0) hb) (R_lower (R_new' (R_new' (R_new' ho0 (R_lt (PR HO1123.1))) (R_lt (PR HO1126.1))) (R_lt (PR HO1136.1))) (bZ HB.1)) (bB BK1114.1 hb) (bB BK1133.1 hb) (bS HB.1 hb) ?_; clear HO1120 HO1123 HO1126 HO1132 HO1136 BK1114 BK1133 HB; intro HO1120 HO1123 HO1126 HO1132 HO1136 HO1139 BK1114 BK1133 HB; (try clear hb); (try clear ho0)))
 (try simp only [Act.put, List.setIfInBounds_toArray, List.set_cons_zero, List.set_cons_succ])
 go_cut [51] (fun v51 wc => ∃ (kq : Nat) (x51_15 : Bool), v51 = .bool x51_15 /\ Aside0 (laws_FnExactReachedNumbers.j0 kq l1 t1124 t1127 t1134 t1137 t1140 x51_15 a0_0 a0_1 l0_2 t1128 t1129 t1130 = some true) /\ Aside0 (kq <= k) /\ Aside0 (Kd.R (Kd.int .i64) 3 wc w.heap.size (fun k_ => some k_ ≠ ((.slice Ao34 t1134.length co34) : Value).ownBlock /\ some k_ ≠ (v1138 : Value).ownBlock) v1125 t1124) /\ Aside0 (Kd.R (Kd.int .i64) 3 wc w.heap.size (fun k_ => some k_ ≠ (v1125 : Value).ownBlock /\ some k_ ≠ (v1138 : Value).ownBlock) (.slice Ao34 t1134.length co34) t1134) /\ Aside0 (Kd.R (Kd.int .i64) 3 wc w.heap.size (fun k_ => some k_ ≠ (v1125 : Value).ownBlock /\ some k_ ≠ ((.slice Ao34 t1134.length co34) : Value).ownBlock) v1138 t1137) /\ Aside0 (Kd.R k83 83 wc w.heap.size (fun _ => True) (.slice Ao31 t1130.length co31) t1130) /\ Aside0 (wc.heap[gb1114]? = some (.cells #[.int .i64 a0_0, .int .i64 a0_1, (.slice A0_2 l0_2.length c0_2)] 24 (0, 0))) /\ Aside0 (wc.heap[gb1133]? = some (.cells #[.int .i64 t1128, .int .i64 t1129, (.slice Ao31 t1130.length co31)] 30 (0, 0))) /\ Aside0 (Below w.heap.size w wc))
 case first =>
  have H := HC16.1
  clear HC16
  replace H := bindA H; obtain ⟨t1141, A36, H⟩ := H
  replace H := ifT H (by cases k <;> simp [laws_FnExactReachedNumbers.j0]); obtain ⟨rfl, H⟩ := H
  have H' := Aside0.mk H
  clear H
  obtain ⟨Ao38, co38, eo38⟩ := R_slice HO1139.1
  subst eo38
  obtain ⟨Ao39, co39, eo39⟩ := R_slice HO1126.1
  subst eo39
  go_wp2_with (first | ((with_reducible refine gate_callee (f := 26) rfl ?_); refine goesM (N := (some 45)) #[.slice Ao38 t1137.length co38, .slice Ao39 t1124.length co39] Try.func26 ?_; (with_reducible refine (laws_eqIntS.calls k _ _ t1137 _ _ t1124 true _ ?side1 ?side2 ?side3 ?side4 A36.1).mono ?_); (case side1 => exact CB (R_reads' HO1139.1).2.2); (case side2 => exact (R_reads' HO1139.1).2.1); (case side3 => exact CB (R_reads' HO1126.1).2.2); (case side4 => exact (R_reads' HO1126.1).2.1); rintro e w' ⟨rfl, ⟨nd, rfl⟩⟩; refine ⟨_, rfl, ?_⟩))
  go_meet
  case rel => exact ⟨_, ((t1140 != t1127)), RG, H', ⟨by first | omega | exact Nat.le_refl _⟩, ⟨RPE (R_mono HO1126.1 (fun _ hk => ⟨hk.1.2, hk.2⟩))⟩, ⟨RPE (R_mono HO1136.1 (fun _ hk => ⟨hk.1.2, hk.2⟩))⟩, ⟨RPE (R_mono HO1139.1 (fun _ hk => ⟨hk.1.2, hk.2⟩))⟩, ⟨RPE (R_mono HO1132.1 (fun _ hk => trivial))⟩, ⟨PB BK1114.1⟩, ⟨PB BK1133.1⟩, ⟨BL HB.1⟩⟩
 clear HC16
 try clear c1; clear c3b0 c3b1 c6b0 hcz18_0 hcz18_1 hcz18_2 hcz20_0 hcz20_1 hcz20_2 hcz26_0 hcz26_1 hcz26_2 hcz30_0 hcz30_1 hcz30_2 hcz33_0 hcz33_1 hcz33_2 hfz18_0 hfz18_1 hfz18_2 hfz20_0 hfz20_1 hfz20_2 hfz26_0 hfz26_1 hfz26_2 hfz30_0 hfz30_1 hfz30_2 hfz33_0 hfz33_1 hfz33_2
 obtain ⟨kq, x51_15, rfl, HA, HJ15, HO_6, HO_9, HO_10, HO_1134002, BK1114, BK1133, HB⟩ := hcut
 cases kq with
 | zero => exact absurd HA.1 (by simp [laws_FnExactReachedNumbers.j0])
 | succ kj15 => ?_
 have H := HA.1
 clear HA
 simp only [laws_FnExactReachedNumbers.j0] at H
 replace H := ifF H (by simp); obtain ⟨rfl, H⟩ := H
 replace H := bindA H; obtain ⟨⟨t1142, t1143, t1144⟩, A43, H⟩ := H
 dsimp only at H
 replace H := bindA H; obtain ⟨t1147, A44, H⟩ := H
 replace H := ifT H (by simp); obtain ⟨rfl, H⟩ := H
 replace H := bindA H; obtain ⟨t1148, A46, H⟩ := H
 replace H := bindA H; obtain ⟨t1151, A47, H⟩ := H
 replace H := ifT H (by simp); obtain ⟨rfl, H⟩ := H
 replace H := bindA H; obtain ⟨⟨t1152, t1153⟩, A49, H⟩ := H
 dsimp only at H
 replace H := bindA H; obtain ⟨⟨t1154, t1155⟩, A50, H⟩ := H
 dsimp only at H
 have HC51 := Aside0.mk H
 clear H
 try go_wp2
 refine E7 (R_drew HO_6.1) (R_drew HO_9.1) (R_drew HO_10.1) (R_drew HO_1134002.1) (blk_drew BK1114.1) (blk_drew BK1133.1) (below_drew1 HB.1) ?_
 clear HO_6 HO_9 HO_10 HO_1134002 BK1114 BK1133 HB
 intro HO_6 HO_9 HO_10 HO_1134002 BK1114 BK1133 HB
 refine start_ (n := 5) (S := fun w' => w'.cell? ⟨gb1133, 0, none⟩ = some (.int .i64 t1128) /\ w'.cell? ⟨gb1133, 1, none⟩ = some (.int .i64 t1129) /\ w'.cell? ⟨gb1133, 2, none⟩ = some (.slice Ao31 t1130.length co31) /\ w'.cell? ⟨gb1114, 0, none⟩ = some (.int .i64 a0_0) /\ w'.cell? ⟨gb1114, 1, none⟩ = some (.int .i64 a0_1) /\ w'.cell? ⟨gb1114, 2, none⟩ = some (.slice A0_2 l0_2.length c0_2)) (ds := []) #[Zz,Zz,Zz,Zz,Zz] (by kernel_rfl) rfl rfl ⟨(blk_cell BK1133.1 0).trans rfl, (blk_cell BK1133.1 1).trans rfl, (blk_cell BK1133.1 2).trans rfl, (blk_cell BK1114.1 0).trans rfl, (blk_cell BK1114.1 1).trans rfl, (blk_cell BK1114.1 2).trans rfl⟩ (fun hHeld => ?_)
 generalize wc.drew = w52 at HO_6 HO_9 HO_10 HO_1134002 BK1114 BK1133 HB hHeld ⊢
 refine takeF 0 (N := some 52) hHeld ?_
 refine takeF 1 (N := some 53) hHeld ?_
 refine one_ (i := 2) (N := some 54) #[Yy,Yy,Yy,Zz,Zz] rfl rfl (by kernel_rfl) (by decide) (fun K hK => ?_)
 refine goes_ Try.func15 (by kernel_rfl) rfl #[.agg #[.int .i64 a0_0, .int .i64 a0_1, .slice A0_2 l0_2.length c0_2]] (by rfl) rfl rfl (by (try simp only [List.map_toArray, List.map_cons, List.map_nil]); first | done | rfl | (simp only [List.length_drop, List.length_take]; rfl)) ?_
 with_reducible refine (laws_toBoard.calls kj15 a0_0 a0_1 _ _ l0_2 t1142 t1143 t1144 _ ?side1 ?side2 A43.1).mono ?_
 (case side1 => exact CB (C_below HR0_2.1 HB.1))
 (case side2 => exact HC0_2.1)
 rintro e w53 ⟨v1145, rfl, ho0, hb⟩
 refine ⟨_, rfl, ?_⟩
 refine E8 (rB HO_6.1 hb) (rB HO_9.1 hb) (rB HO_10.1 hb) (R_elder' (PR HO_1134002.1) (R_base ho0) hb) (R_lower (R_new' ho0 (R_lt (PR HO_1134002.1))) (bZ HB.1)) (bB BK1114.1 hb) (bB BK1133.1 hb) (bS HB.1 hb) ?_
 clear HO_6 HO_9 HO_10 HO_1134002 BK1114 BK1133 HB
 intro HO_6 HO_9 HO_10 HO_1134002 HO1146 BK1114 BK1133 HB
 (try clear hb)
 (try clear hb2)
 (try clear hk)
 (try clear hi)
 (try clear ho0)
 obtain ⟨Ao54, co54, eo54⟩ := R_slice HO1146.1
 (first | subst eo54 | (injection eo54 with f1_ f2_ f3_; have f4_ := f1_.symm; have f5_ := f3_.symm; clear f1_ f2_ f3_; subst f4_; subst f5_))
 refine hK.out _ _ ⟨(blk_cell BK1133.1 0).trans rfl, (blk_cell BK1133.1 1).trans rfl, (blk_cell BK1133.1 2).trans rfl, (blk_cell BK1114.1 0).trans rfl, (blk_cell BK1114.1 1).trans rfl, (blk_cell BK1114.1 2).trans rfl⟩ (fun hHeld => ?_)
 clear hK K
 refine norm_ (a' := ?_) ?_ ?_
 rotate_left
 · show Act.put _ (some 54) _ = _
   simp only [Act.put, List.setIfInBounds_toArray, List.set_cons_zero, List.set_cons_succ, i64_w, i32_w]
   rfl
 refine one_ (i := 3) (N := some 55) #[Yy,Yy,Yy,Yy,Zz] rfl rfl (by kernel_rfl) (by decide) (fun K hK => ?_)
 refine goes_ Try.func17 (by kernel_rfl) rfl #[.agg #[.int .i64 t1128, .int .i64 t1129, .slice Ao31 t1130.length co31], .agg #[.int .i64 t1142, .int .i64 t1143, .slice Ao54 t1144.length co54]] (by rfl) rfl rfl (by (try simp only [List.map_toArray, List.map_cons, List.map_nil]); first | done | rfl | (simp only [List.length_drop, List.length_take]; rfl)) ?_
 with_reducible refine (laws_eqBoard.calls kj15 t1128 t1129 _ _ t1130 t1142 t1143 _ _ t1144 true _ ?side1 ?side2 ?side3 ?side4 A44.1).mono ?_
 (case side1 => exact CB (R_reads' HO_1134002.1).2.2)
 (case side2 => exact (R_reads' HO_1134002.1).2.1)
 (case side3 => exact CB (R_reads' HO1146.1).2.2)
 (case side4 => exact (R_reads' HO1146.1).2.1)
 rintro e w55 ⟨rfl, hb⟩
 refine ⟨_, rfl, ?_⟩
 refine E8 (rB HO_6.1 hb) (rB HO_9.1 hb) (rB HO_10.1 hb) (rB HO_1134002.1 hb) (rB HO1146.1 hb) (bB BK1114.1 hb) (bB BK1133.1 hb) (bS HB.1 hb) ?_
 clear HO_6 HO_9 HO_10 HO_1134002 HO1146 BK1114 BK1133 HB
 intro HO_6 HO_9 HO_10 HO_1134002 HO1146 BK1114 BK1133 HB
 (try clear hb)
 (try clear hb2)
 (try clear hk)
 (try clear hi)
 refine hK.out _ _ ⟨(blk_cell BK1133.1 0).trans rfl, (blk_cell BK1133.1 1).trans rfl, (blk_cell BK1133.1 2).trans rfl, (blk_cell BK1114.1 0).trans rfl, (blk_cell BK1114.1 1).trans rfl, (blk_cell BK1114.1 2).trans rfl⟩ (fun hHeld => ?_)
 clear hK K
 refine norm_ (a' := ?_) ?_ ?_
 rotate_left
 · show Act.put _ (some 55) _ = _
   simp only [Act.put, List.setIfInBounds_toArray, List.set_cons_zero, List.set_cons_succ, i64_w, i32_w]
   rfl
 refine pure_ (i := 4) (N := some 56) (v := ?_) (a' := ?_) #[Yy,Yy,Yy,Yy,Yy] rfl rfl (by kernel_rfl) (fun _ _ _ h => h) (Or.inl ⟨by rfl, ?_⟩) ?_ ?_
 rotate_left
 · intro w'
   go_simp
   with_reducible rfl
 rotate_left
 · simp only [Act.put, List.setIfInBounds_toArray, List.set_cons_zero, List.set_cons_succ, i64_w, i32_w]
   rfl
 refine done_ (by kernel_rfl) ?_
 go_upto_region 20 with (first | ((with_reducible refine gate_callee (f := 31) rfl ?_); refine goesM (N := (some 59)) #[.slice A1 l1.length c1] Try.func31 ?_; (with_reducible refine (laws_toIntS.calls kj15 _ _ l1 t1148 _ ?side1 ?side2 A46.1).mono ?_); (case side1 => exact CB (C_below HR1.1 HB.1)); (case side2 => exact HC1.1); rintro e w56 ⟨v1149, rfl, ho0, hb⟩; refine ⟨_, rfl, ?_⟩; refine E9 (R_elder' (PR HO_6.1) (R_base ho0) hb) (R_elder' (PR HO_9.1) (R_base ho0) hb) (R_elder' (PR HO_10.1) (R_base ho0) hb) (rB HO_1134002.1 hb) (rB HO1146.1 hb) (R_lower (R_new' (R_new' (R_new' ho0 (R_lt (PR HO_6.1))) (R_lt (PR HO_9.1))) (R_lt (PR HO_10.1))) (bZ HB.1)) (bB BK1114.1 hb) (bB BK1133.1 hb) (bS HB.1 hb) ?_; clear HO_6 HO_9 HO_10 HO_1134002 HO1146 BK1114 BK1133 HB; intro HO_6 HO_9 HO_10 HO_1134002 HO1146 HO1150 BK1114 BK1133 HB; (try clear hb); (try clear ho0); obtain ⟨Ao57, co57, eo57⟩ := R_slice HO1150.1; subst eo57) | ((with_reducible refine gate_callee (f := 26) rfl ?_); refine goesM (N := (some 60)) #[.slice Ao34 t1134.length co34, .slice Ao57 t1148.length co57] Try.func26 ?_; (with_reducible refine (laws_eqIntS.calls kj15 _ _ t1134 _ _ t1148 true _ ?side1 ?side2 ?side3 ?side4 A47.1).mono ?_); (case side1 => exact CB (R_reads' HO_9.1).2.2); (case side2 => exact (R_reads' HO_9.1).2.1); (case side3 => exact CB (R_reads' HO1150.1).2.2); (case side4 => exact (R_reads' HO1150.1).2.1); rintro e w' ⟨rfl, ⟨nd, rfl⟩⟩; refine ⟨_, rfl, ?_⟩; have hnb58 := NB1133_1114.1; have hnc58 := NB1114_1133.1; obtain ⟨hcz59_0, hcz59_1, hcz59_2, hfz59_0, hfz59_1, hfz59_2⟩ := cz3 BK1133.1) | ((with_reducible refine gate_callee (f := 27) rfl ?_); refine goesM (N := (some 64)) #[.agg #[.int .i64 t1128, .int .i64 t1129, .slice Ao31 t1130.length co31], .int .i64 1] Try.func27 ?_; (with_reducible refine (laws_markBoard.calls kj15 t1128 t1129 (fun k_ => some k_ = (.slice Ao31 t1130.length co31 : Value).ownBlock) (.slice Ao31 t1130.length co31) t1130 1 t1152 t1153 w _ ?side1 ?side2 A49.1).mono ?_); (case side1 => exact BL HB.1); (case side2 => exact R_tight rfl HO_1134002.1); rintro e w60 ⟨rfl, hy0, hb, hkp⟩; refine ⟨_, rfl, ?_⟩; refine E9 (R_mono (ok' := fun k_ => some k_ ≠ (.slice Ao34 t1134.length co34 : Value).ownBlock /\ some k_ ≠ (v1138 : Value).ownBlock /\ some k_ ≠ (.slice Ao57 t1148.length co57 : Value).ownBlock) (R_keptB ((R_apart' HO_6.1 (R_typed HO_1134002.1) (by decide))) hkp (fun k_ hk_ hs_ => (hk_.2) hs_)) (fun k_ hk_ => ⟨hk_.1.1.1.1, hk_.1.1.1.2, hk_.1.1.2⟩)) (R_mono (ok' := fun k_ => some k_ ≠ (v1125 : Value).ownBlock /\ some k_ ≠ (v1138 : Value).ownBlock /\ some k_ ≠ (.slice Ao57 t1148.length co57 : Value).ownBlock) (R_keptB ((R_apart' HO_9.1 (R_typed HO_1134002.1) (by decide))) hkp (fun k_ hk_ hs_ => (hk_.2) hs_)) (fun k_ hk_ => ⟨hk_.1.1.1.1, hk_.1.1.1.2, hk_.1.1.2⟩)) (R_mono (ok' := fun k_ => some k_ ≠ (v1125 : Value).ownBlock /\ some k_ ≠ (.slice Ao34 t1134.length co34 : Value).ownBlock /\ some k_ ≠ (.slice Ao57 t1148.length co57 : Value).ownBlock) (R_keptB ((R_apart' HO_10.1 (R_typed HO_1134002.1) (by decide))) hkp (fun k_ hk_ hs_ => (hk_.2) hs_)) (fun k_ hk_ => ⟨hk_.1.1.1.1, hk_.1.1.1.2, hk_.1.1.2⟩)) (R_reok rfl hy0 (fun k_ e_ => HO_1134002.1.1 k_ e_)) (blk_kept (PB BK1114.1) hkp (fun hs_ => (fun e_ => (R_ne HO_1134002.1 BK1114.1 (by decide)) e_) hs_)) (blk_kept (PB BK1133.1) hkp (fun hs_ => (fun e_ => (R_ne HO_1134002.1 BK1133.1 (by decide)) e_) hs_)) (R_mono (ok' := fun k_ => some k_ ≠ (.slice Ao31 t1130.length co31 : Value).ownBlock) (R_keptB (HO1146.1) hkp (fun k_ hk_ hs_ => (hk_.2) hs_)) (fun k_ hk_ => hk_.1.2)) (R_mono (ok' := fun k_ => some k_ ≠ (v1125 : Value).ownBlock /\ some k_ ≠ (.slice Ao34 t1134.length co34 : Value).ownBlock /\ some k_ ≠ (v1138 : Value).ownBlock) (R_keptB ((R_apart' HO1150.1 (R_typed HO_1134002.1) (by decide))) hkp (fun k_ hk_ hs_ => (hk_.2) hs_)) (fun k_ hk_ => ⟨hk_.1.1.1.1.2, hk_.1.1.1.2, hk_.1.1.2⟩)) (hb) ?_; clear HO_6 HO_9 HO_10 HO_1134002 BK1114 BK1133 HO1146 HO1150 HB; intro HO_6 HO_9 HO_10 HO_1134002 BK1114 BK1133 HO1146 HO1150 HB; (try clear hb); (try clear hkp); (try clear hy0)) | ((with_reducible refine gate_callee (f := 28) rfl ?_); refine goesM (N := (some 67)) #[.slice Ao34 t1134.length co34, .int .i64 t1152] Try.func28 ?_; (with_reducible refine (laws_markIntS.calls kj15 (fun k_ => some k_ = (.slice Ao34 t1134.length co34 : Value).ownBlock) (.slice Ao34 t1134.length co34) t1134 t1152 t1154 t1155 w _ ?side1 ?side2 A50.1).mono ?_); (case side1 => exact BL HB.1); (case side2 => exact R_tight rfl HO_9.1); rintro e w61 ⟨rfl, hy0, hb, hkp⟩; refine ⟨_, rfl, ?_⟩; refine E9 (R_mono (ok' := fun k_ => some k_ ≠ (.slice Ao34 t1134.length co34 : Value).ownBlock /\ some k_ ≠ (v1138 : Value).ownBlock /\ some k_ ≠ (.slice Ao57 t1148.length co57 : Value).ownBlock) (R_keptB (HO_6.1) hkp (fun k_ hk_ hs_ => (hk_.1) hs_)) (fun k_ hk_ => ⟨hk_.1.1, hk_.1.2.1, hk_.1.2.2⟩)) (R_reok rfl hy0 (fun k_ e_ => HO_9.1.1 k_ e_)) (R_mono (ok' := fun k_ => some k_ ≠ (v1125 : Value).ownBlock /\ some k_ ≠ (.slice Ao34 t1134.length co34 : Value).ownBlock /\ some k_ ≠ (.slice Ao57 t1148.length co57 : Value).ownBlock) (R_keptB (HO_10.1) hkp (fun k_ hk_ hs_ => (hk_.2.1) hs_)) (fun k_ hk_ => ⟨hk_.1.1, hk_.1.2.1, hk_.1.2.2⟩)) (R_mono (ok' := fun k_ => some k_ ≠ (.slice Ao54 t1144.length co54 : Value).ownBlock) (R_keptB ((R_apart' HO_1134002.1 (R_typed HO_9.1) (by decide))) hkp (fun k_ hk_ hs_ => (hk_.2) hs_)) (fun k_ hk_ => hk_.1.1.2)) (blk_kept (PB BK1114.1) hkp (fun hs_ => (fun e_ => (R_ne HO_9.1 BK1114.1 (by decide)) e_) hs_)) (blk_kept (PB BK1133.1) hkp (fun hs_ => (fun e_ => (R_ne HO_9.1 BK1133.1 (by decide)) e_) hs_)) (R_mono (ok' := fun k_ => some k_ ≠ (.slice Ao31 t1130.length co31 : Value).ownBlock) (R_keptB ((R_apart' HO1146.1 (R_typed HO_9.1) (by decide))) hkp (fun k_ hk_ hs_ => (hk_.2) hs_)) (fun k_ hk_ => hk_.1.1)) (R_mono (ok' := fun k_ => some k_ ≠ (v1125 : Value).ownBlock /\ some k_ ≠ (.slice Ao34 t1134.length co34 : Value).ownBlock /\ some k_ ≠ (v1138 : Value).ownBlock) (R_keptB (HO1150.1) hkp (fun k_ hk_ hs_ => (hk_.2.1) hs_)) (fun k_ hk_ => ⟨hk_.1.1, hk_.1.2.1, hk_.1.2.2⟩)) (hb) ?_; clear HO_6 HO_9 HO_10 HO_1134002 BK1114 BK1133 HO1146 HO1150 HB; intro HO_6 HO_9 HO_10 HO_1134002 BK1114 BK1133 HO1146 HO1150 HB; (try clear hb); (try clear hkp); (try clear hy0)))
 (try simp only [Act.put, List.setIfInBounds_toArray, List.set_cons_zero, List.set_cons_succ])
 go_cut [80] (fun v80 wc => ∃ (kq : Nat) (x80_50 : Bool), v80 = .bool x80_50 /\ Aside0 (laws_FnExactReachedNumbers.j1 kq l1 t1124 t1127 t1137 x80_50 a0_0 a0_1 l0_2 = some true) /\ Aside0 (kq <= kj15) /\ Aside0 (Kd.R (Kd.int .i64) 3 wc w.heap.size (fun k_ => some k_ ≠ (v1138 : Value).ownBlock) v1125 t1124) /\ Aside0 (Kd.R (Kd.int .i64) 3 wc w.heap.size (fun k_ => some k_ ≠ (v1125 : Value).ownBlock) v1138 t1137) /\ Aside0 (Kd.R k83 83 wc w.heap.size (fun _ => True) (.slice Ao31 t1130.length co31) t1153) /\ Aside0 (wc.heap[gb1114]? = some (.cells #[.int .i64 a0_0, .int .i64 a0_1, (.slice A0_2 l0_2.length c0_2)] 24 (0, 0))) /\ Aside0 (wc.heap[gb1133]? = some (.cells #[.int .i64 t1128, .int .i64 t1129, (.slice Ao31 t1130.length co31)] 30 (0, 0))) /\ Aside0 (Below w.heap.size w wc))
 case first =>
  have H := HC51.1
  clear HC51
  replace H := ifQ H; rcases H with ⟨c62, H⟩ | ⟨c62, H⟩
  · exact absurd H (by cases kj15 <;> simp [laws_FnExactReachedNumbers.j1])
  have c62b0 := decide_eq_false c62
  clear c62
  (first | rw [c62b0] | (simp only [i64_w, i32_w]; rw [c62b0]) | skip)
  replace H := bindA H; obtain ⟨t1156, A63, H⟩ := H
  replace H := ifT H (by cases kj15 <;> simp [laws_FnExactReachedNumbers.j1]); obtain ⟨rfl, H⟩ := H
  have H' := Aside0.mk H
  clear H
  obtain ⟨Ao65, co65, eo65⟩ := R_slice HO_10.1
  subst eo65
  obtain ⟨Ao66, co66, eo66⟩ := R_slice HO_6.1
  subst eo66
  go_wp2_with (first | (go_at_call 26; (with_reducible refine (laws_eqIntS.calls kj15 _ _ t1137 _ _ t1124 true _ ?side1 ?side2 ?side3 ?side4 A63.1).mono ?_); (case side1 => exact CB (R_reads' HO_10.1).2.2); (case side2 => exact (R_reads' HO_10.1).2.1); (case side3 => exact CB (R_reads' HO_6.1).2.2); (case side4 => exact (R_reads' HO_6.1).2.1); rintro e w' ⟨rfl, ⟨nd, rfl⟩⟩))
  go_meet
  case rel => exact ⟨_, ((t1140 != t1127)), RG, H', ⟨by have := HJ15.1; first | omega | exact Nat.le_refl _⟩, ⟨RPE (R_mono HO_6.1 (fun _ hk => hk.2.1))⟩, ⟨RPE (R_mono HO_10.1 (fun _ hk => hk.1))⟩, ⟨RPE (R_mono HO_1134002.1 (fun _ hk => trivial))⟩, ⟨PB BK1114.1⟩, ⟨PB BK1133.1⟩, ⟨BL HB.1⟩⟩
 clear HC51
 try clear c1; clear hcz59_0 hcz59_1 hcz59_2 hfz59_0 hfz59_1 hfz59_2
 obtain ⟨kq, x80_50, rfl, HA, HJ50, HO_6, HO_10, HO_1134002, BK1114, BK1133, HB⟩ := hcut
 have hl1134002_50 := (R_reads' HO_1134002.1).1
 rw [hl1134002_50] at HO_1134002
 (try simp only [hl1134002_50])
 (try simp only [hl1134002_50] at BK1114)
 (try simp only [hl1134002_50] at BK1133)
 (try simp only [hl1134002_50] at HO_6)
 (try simp only [hl1134002_50] at HO_10)
 cases kq with
 | zero => exact absurd HA.1 (by simp [laws_FnExactReachedNumbers.j1])
 | succ kj50 => ?_
 have H := HA.1
 clear HA
 simp only [laws_FnExactReachedNumbers.j1] at H
 replace H := ifF H (by simp); obtain ⟨rfl, H⟩ := H
 replace H := bindA H; obtain ⟨⟨t1157, t1158⟩, A70, H⟩ := H
 dsimp only at H
 replace H := bindA H; obtain ⟨t1159, A71, H⟩ := H
 replace H := ifQ H; rcases H with ⟨c72, H⟩ | ⟨c72, H⟩
 · exact absurd H (by simp)
 have c72b0 := decide_eq_false c72
 clear c72
 first | replace H := ifP H | replace H := ifPf H
 obtain ⟨c75, H⟩ := H
 have c75b0 := beq_iff_eq.mpr c75
 have c75b1 := bne_eq_false_iff_eq.mpr c75
 clear c75
 replace H := bindA H; obtain ⟨⟨t1160, t1161, t1162⟩, A76, H⟩ := H
 dsimp only at H
 replace H := bindA H; obtain ⟨t1165, A77, H⟩ := H
 replace H := bindA H; obtain ⟨⟨t1168, t1171⟩, A78, H⟩ := H
 dsimp only at H
 have HC79 := Aside0.mk H
 clear H
 obtain ⟨Ao80, co80, eo80⟩ := R_slice HO_10.1
 subst eo80
 go_upto_region 31 with (first | ((with_reducible refine gate_callee (f := 28) rfl ?_); refine goesM (N := (some 83)) #[.slice Ao80 t1137.length co80, .int .i64 1] Try.func28 ?_; (with_reducible refine (laws_markIntS.calls kj50 (fun k_ => some k_ = (.slice Ao80 t1137.length co80 : Value).ownBlock) (.slice Ao80 t1137.length co80) t1137 1 t1157 t1158 w _ ?side1 ?side2 A70.1).mono ?_); (case side1 => exact BL HB.1); (case side2 => exact R_tight rfl HO_10.1); rintro e w81 ⟨rfl, hy0, hb, hkp⟩; refine ⟨_, rfl, ?_⟩; refine E6 (R_mono (ok' := fun k_ => some k_ ≠ (.slice Ao80 t1137.length co80 : Value).ownBlock) (R_keptB (HO_6.1) hkp (fun k_ hk_ hs_ => (hk_) hs_)) (fun k_ hk_ => hk_.1)) (R_reok rfl hy0 (fun k_ e_ => HO_10.1.1 k_ e_)) (R_mono (ok' := fun k_ => True) (R_keptB ((R_apart' HO_1134002.1 (R_typed HO_10.1) (by decide))) hkp (fun k_ hk_ hs_ => (hk_.2) hs_)) (fun k_ hk_ => trivial)) (blk_kept (PB BK1114.1) hkp (fun hs_ => (fun e_ => (R_ne HO_10.1 BK1114.1 (by decide)) e_) hs_)) (blk_kept (PB BK1133.1) hkp (fun hs_ => (fun e_ => (R_ne HO_10.1 BK1133.1 (by decide)) e_) hs_)) (hb) ?_; clear HO_6 HO_10 HO_1134002 BK1114 BK1133 HB; intro HO_6 HO_10 HO_1134002 BK1114 BK1133 HB; (try clear hb); (try clear hkp); (try clear hy0)) | ((with_reducible refine gate_callee (f := 29) rfl ?_); refine goesL_ (some 86) rfl rfl Try.func29 (by kernel_rfl) rfl #[.slice Ao80 t1158.length co80, .int .i64 1] rfl (by (try simp only [List.map_toArray, List.map_cons, List.map_nil]); first | done | (rw [show t1158.length = t1137.length from (R_reads' HO_10.1).1.symm] <;> rfl) | rfl | (simp only [List.length_drop, List.length_take]; rfl)) ?_; (with_reducible refine (laws_heldIntS.calls kj50 _ _ t1158 1 t1159 _ ?side1 ?side2 A71.1).mono ?_); (case side1 => exact CB (R_reads' HO_10.1).2.2); (case side2 => rw [show t1158.length = t1137.length from (R_reads' HO_10.1).1.symm]; exact (R_reads' HO_10.1).2.1); rintro e w' ⟨rfl, ⟨nd, rfl⟩⟩; refine ⟨_, rfl, ?_⟩; have hnb82 := NB1114_1133.1; have hnc82 := NB1133_1114.1; obtain ⟨hcz83_0, hcz83_1, hcz83_2, hfz83_0, hfz83_1, hfz83_2⟩ := cz3 BK1114.1) | ((with_reducible refine gate_callee (f := 15) rfl ?_); refine goesM (N := (some 94)) #[.agg #[.int .i64 a0_0, .int .i64 a0_1, .slice A0_2 l0_2.length c0_2]] Try.func15 ?_; (with_reducible refine (laws_toBoard.calls kj50 a0_0 a0_1 _ _ l0_2 t1160 t1161 t1162 _ ?side1 ?side2 A76.1).mono ?_); (case side1 => repeat (first | exact (C_below HR0_2.1 (BL HB.1)) | (with_reducible refine C_alloc ?_ _) | (with_reducible refine C_drewN ?_ _) | (with_reducible refine C_drew ?_))); (case side2 => exact HC0_2.1); rintro e w84 ⟨v1163, rfl, ho0, hb⟩; refine ⟨_, rfl, ?_⟩; refine E7 (rB HO_6.1 hb) (rB HO_10.1 hb) (R_elder' (PR HO_1134002.1) (R_base ho0) hb) (R_lower (R_new' ho0 (R_lt (PR HO_1134002.1))) (bZ HB.1)) (bB BK1114.1 hb) (bB BK1133.1 hb) (bS HB.1 hb) ?_; clear HO_6 HO_10 HO_1134002 BK1114 BK1133 HB; intro HO_6 HO_10 HO_1134002 HO1164 BK1114 BK1133 HB; (try clear hb); (try clear ho0)) | ((with_reducible refine gate_callee (f := 31) rfl ?_); refine goesM (N := (some 96)) #[.slice A1 l1.length c1] Try.func31 ?_; (with_reducible refine (laws_toIntS.calls kj50 _ _ l1 t1165 _ ?side1 ?side2 A77.1).mono ?_); (case side1 => exact CB (C_below HR1.1 HB.1)); (case side2 => exact HC1.1); rintro e w85 ⟨v1166, rfl, ho0, hb⟩; refine ⟨_, rfl, ?_⟩; refine E8 (R_elder' (PR HO_6.1) (R_base ho0) hb) (R_elder' (PR HO_10.1) (R_base ho0) hb) (rB HO_1134002.1 hb) (rB HO1164.1 hb) (R_lower (R_new' (R_new' ho0 (R_lt (PR HO_6.1))) (R_lt (PR HO_10.1))) (bZ HB.1)) (bB BK1114.1 hb) (bB BK1133.1 hb) (bS HB.1 hb) ?_; clear HO_6 HO_10 HO_1134002 HO1164 BK1114 BK1133 HB; intro HO_6 HO_10 HO_1134002 HO1164 HO1167 BK1114 BK1133 HB; (try clear hb); (try clear ho0); obtain ⟨Ao86, co86, eo86⟩ := R_slice HO1164.1; subst eo86; obtain ⟨Ao87, co87, eo87⟩ := R_slice HO1167.1; subst eo87) | ((with_reducible refine gate_callee (f := 36) rfl ?_); refine goesM (N := (some 97)) #[.agg #[.int .i64 t1160, .int .i64 t1161, .slice Ao86 t1162.length co86], .slice Ao87 t1165.length co87] Try.func36 ?_; (with_reducible refine (impl_ReachedNumbers.calls kj50 t1160 t1161 _ _ t1162 _ _ t1165 t1168 t1171 _ ?side1 ?side2 ?side3 ?side4 A78.1).mono ?_); (case side1 => exact CB (R_reads' HO1164.1).2.2); (case side2 => exact (R_reads' HO1164.1).2.1); (case side3 => exact CB (R_reads' HO1167.1).2.2); (case side4 => exact (R_reads' HO1167.1).2.1); rintro e w88 ⟨v1169, rfl, ho0, hb⟩; refine ⟨_, rfl, ?_⟩; refine E9 (R_elder' (PR HO_6.1) (R_base ho0) hb) (R_elder' (PR HO_10.1) (R_base ho0) hb) (rB HO_1134002.1 hb) (rB HO1164.1 hb) (R_elder' (PR HO1167.1) (R_base ho0) hb) (R_lower (R_new' (R_new' (R_new' ho0 (R_lt (PR HO_6.1))) (R_lt (PR HO_10.1))) (R_lt (PR HO1167.1))) (bZ HB.1)) (bB BK1114.1 hb) (bB BK1133.1 hb) (bS HB.1 hb) ?_; clear HO_6 HO_10 HO_1134002 HO1164 HO1167 BK1114 BK1133 HB; intro HO_6 HO_10 HO_1134002 HO1164 HO1167 HO1170 BK1114 BK1133 HB; (try clear hb); (try clear ho0)))
 (try simp only [Act.put, List.setIfInBounds_toArray, List.set_cons_zero, List.set_cons_succ])
 go_cut [108] (fun v108 wc => ∃ (kq : Nat) (x108_78 : Bool), v108 = .bool x108_78 /\ Aside0 (laws_FnExactReachedNumbers.j2 kq t1158 t1157 x108_78 = some true) /\ Aside0 (kq <= kj50) /\ Aside0 (Kd.R (Kd.int .i64) 3 wc w.heap.size (fun _ => True) (.slice Ao80 t1137.length co80) t1158) /\ Aside0 (Kd.R k83 83 wc w.heap.size (fun _ => True) (.slice Ao31 t1153.length co31) t1153) /\ Aside0 (wc.heap[gb1114]? = some (.cells #[.int .i64 a0_0, .int .i64 a0_1, (.slice A0_2 l0_2.length c0_2)] 24 (0, 0))) /\ Aside0 (wc.heap[gb1133]? = some (.cells #[.int .i64 t1128, .int .i64 t1129, (.slice Ao31 t1153.length co31)] 30 (0, 0))) /\ Aside0 (Below w.heap.size w wc))
 case first =>
  have H := HC79.1
  clear HC79
  replace H := bindA H; obtain ⟨t1172, A89, H⟩ := H
  replace H := ifT H (by cases kj50 <;> simp [laws_FnExactReachedNumbers.j2]); obtain ⟨rfl, H⟩ := H
  have H' := Aside0.mk H
  clear H
  obtain ⟨Ao91, co91, eo91⟩ := R_slice HO1170.1
  subst eo91
  obtain ⟨Ao92, co92, eo92⟩ := R_slice HO_6.1
  subst eo92
  go_wp2_with (first | ((with_reducible refine gate_callee (f := 26) rfl ?_); refine goesM (N := (some 102)) #[.slice Ao91 t1168.length co91, .slice Ao92 t1124.length co92] Try.func26 ?_; (with_reducible refine (laws_eqIntS.calls kj50 _ _ t1168 _ _ t1124 true _ ?side1 ?side2 ?side3 ?side4 A89.1).mono ?_); (case side1 => exact CB (R_reads' HO1170.1).2.2); (case side2 => exact (R_reads' HO1170.1).2.1); (case side3 => exact CB (R_reads' HO_6.1).2.2); (case side4 => exact (R_reads' HO_6.1).2.1); rintro e w' ⟨rfl, ⟨nd, rfl⟩⟩; refine ⟨_, rfl, ?_⟩))
  go_meet
  case rel => exact ⟨_, ((t1171 != t1127)), RG, H', ⟨by have := HJ15.1; have := HJ50.1; first | omega | exact Nat.le_refl _⟩, ⟨by (try simp only [hl1134002_50]); (with_reducible repeat (first | apply R_alloc | apply R_drewN | apply R_drew)); exact R_mono HO_10.1 (fun _ hk => trivial)⟩, ⟨by (try simp only [hl1134002_50]); (with_reducible repeat (first | apply R_alloc | apply R_drewN | apply R_drew)); exact R_mono HO_1134002.1 (fun _ hk => trivial)⟩, ⟨PB1 BK1114.1 hl1134002_50⟩, ⟨PB1 BK1133.1 hl1134002_50⟩, ⟨BL HB.1⟩⟩
 clear HC79
 try clear c1; clear c72b0 c75b0 c75b1 hcz83_0 hcz83_1 hcz83_2 hfz83_0 hfz83_1 hfz83_2
 obtain ⟨kq, x108_78, rfl, HA, HJ78, HO_10, HO_1134002, BK1114, BK1133, HB⟩ := hcut
 have hl10_78 := (R_reads' HO_10.1).1
 rw [hl10_78] at HO_10
 (try simp only [hl10_78])
 (try simp only [hl10_78] at BK1114)
 (try simp only [hl10_78] at BK1133)
 (try simp only [hl10_78] at HO_1134002)
 cases kq with
 | zero => exact absurd HA.1 (by simp [laws_FnExactReachedNumbers.j2])
 | succ kj78 => ?_
 have H := HA.1
 clear HA
 simp only [laws_FnExactReachedNumbers.j2] at H
 replace H := ifF H (by simp); obtain ⟨rfl, H⟩ := H
 replace H := bindA H; obtain ⟨t1173, A96, H⟩ := H
 replace H := ifQ H; rcases H with ⟨c97, H⟩ | ⟨c97, H⟩
 · exact absurd H (by simp)
 have c97b0 := decide_eq_false c97
 clear c97
 first | replace H := ifP H | replace H := ifPf H
 obtain ⟨c98, H⟩ := H
 have c98b0 := beq_iff_eq.mpr c98
 have c98b1 := bne_eq_false_iff_eq.mpr c98
 clear c98
 first | (obtain rfl := Option.some.inj H) | clear H
 go_wp2_with (first | ((with_reducible refine gate_callee (f := 29) rfl ?_); refine goesM (N := (some 111)) #[.slice Ao80 t1158.length co80, .int .i64 1] Try.func29 ?_; (with_reducible refine (laws_heldIntS.calls kj78 _ _ t1158 1 t1173 _ ?side1 ?side2 A96.1).mono ?_); (case side1 => exact CB (R_reads' HO_10.1).2.2); (case side2 => exact (R_reads' HO_10.1).2.1); rintro e w' ⟨rfl, ⟨nd, rfl⟩⟩; refine ⟨_, rfl, ?_⟩))
 go_ret
 exact ⟨RF, BL HB.1⟩
end Go.Proofs.Ytbpfdbjnnlmdjaa.P
