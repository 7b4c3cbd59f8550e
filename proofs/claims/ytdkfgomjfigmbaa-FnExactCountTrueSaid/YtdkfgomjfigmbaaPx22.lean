-- PRINTED by print.py (a twelfth state) out of the translation. Not trusted: Lean checks it.
import Derived.Test.YtdkfgomjfigmbaaPx0
import Derived.Test.YtdkfgomjfigmbaaPx4
import Derived.Test.YtdkfgomjfigmbaaPx5
import Derived.Test.YtdkfgomjfigmbaaPx6
import Derived.Test.YtdkfgomjfigmbaaPx15
namespace Go.Proofs.Ytdkfgomjfigmbaa.P
open Go.RowKit Go.Proofs.YtdkfgomjfigmbaaW.PrintWords Go.Proofs.YtdkfgomjfigmbaaW.PrintLast Go.Proofs.YtdkfgomjfigmbaaW.PrintMore
attribute [local go_sem] max2_int min2_int max_two min_two max_three min_three max_four min_four   -- for this text's walks alone
set_option linter.unusedVariables false
set_option linter.unusedSimpArgs false

/-! ### spec_ttOnes: function 57 -/
open Kd
def spec_ttOnes.l0 : Nat -> List Int -> List Int -> Int -> Int -> Option (List Int)
 | 0, _, _, _, _ => none
 | k + 1, x3, x7, x8, x9 => if x9 < x8 then (if 0 <= x9 then (if x9 < (x7.length : Int) then (if (rd x7 x9) = 1 then (if x3.length < 17592186044416 then (spec_ttOnes.l0 k (x3 ++ [x9]) x7 x8 (wrap64 (x9 + 1))) else (none)) else (spec_ttOnes.l0 k x3 x7 x8 (wrap64 (x9 + 1)))) else (none)) else (none)) else (some x3)
def spec_ttOnes.f (k : Nat) (a0_0 : Int) (l0_1 : List Int) : Option (List Int) := spec_ttOnes.l0 k ([] : List Int) l0_1 (l0_1.length : Int) 0
theorem spec_ttOnes.mono_l : ∀ k, (∀ y0 y1 y2 y3, LeO (spec_ttOnes.l0 k y0 y1 y2 y3) (spec_ttOnes.l0 (k + 1) y0 y1 y2 y3))
 | 0 => fun _ _ _ _ r h => by simp [spec_ttOnes.l0] at h
 | k + 1 => by
  have ih0 := spec_ttOnes.mono_l k
  intros
  first | unfold spec_ttOnes.l0
  repeat' first | (with_reducible first | apply ih0 | exact LeO.refl _ | exact LeO.none _ | refine LeO.ite ?_ ?_ | refine LeO.bind ?_ (fun _ => ?_)) | exact LeO.none _ | refine LeO.ite ?_ ?_ | refine LeO.bind ?_ (fun _ => ?_)
theorem spec_ttOnes.mono : ∀ a0 a1 k, LeO (spec_ttOnes.f k a0 a1) (spec_ttOnes.f (k + 1) a0 a1) := by
 intro a0 a1 k
 have ih0 := spec_ttOnes.mono_l k
 unfold spec_ttOnes.f
 repeat' first | (with_reducible first | apply ih0 | exact LeO.refl _ | exact LeO.none _ | refine LeO.ite ?_ ?_ | refine LeO.bind ?_ (fun _ => ?_)) | exact LeO.none _ | refine LeO.ite ?_ ?_ | refine LeO.bind ?_ (fun _ => ?_)
set_option maxHeartbeats 8000000 in
set_option maxRecDepth 100000 in
theorem spec_ttOnes.calls (k : Nat) (a0_0 : Int) (A0_1 : Option Addr) (c0_1 : Nat) (l0_1 : List Int) (r : List Int) (w : World) (hr0_1 : Kd.C (Kd.int .i64) w A0_1 l0_1.length l0_1) (hc0_1 : l0_1.length <= c0_1) (h : spec_ttOnes.f k a0_0 l0_1 = some r) :
 Calls Try.prog 57 #[.agg #[.int .i64 a0_0, .slice A0_1 l0_1.length c0_1]] w fun e w' => ∃ v0_ : Value, e = .returned (v0_) /\ Kd.R (Kd.int .i64) 3 w' w.heap.size (fun _ => True) v0_ r /\ Below w.heap.size w w' := by
 have hu41 := Try.underlying41
 have HR0_1 := Aside0.mk hr0_1
 have HC0_1 := Aside0.mk hc0_1
 clear hr0_1 hc0_1
 have HB := Aside0.mk (Below.refl w.heap.size w)
 have H := h
 clear h
 unfold spec_ttOnes.f at H
 have H' := Aside0.mk H
 clear H
 go_enter Try.func57, Try.ntmps57
 go_wp2_with (first | ((with_reducible refine gate_dst (N := 1) rfl ?_); refine boxE (cs := #[.int .i64 a0_0, .slice A0_1 l0_1.length c0_1]) (t := 41) ?_; intro gb362 hg w2 hbox hb; refine E4b HB.1 hg hbox hb ?_; clear HB; intro HB BK362 GW362 GE362; clear hb hbox hg; obtain ⟨hcz3_0, hcz3_1, hfz3_0, hfz3_1⟩ := cz2 BK362.1))
 go_loopg [3, 9] k (fun kq v3 v9 w' => ∃ (x3_1 : List Int) (x9_1 : Int), v9 = .int .i64 x9_1 /\ Aside0 (spec_ttOnes.l0 kq x3_1 l0_1 (l0_1.length : Int) x9_1 = some r) /\ Aside0 (kq <= k) /\ Aside0 (Kd.R (Kd.int .i64) 3 w' w.heap.size (fun _ => True) v3 x3_1) /\ Aside0 (w'.heap[gb362]? = some (.cells #[.int .i64 a0_0, (.slice A0_1 l0_1.length c0_1)] 41 (0, 0))) /\ Aside0 (Below w.heap.size w w'))
 case atStart => exact ⟨(([] : List Int)), (0), RG, H', ⟨Nat.le_refl _⟩, ⟨by first | exact R_nil _ _ _ _ _ | exact N_nil _ _ _ _ _ | exact V_nil _ _ _ _ _ | exact Q_nil _ _ _ _ _ | exact S_nil _ _ _ _ _⟩, ⟨PB BK362.1⟩, ⟨BL HB.1⟩⟩
 clear H'
 clear hcz3_0 hcz3_1 hfz3_0 hfz3_1
 obtain ⟨x3_1, x9_1, rfl, HA, HK1, HO_3, BK362, HB⟩ := hrel
 cases gk with
 | zero => exact absurd HA.1 (by simp [spec_ttOnes.l0])
 | succ k1 => ?_
 have H := HA.1
 clear HA
 simp only [spec_ttOnes.l0] at H
 replace H := ifB H; rcases H with ⟨c4b0, H⟩ | ⟨c4b0, H⟩
 · replace H := ifN H; obtain ⟨c5b0, H⟩ := H
   replace H := ifN H; obtain ⟨c6b0, H⟩ := H
   replace H := ifQ H; rcases H with ⟨c7, H⟩ | ⟨c7, H⟩
   · have c7b0 := beq_iff_eq.mpr c7
     have c7b1 := bne_eq_false_iff_eq.mpr c7
     clear c7
     replace H := ifP H; obtain ⟨c8, H⟩ := H
     have LMc8 := Aside0.mk c8
     clear c8
     generalize hy364 : ((x3_1 ++ [x9_1]) : List Int) = y364 at H
     have Ny364 := Aside0.mk hy364.symm; clear hy364
     have H' := Aside0.mk H
     clear H
     have p363 : 0 <= (x9_1 : Int) := OD
     have q363 : x9_1 < (l0_1.length : Int) := OD
     obtain ⟨ad363, e363, hx363_0⟩ := Kd.at_int HR0_1.1 x9_1 p363 q363
     cases e363
     replace hx363_0 := (HB.1.cell (World.block_lt_of_cell? w _ hx363_0)).trans hx363_0
     replace p363 := eq_true p363
     replace q363 := eq_true q363
     go_wp2_with (first | ((with_reducible refine gate_builtin (b := .append) (xs := #[.tmp 16, .tmp 18]) rfl ?_); at_builtin; refine R_append (Kd.int .i64) (w0 := w) w.heap.size rfl (.tmp 16) (.tmp 18) 35 3 (.int .i64 0) 8 rfl Try.underlying35 info3 rfl (by decide) (by omega) u3 x3_1 x9_1 [.int .i64 x9_1] (fun _ => True) (fun _ => False) rfl rfl ?aP (fun _ hk => hk.elim) ?aF ?aO ?aB ?aS ?aL ?_; (case aP => exact rfl); (case aB => exact (BL HB.1)); (case aF => exact (fun _ _ => trivial)); (case aO => exact (PR HO_3.1)); (case aS => exact (bZ HB.1)); (case aL => have := LMc8.1; omega); intro v365 w9 ho hb hg hat; rw [<- Ny364.1] at ho; refine E3 (bG BK362.1 hg (R_ne HO_3.1 BK362.1 (by decide))) (hb) (ho) ?_; clear BK362 HB HO_3; intro BK362 HB HO366; clear ho hb hg hat))
     go_roundg k1
     case measure => have := HK1.1; omega
     case rel => exact ⟨(y364), (wrap64 (x9_1 + 1)), RG, H', ⟨by have := HK1.1; omega⟩, ⟨PR HO366.1⟩, ⟨PB BK362.1⟩, ⟨BL HB.1⟩⟩
   have c7b0 := beq_eq_false_iff_ne.mpr c7
   have c7b1 := bne_iff_ne.mpr c7
   have H' := Aside0.mk H
   clear H
   have p363 : 0 <= (x9_1 : Int) := OD
   have q363 : x9_1 < (l0_1.length : Int) := OD
   obtain ⟨ad363, e363, hx363_0⟩ := Kd.at_int HR0_1.1 x9_1 p363 q363
   cases e363
   replace hx363_0 := (HB.1.cell (World.block_lt_of_cell? w _ hx363_0)).trans hx363_0
   replace p363 := eq_true p363
   replace q363 := eq_true q363
   go_wp2
   go_roundg k1
   case measure => have := HK1.1; omega
   case rel => exact ⟨(x3_1), (wrap64 (x9_1 + 1)), RG, H', ⟨by have := HK1.1; omega⟩, ⟨PR HO_3.1⟩, ⟨PB BK362.1⟩, ⟨BL HB.1⟩⟩
 obtain rfl := Option.some.inj H
 go_wp2
 go_ret
 exact ⟨_, RF, RPE (HO_3.1), BL HB.1⟩
/-! ### spec_CountTrue: function 27 -/
open Kd
def spec_CountTrue.f (k : Nat) (a0_0 : Int) (l0_1 : List (S63)) (a0_2 : Int) : Option (Int × Bool) := (spec_ddGood.f k a0_0 l0_1 a0_2).bind fun t368 => (if t368 = true then ((spec_ddTable.f k a0_0 l0_1 a0_2).bind fun bt369 => ((spec_ttOnes.f k bt369.1 bt369.2).bind fun t373 => (some ((t373.length : Int), true)))) else (some (0, false)))
theorem spec_CountTrue.mono : ∀ a0 a1 a2 k, LeO (spec_CountTrue.f k a0 a1 a2) (spec_CountTrue.f (k + 1) a0 a1 a2) := by
 intro a0 a1 a2 k
 unfold spec_CountTrue.f
 repeat' first
  | (with_reducible exact spec_ddGood.mono _ _ _ _)
  | (with_reducible exact spec_ddTable.mono _ _ _ _)
  | (with_reducible exact spec_ttOnes.mono _ _ _)
  | (with_reducible exact LeO.refl _)
  | (with_reducible exact LeO.none _)
  | (with_reducible refine LeO.ite ?_ ?_)
  | (with_reducible refine LeO.bind ?_ (fun _ => ?_))
  | exact spec_ddGood.mono _ _ _ _
  | exact spec_ddTable.mono _ _ _ _
  | exact spec_ttOnes.mono _ _ _
  | exact LeO.none _
  | refine LeO.ite ?_ ?_
  | refine LeO.bind ?_ (fun _ => ?_)
set_option maxHeartbeats 8000000 in
set_option maxRecDepth 100000 in
theorem spec_CountTrue.calls (k : Nat) (a0_0 : Int) (A0_1 : Option Addr) (c0_1 : Nat) (l0_1 : List (S63)) (a0_2 : Int) (r1 : Int) (r2 : Bool) (w : World) (hr0_1 : Kd.C k63 w A0_1 l0_1.length l0_1) (hc0_1 : l0_1.length <= c0_1) (h : spec_CountTrue.f k a0_0 l0_1 a0_2 = some (r1, r2)) :
 Calls Try.prog 27 #[.agg #[.int .i64 a0_0, .slice A0_1 l0_1.length c0_1, .int .i64 a0_2]] w fun e w' => e = .returned (.tuple #[.int .i64 r1, .bool r2]) /\ Below w.heap.size w w' := by
 have hu29 := Try.underlying29
 have HR0_1 := Aside0.mk hr0_1
 have HC0_1 := Aside0.mk hc0_1
 clear hr0_1 hc0_1
 have HB := Aside0.mk (Below.refl w.heap.size w)
 have H := h
 clear h
 unfold spec_CountTrue.f at H
 replace H := bindA H; obtain ⟨t368, A2, H⟩ := H
 replace H := ifX H; rcases H with ⟨rfl, H⟩ | ⟨rfl, H⟩
 · replace H := bindA H; obtain ⟨⟨t369, t370⟩, A4, H⟩ := H
   dsimp only at H
   replace H := bindA H; obtain ⟨t373, A5, H⟩ := H
   simp only [Option.some.injEq, Prod.mk.injEq] at H
   obtain ⟨rfl, rfl⟩ := H
   go_enter Try.func27, Try.ntmps27
   go_wp2_with (first | ((with_reducible refine gate_dst (N := 1) rfl ?_); refine boxE (cs := #[.int .i64 a0_0, .slice A0_1 l0_1.length c0_1, .int .i64 a0_2]) (t := 29) ?_; intro gb367 hg w6 hbox hb; refine E4b HB.1 hg hbox hb ?_; clear HB; intro HB BK367 GW367 GE367; clear hb hbox hg; obtain ⟨hcz7_0, hcz7_1, hcz7_2, hfz7_0, hfz7_1, hfz7_2⟩ := cz3 BK367.1) | ((with_reducible refine gate_callee (f := 45) rfl ?_); refine goesM (N := (some 5)) #[.agg #[.int .i64 a0_0, .slice A0_1 l0_1.length c0_1, .int .i64 a0_2]] Try.func45 ?_; (with_reducible refine (spec_ddGood.calls k a0_0 _ _ l0_1 a0_2 true _ ?side1 ?side2 A2.1).mono ?_); (case side1 => exact CB (C_below HR0_1.1 HB.1)); (case side2 => exact HC0_1.1); rintro e w8 ⟨rfl, hb⟩; refine ⟨_, rfl, ?_⟩; refine E2 (bB BK367.1 hb) (bS HB.1 hb) ?_; clear BK367 HB; intro BK367 HB; (try clear hb); obtain ⟨hcz9_0, hcz9_1, hcz9_2, hfz9_0, hfz9_1, hfz9_2⟩ := cz3 BK367.1) | ((with_reducible refine gate_callee (f := 58) rfl ?_); refine goesM (N := (some 8)) #[.agg #[.int .i64 a0_0, .slice A0_1 l0_1.length c0_1, .int .i64 a0_2]] Try.func58 ?_; (with_reducible refine (spec_ddTable.calls k a0_0 _ _ l0_1 a0_2 t369 t370 _ ?side1 ?side2 A4.1).mono ?_); (case side1 => exact CB (C_below HR0_1.1 HB.1)); (case side2 => exact HC0_1.1); rintro e w10 ⟨v371, rfl, ho0, hb⟩; refine ⟨_, rfl, ?_⟩; refine E3 (R_lower ho0 (bZ HB.1)) (bB BK367.1 hb) (bS HB.1 hb) ?_; clear BK367 HB; intro HO372 BK367 HB; (try clear hb); (try clear ho0); obtain ⟨Ao11, co11, eo11⟩ := R_slice HO372.1; subst eo11) | ((with_reducible refine gate_callee (f := 57) rfl ?_); refine goesM (N := (some 9)) #[.agg #[.int .i64 t369, .slice Ao11 t370.length co11]] Try.func57 ?_; (with_reducible refine (spec_ttOnes.calls k t369 _ _ t370 t373 _ ?side1 ?side2 A5.1).mono ?_); (case side1 => exact CB (R_reads' HO372.1).2.2); (case side2 => exact (R_reads' HO372.1).2.1); rintro e w12 ⟨v374, rfl, ho0, hb⟩; refine ⟨_, rfl, ?_⟩; refine E4 (R_elder' (PR HO372.1) (R_base ho0) hb) (R_lower (R_new' ho0 (R_lt (PR HO372.1))) (bZ HB.1)) (bB BK367.1 hb) (bS HB.1 hb) ?_; clear HO372 BK367 HB; intro HO372 HO375 BK367 HB; (try clear hb); (try clear ho0); obtain ⟨Ao13, co13, eo13⟩ := R_slice HO375.1; subst eo13))
   go_ret2
   exact ⟨RF, BL HB.1⟩
 simp only [Option.some.injEq, Prod.mk.injEq] at H
 obtain ⟨rfl, rfl⟩ := H
 go_enter Try.func27, Try.ntmps27
 go_wp2_with (first | ((with_reducible refine gate_dst (N := 1) rfl ?_); refine boxE (cs := #[.int .i64 a0_0, .slice A0_1 l0_1.length c0_1, .int .i64 a0_2]) (t := 29) ?_; intro gb367 hg w14 hbox hb; refine E4b HB.1 hg hbox hb ?_; clear HB; intro HB BK367 GW367 GE367; clear hb hbox hg; obtain ⟨hcz15_0, hcz15_1, hcz15_2, hfz15_0, hfz15_1, hfz15_2⟩ := cz3 BK367.1) | ((with_reducible refine gate_callee (f := 45) rfl ?_); refine goesM (N := (some 5)) #[.agg #[.int .i64 a0_0, .slice A0_1 l0_1.length c0_1, .int .i64 a0_2]] Try.func45 ?_; (with_reducible refine (spec_ddGood.calls k a0_0 _ _ l0_1 a0_2 false _ ?side1 ?side2 A2.1).mono ?_); (case side1 => exact CB (C_below HR0_1.1 HB.1)); (case side2 => exact HC0_1.1); rintro e w16 ⟨rfl, hb⟩; refine ⟨_, rfl, ?_⟩; refine E2 (bB BK367.1 hb) (bS HB.1 hb) ?_; clear BK367 HB; intro BK367 HB; (try clear hb)))
 go_ret2
 exact ⟨RF, BL HB.1⟩

/-! ### impl_CountTrue: function 28 -/
open Kd
def impl_CountTrue.l0 : Nat -> Int -> List Int -> Int -> Int -> Option (Int × Bool)
 | 0, _, _, _, _ => none
 | k + 1, x4, x12, x13, x14 => if x14 < x13 then (if 0 <= x14 then (if x14 < (x12.length : Int) then (impl_CountTrue.l0 k (wrap64 (x4 + (rd x12 x14))) x12 x13 (wrap64 (x14 + 1))) else (none)) else (none)) else (some (x4, true))
def impl_CountTrue.f (k : Nat) (a0_0 : Int) (l0_1 : List (S63)) (a0_2 : Int) : Option (Int × Bool) := (impl_IsDiagram.f k a0_0 l0_1 a0_2).bind fun t396 => (if t396 = true then ((impl_tableOfDiagram.f k a0_0 l0_1 a0_2).bind fun bt397 => (impl_CountTrue.l0 k 0 bt397.2 (bt397.2.length : Int) 0)) else (some (0, false)))
theorem impl_CountTrue.mono_l : ∀ k, (∀ y0 y1 y2 y3, LeO (impl_CountTrue.l0 k y0 y1 y2 y3) (impl_CountTrue.l0 (k + 1) y0 y1 y2 y3))
 | 0 => fun _ _ _ _ r h => by simp [impl_CountTrue.l0] at h
 | k + 1 => by
  have ih0 := impl_CountTrue.mono_l k
  intros
  first | unfold impl_CountTrue.l0
  repeat' first | (with_reducible first | apply ih0 | apply impl_IsDiagram.mono | apply impl_tableOfDiagram.mono | exact LeO.refl _ | exact LeO.none _ | refine LeO.ite ?_ ?_ | refine LeO.bind ?_ (fun _ => ?_)) | exact LeO.none _ | refine LeO.ite ?_ ?_ | refine LeO.bind ?_ (fun _ => ?_)
theorem impl_CountTrue.mono : ∀ a0 a1 a2 k, LeO (impl_CountTrue.f k a0 a1 a2) (impl_CountTrue.f (k + 1) a0 a1 a2) := by
 intro a0 a1 a2 k
 have ih0 := impl_CountTrue.mono_l k
 unfold impl_CountTrue.f
 repeat' first | (with_reducible first | apply ih0 | apply impl_IsDiagram.mono | apply impl_tableOfDiagram.mono | exact LeO.refl _ | exact LeO.none _ | refine LeO.ite ?_ ?_ | refine LeO.bind ?_ (fun _ => ?_)) | exact LeO.none _ | refine LeO.ite ?_ ?_ | refine LeO.bind ?_ (fun _ => ?_)
set_option maxHeartbeats 8000000 in
set_option maxRecDepth 100000 in
theorem impl_CountTrue.calls (k : Nat) (a0_0 : Int) (A0_1 : Option Addr) (c0_1 : Nat) (l0_1 : List (S63)) (a0_2 : Int) (r1 : Int) (r2 : Bool) (w : World) (hr0_1 : Kd.C k63 w A0_1 l0_1.length l0_1) (hc0_1 : l0_1.length <= c0_1) (h : impl_CountTrue.f k a0_0 l0_1 a0_2 = some (r1, r2)) :
 Calls Try.prog 28 #[.agg #[.int .i64 a0_0, .slice A0_1 l0_1.length c0_1, .int .i64 a0_2]] w fun e w' => e = .returned (.tuple #[.int .i64 r1, .bool r2]) /\ Below w.heap.size w w' := by
 have hfd1 : ∀ (x y : Value) (w : World), (Instr.field 41 (.agg #[x, y]) 1).run Try.prog w = .ok y w := fun x y w => by kernel_rfl
 have hu29 := Try.underlying29
 have HR0_1 := Aside0.mk hr0_1
 have HC0_1 := Aside0.mk hc0_1
 clear hr0_1 hc0_1
 have HB := Aside0.mk (Below.refl w.heap.size w)
 have H := h
 clear h
 unfold impl_CountTrue.f at H
 replace H := bindA H; obtain ⟨t396, A2, H⟩ := H
 replace H := ifX H; rcases H with ⟨rfl, H⟩ | ⟨rfl, H⟩
 · replace H := bindA H; obtain ⟨⟨t397, t398⟩, A4, H⟩ := H
   dsimp only at H
   have H' := Aside0.mk H
   clear H
   go_enter Try.func28, Try.ntmps28
   go_wp2_with (first | ((with_reducible refine gate_dst (N := 1) rfl ?_); refine boxE (cs := #[.int .i64 a0_0, .slice A0_1 l0_1.length c0_1, .int .i64 a0_2]) (t := 29) ?_; intro gb395 hg w5 hbox hb; refine E4b HB.1 hg hbox hb ?_; clear HB; intro HB BK395 GW395 GE395; clear hb hbox hg; obtain ⟨hcz6_0, hcz6_1, hcz6_2, hfz6_0, hfz6_1, hfz6_2⟩ := cz3 BK395.1) | ((with_reducible refine gate_callee (f := 15) rfl ?_); refine goesM (N := (some 8)) #[.agg #[.int .i64 a0_0, .slice A0_1 l0_1.length c0_1, .int .i64 a0_2]] Try.func15 ?_; (with_reducible refine (impl_IsDiagram.calls k a0_0 _ _ l0_1 a0_2 true _ ?side1 ?side2 A2.1).mono ?_); (case side1 => exact CB (C_below HR0_1.1 HB.1)); (case side2 => exact HC0_1.1); rintro e w7 ⟨rfl, hb⟩; refine ⟨_, rfl, ?_⟩; refine E2 (bB BK395.1 hb) (bS HB.1 hb) ?_; clear BK395 HB; intro BK395 HB; (try clear hb); obtain ⟨hcz8_0, hcz8_1, hcz8_2, hfz8_0, hfz8_1, hfz8_2⟩ := cz3 BK395.1) | ((with_reducible refine gate_callee (f := 59) rfl ?_); refine goesM (N := (some 11)) #[.agg #[.int .i64 a0_0, .slice A0_1 l0_1.length c0_1, .int .i64 a0_2]] Try.func59 ?_; (with_reducible refine (impl_tableOfDiagram.calls k a0_0 _ _ l0_1 a0_2 t397 t398 _ ?side1 ?side2 A4.1).mono ?_); (case side1 => exact CB (C_below HR0_1.1 HB.1)); (case side2 => exact HC0_1.1); rintro e w9 ⟨v399, rfl, ho0, hb⟩; refine ⟨_, rfl, ?_⟩; refine E3 (R_lower ho0 (bZ HB.1)) (bB BK395.1 hb) (bS HB.1 hb) ?_; clear BK395 HB; intro HO400 BK395 HB; (try clear hb); (try clear ho0); obtain ⟨Ao10, co10, eo10⟩ := R_slice HO400.1; subst eo10))
   go_loopg [4, 14] k (fun kq v4 v14 w' => ∃ (x4_1 : Int) (x14_1 : Int), v4 = .int .i64 x4_1 /\ v14 = .int .i64 x14_1 /\ Aside0 (impl_CountTrue.l0 kq x4_1 t398 (t398.length : Int) x14_1 = some (r1, r2)) /\ Aside0 (kq <= k) /\ Aside0 (Kd.R (Kd.int .i64) 3 w' w.heap.size (fun _ => True) (.slice Ao10 t398.length co10) t398) /\ Aside0 (w'.heap[gb395]? = some (.cells #[.int .i64 a0_0, (.slice A0_1 l0_1.length c0_1), .int .i64 a0_2] 29 (0, 0))) /\ Aside0 (Below w.heap.size w w'))
   case atStart => exact ⟨(0), (0), RG, RG, H', ⟨Nat.le_refl _⟩, ⟨PR HO400.1⟩, ⟨PB BK395.1⟩, ⟨BL HB.1⟩⟩
   clear H'
   clear hcz6_0 hcz6_1 hcz6_2 hcz8_0 hcz8_1 hcz8_2 hfz6_0 hfz6_1 hfz6_2 hfz8_0 hfz8_1 hfz8_2
   obtain ⟨x4_1, x14_1, rfl, rfl, HA, HK1, HO_12, BK395, HB⟩ := hrel
   cases gk with
   | zero => exact absurd HA.1 (by simp [impl_CountTrue.l0])
   | succ k1 => ?_
   have H := HA.1
   clear HA
   simp only [impl_CountTrue.l0] at H
   replace H := ifB H; rcases H with ⟨c11b0, H⟩ | ⟨c11b0, H⟩
   · replace H := ifN H; obtain ⟨c12b0, H⟩ := H
     replace H := ifN H; obtain ⟨c13b0, H⟩ := H
     have H' := Aside0.mk H
     clear H
     have p401 : 0 <= (x14_1 : Int) := OD
     have q401 : x14_1 < (t398.length : Int) := OD
     obtain ⟨ad401, e401, hx401_0⟩ := Kd.at_int (R_reads' HO_12.1).2.2 x14_1 p401 q401
     cases e401
     replace p401 := eq_true p401
     replace q401 := eq_true q401
     go_wp2
     go_roundg k1
     case measure => have := HK1.1; omega
     case rel => exact ⟨(wrap64 (x4_1 + (rd t398 x14_1))), (wrap64 (x14_1 + 1)), RG, RG, H', ⟨by have := HK1.1; omega⟩, ⟨PR HO_12.1⟩, ⟨PB BK395.1⟩, ⟨BL HB.1⟩⟩
   simp only [Option.some.injEq, Prod.mk.injEq] at H
   obtain ⟨rfl, rfl⟩ := H
   go_wp2
   go_ret2
   exact ⟨RF, BL HB.1⟩
 simp only [Option.some.injEq, Prod.mk.injEq] at H
 obtain ⟨rfl, rfl⟩ := H
 go_enter Try.func28, Try.ntmps28
 go_wp2_with (first | ((with_reducible refine gate_dst (N := 1) rfl ?_); refine boxE (cs := #[.int .i64 a0_0, .slice A0_1 l0_1.length c0_1, .int .i64 a0_2]) (t := 29) ?_; intro gb395 hg w14 hbox hb; refine E4b HB.1 hg hbox hb ?_; clear HB; intro HB BK395 GW395 GE395; clear hb hbox hg; obtain ⟨hcz15_0, hcz15_1, hcz15_2, hfz15_0, hfz15_1, hfz15_2⟩ := cz3 BK395.1) | ((with_reducible refine gate_callee (f := 15) rfl ?_); refine goesM (N := (some 8)) #[.agg #[.int .i64 a0_0, .slice A0_1 l0_1.length c0_1, .int .i64 a0_2]] Try.func15 ?_; (with_reducible refine (impl_IsDiagram.calls k a0_0 _ _ l0_1 a0_2 false _ ?side1 ?side2 A2.1).mono ?_); (case side1 => exact CB (C_below HR0_1.1 HB.1)); (case side2 => exact HC0_1.1); rintro e w16 ⟨rfl, hb⟩; refine ⟨_, rfl, ?_⟩; refine E2 (bB BK395.1 hb) (bS HB.1 hb) ?_; clear BK395 HB; intro BK395 HB; (try clear hb)))
 go_ret2
 exact ⟨RF, BL HB.1⟩

/-! ### laws_FnExactCountTrue: function 6 -/
open Kd
def laws_FnExactCountTrue.j0 : Nat -> Bool -> Int -> List (S86) -> Int -> Int -> List (S63) -> Int -> Option (Bool)
 | 0, _, _, _, _, _, _, _ => none
 | k + 1, x34, x403000, x403001, x403002, x417000, x417001, x417002 => if x34 = true then (some false) else ((laws_toDiagram.f k x403000 x403001 x403002).bind fun bt419 => ((laws_eqDiagram.f k x417000 x417001 x417002 bt419.1 bt419.2.1 bt419.2.2).bind fun t424 => (if t424 = true then (some true) else (some false))))
def laws_FnExactCountTrue.f (k : Nat) (a0_0 : Int) (l0_1 : List (S86)) (a0_2 : Int) : Option (Bool) := (laws_szDiagram.f a0_0 l0_1 a0_2 1048576).bind fun t403 => (if t403 < 0 then (some true) else ((laws_toDiagram.f k a0_0 l0_1 a0_2).bind fun bt404 => ((spec_CountTrue.f k bt404.1 bt404.2.1 bt404.2.2).bind fun bt409 => ((laws_toDiagram.f k a0_0 l0_1 a0_2).bind fun bt411 => ((impl_CountTrue.f k bt411.1 bt411.2.1 bt411.2.2).bind fun bt417 => (if bt417.1 = bt409.1 then (laws_FnExactCountTrue.j0 k (bt417.2 != bt409.2) a0_0 l0_1 a0_2 bt411.1 bt411.2.1 bt411.2.2) else (laws_FnExactCountTrue.j0 k true a0_0 l0_1 a0_2 bt411.1 bt411.2.1 bt411.2.2)))))))
theorem laws_FnExactCountTrue.mono_l : ∀ k, (∀ y0 y1 y2 y3 y4 y5 y6, LeO (laws_FnExactCountTrue.j0 k y0 y1 y2 y3 y4 y5 y6) (laws_FnExactCountTrue.j0 (k + 1) y0 y1 y2 y3 y4 y5 y6))
 | 0 => fun _ _ _ _ _ _ _ r h => by simp [laws_FnExactCountTrue.j0] at h
 | k + 1 => by
  have ih0 := laws_FnExactCountTrue.mono_l k
  intros
  first | unfold laws_FnExactCountTrue.j0
  repeat' first | (with_reducible first | apply ih0 | apply impl_CountTrue.mono | apply laws_eqDiagram.mono | apply laws_toDiagram.mono | apply spec_CountTrue.mono | exact LeO.refl _ | exact LeO.none _ | refine LeO.ite ?_ ?_ | refine LeO.bind ?_ (fun _ => ?_)) | exact LeO.none _ | refine LeO.ite ?_ ?_ | refine LeO.bind ?_ (fun _ => ?_)
theorem laws_FnExactCountTrue.mono : ∀ a0 a1 a2 k, LeO (laws_FnExactCountTrue.f k a0 a1 a2) (laws_FnExactCountTrue.f (k + 1) a0 a1 a2) := by
 intro a0 a1 a2 k
 have ih0 := laws_FnExactCountTrue.mono_l k
 unfold laws_FnExactCountTrue.f
 repeat' first | (with_reducible first | apply ih0 | apply impl_CountTrue.mono | apply laws_eqDiagram.mono | apply laws_toDiagram.mono | apply spec_CountTrue.mono | exact LeO.refl _ | exact LeO.none _ | refine LeO.ite ?_ ?_ | refine LeO.bind ?_ (fun _ => ?_)) | exact LeO.none _ | refine LeO.ite ?_ ?_ | refine LeO.bind ?_ (fun _ => ?_)
set_option maxHeartbeats 8000000 in
set_option maxRecDepth 100000 in
theorem laws_FnExactCountTrue.calls (k : Nat) (a0_0 : Int) (A0_1 : Option Addr) (c0_1 : Nat) (l0_1 : List (S86)) (a0_2 : Int) (w : World) (hr0_1 : Kd.C k86 w A0_1 l0_1.length l0_1) (hc0_1 : l0_1.length <= c0_1) (h : laws_FnExactCountTrue.f k a0_0 l0_1 a0_2 = some true) :
 Calls Try.prog 6 #[.agg #[.int .i64 a0_0, .slice A0_1 l0_1.length c0_1, .int .i64 a0_2]] w fun e w' => e = .returned (.bool true) /\ Below w.heap.size w w' := by
 have hu24 := Try.underlying24
 have hu29 := Try.underlying29
 have HR0_1 := Aside0.mk hr0_1
 have HC0_1 := Aside0.mk hc0_1
 clear hr0_1 hc0_1
 have HB := Aside0.mk (Below.refl w.heap.size w)
 have H := h
 clear h
 unfold laws_FnExactCountTrue.f at H
 replace H := bindA H; obtain ⟨t403, A2, H⟩ := H
 replace H := ifB H; rcases H with ⟨c3b0, H⟩ | ⟨c3b0, H⟩
 · first | (obtain rfl := Option.some.inj H) | clear H
   go_enter Try.func6, Try.ntmps6
   go_wp2_with (first | ((with_reducible refine gate_dst (N := 1) rfl ?_); refine boxE (cs := #[.int .i64 a0_0, .slice A0_1 l0_1.length c0_1, .int .i64 a0_2]) (t := 24) ?_; intro gb402 hg w4 hbox hb; refine E4b HB.1 hg hbox hb ?_; clear HB; intro HB BK402 GW402 GE402; clear hb hbox hg; obtain ⟨hcz5_0, hcz5_1, hcz5_2, hfz5_0, hfz5_1, hfz5_2⟩ := cz3 BK402.1) | ((with_reducible refine gate_callee (f := 12) rfl ?_); refine goesM (N := (some 11)) #[.agg #[.int .i64 a0_0, .slice A0_1 l0_1.length c0_1, .int .i64 a0_2], .int .i64 1048576] Try.func12 ?_; (with_reducible refine (laws_szDiagram.calls a0_0 _ _ l0_1 a0_2 1048576 t403 _ ?side1 ?side2 A2.1).mono ?_); (case side1 => exact CB (C_below HR0_1.1 HB.1)); (case side2 => exact HC0_1.1); rintro e w6 ⟨rfl, hb⟩; refine ⟨_, rfl, ?_⟩; refine E2 (bB BK402.1 hb) (bS HB.1 hb) ?_; clear BK402 HB; intro BK402 HB; (try clear hb)))
   go_ret
   exact ⟨RF, BL HB.1⟩
 replace H := bindA H; obtain ⟨⟨t404, t405, t408⟩, A7, H⟩ := H
 dsimp only at H
 replace H := bindA H; obtain ⟨⟨t409, t410⟩, A8, H⟩ := H
 dsimp only at H
 replace H := bindA H; obtain ⟨⟨t411, t412, t415⟩, A9, H⟩ := H
 dsimp only at H
 replace H := bindA H; obtain ⟨⟨t417, t418⟩, A10, H⟩ := H
 dsimp only at H
 have HC11 := Aside0.mk H
 clear H
 go_enter Try.func6, Try.ntmps6
 go_upto_region 8 with (first | ((with_reducible refine gate_dst (N := 1) rfl ?_); refine boxE (cs := #[.int .i64 a0_0, .slice A0_1 l0_1.length c0_1, .int .i64 a0_2]) (t := 24) ?_; intro gb402 hg w12 hbox hb; refine E4b HB.1 hg hbox hb ?_; clear HB; intro HB BK402 GW402 GE402; clear hb hbox hg; obtain ⟨hcz13_0, hcz13_1, hcz13_2, hfz13_0, hfz13_1, hfz13_2⟩ := cz3 BK402.1) | ((with_reducible refine gate_callee (f := 12) rfl ?_); refine goesM (N := (some 11)) #[.agg #[.int .i64 a0_0, .slice A0_1 l0_1.length c0_1, .int .i64 a0_2], .int .i64 1048576] Try.func12 ?_; (with_reducible refine (laws_szDiagram.calls a0_0 _ _ l0_1 a0_2 1048576 t403 _ ?side1 ?side2 A2.1).mono ?_); (case side1 => exact CB (C_below HR0_1.1 HB.1)); (case side2 => exact HC0_1.1); rintro e w14 ⟨rfl, hb⟩; refine ⟨_, rfl, ?_⟩; refine E2 (bB BK402.1 hb) (bS HB.1 hb) ?_; clear BK402 HB; intro BK402 HB; (try clear hb); obtain ⟨hcz15_0, hcz15_1, hcz15_2, hfz15_0, hfz15_1, hfz15_2⟩ := cz3 BK402.1) | ((with_reducible refine gate_callee (f := 14) rfl ?_); refine goesM (N := (some 16)) #[.agg #[.int .i64 a0_0, .slice A0_1 l0_1.length c0_1, .int .i64 a0_2]] Try.func14 ?_; (with_reducible refine (laws_toDiagram.calls k a0_0 _ _ l0_1 a0_2 t404 t405 t408 _ ?side1 ?side2 A7.1).mono ?_); (case side1 => exact CB (C_below HR0_1.1 HB.1)); (case side2 => exact HC0_1.1); rintro e w16 ⟨v406, rfl, ho0, hb⟩; refine ⟨_, rfl, ?_⟩; refine E3 (R_lower ho0 (bZ HB.1)) (bB BK402.1 hb) (bS HB.1 hb) ?_; clear BK402 HB; intro HO407 BK402 HB; (try clear hb); (try clear ho0); obtain ⟨Ao17, co17, eo17⟩ := R_slice HO407.1; subst eo17) | ((with_reducible refine gate_callee (f := 27) rfl ?_); refine goesM (N := (some 17)) #[.agg #[.int .i64 t404, .slice Ao17 t405.length co17, .int .i64 t408]] Try.func27 ?_; (with_reducible refine (spec_CountTrue.calls k t404 _ _ t405 t408 t409 t410 _ ?side1 ?side2 A8.1).mono ?_); (case side1 => exact CB (R_reads' HO407.1).2.2); (case side2 => exact (R_reads' HO407.1).2.1); rintro e w18 ⟨rfl, hb⟩; refine ⟨_, rfl, ?_⟩; refine E3 (rB HO407.1 hb) (bB BK402.1 hb) (bS HB.1 hb) ?_; clear HO407 BK402 HB; intro HO407 BK402 HB; (try clear hb); obtain ⟨hcz19_0, hcz19_1, hcz19_2, hfz19_0, hfz19_1, hfz19_2⟩ := cz3 BK402.1) | ((with_reducible refine gate_callee (f := 14) rfl ?_); refine goesM (N := (some 21)) #[.agg #[.int .i64 a0_0, .slice A0_1 l0_1.length c0_1, .int .i64 a0_2]] Try.func14 ?_; (with_reducible refine (laws_toDiagram.calls k a0_0 _ _ l0_1 a0_2 t411 t412 t415 _ ?side1 ?side2 A9.1).mono ?_); (case side1 => exact CB (C_below HR0_1.1 HB.1)); (case side2 => exact HC0_1.1); rintro e w20 ⟨v413, rfl, ho0, hb⟩; refine ⟨_, rfl, ?_⟩; refine E4 (R_elder' (PR HO407.1) (R_base ho0) hb) (R_lower (R_new' ho0 (R_lt (PR HO407.1))) (bZ HB.1)) (bB BK402.1 hb) (bS HB.1 hb) ?_; clear HO407 BK402 HB; intro HO407 HO414 BK402 HB; (try clear hb); (try clear ho0)) | ((with_reducible refine gate_dst (N := 6) rfl ?_); refine boxE (cs := #[.int .i64 0, .slice none 0 0, .int .i64 0]) (t := 29) ?_; intro gb416 hg w21 hbox hb; refine E9 (rB HO407.1 hb) (rB HO414.1 hb) (bB BK402.1 hb) (bS HB.1 hb) (hbox) (gX HB.1 hg) (gX HB.1 hg) (nB BK402.1 hg) (nC BK402.1 hg) ?_; clear HO407 HO414 BK402 HB; intro HO407 HO414 BK402 HB BK416 GW416 GE416 NB402_416 NB416_402; clear hb hbox hg; have hnb22 := NB416_402.1; have hnc22 := NB402_416.1; obtain ⟨hcz23_0, hcz23_1, hcz23_2, hfz23_0, hfz23_1, hfz23_2⟩ := cz3 BK416.1; obtain ⟨Ao24, co24, eo24⟩ := R_slice HO414.1; subst eo24) | ((with_reducible refine gate_callee (f := 28) rfl ?_); refine goesM (N := (some 24)) #[.agg #[.int .i64 t411, .slice Ao24 t412.length co24, .int .i64 t415]] Try.func28 ?_; (with_reducible refine (impl_CountTrue.calls k t411 _ _ t412 t415 t417 t418 _ ?side1 ?side2 A10.1).mono ?_); (case side1 => refine (R_reads' (e := 63) (base := w.heap.size) (ok := fun k_ => (True /\ some k_ ≠ (.slice Ao17 t405.length co17 : Value).ownBlock)) (n := t412.length) (c := co24) ?_).2.2; exact (by (with_reducible repeat (first | apply R_alloc | apply R_drewN | apply R_drew)); exact (R_mono (RQ gb416 2 (RQ gb416 1 (RQ gb416 0 (R_types HO414.1 BK416.1 (by decide)) _) _) _) (fun _ h_ => h_.1)))); (case side2 => exact (R_reads' HO414.1).2.1); rintro e w25 ⟨rfl, hb⟩; refine ⟨_, rfl, ?_⟩; refine E5 (R_below (by (with_reducible repeat (first | apply R_alloc | apply R_drewN | apply R_drew)); exact (R_mono (RQ gb416 2 (RQ gb416 1 (RQ gb416 0 (R_types HO407.1 BK416.1 (by decide)) _) _) _) (fun _ h_ => h_.1))) hb) (R_below (by (with_reducible repeat (first | apply R_alloc | apply R_drewN | apply R_drew)); exact (R_mono (RQ gb416 2 (RQ gb416 1 (RQ gb416 0 (R_types HO414.1 BK416.1 (by decide)) _) _) _) (fun _ h_ => h_.1))) hb) (blk_below (g := gb402) (o := .cells #[.int .i64 a0_0, .slice A0_1 l0_1.length c0_1, .int .i64 a0_2] 24 (0, 0)) (PF1 NB402_416.1 BK402.1) hb) (blk_below (g := gb416) (o := .cells #[.int .i64 t411, .slice Ao24 t412.length co24, .int .i64 t415] 29 (0, 0)) (PF0 BK416.1) hb) (bS HB.1 hb) ?_; clear HO407 HO414 BK402 BK416 HB; intro HO407 HO414 BK402 BK416 HB; (try clear hb)))
 (try simp only [Act.put, List.setIfInBounds_toArray, List.set_cons_zero, List.set_cons_succ])
 go_cut [34] (fun v34 wc => ∃ (kq : Nat) (x34_10 : Bool), v34 = .bool x34_10 /\ Aside0 (laws_FnExactCountTrue.j0 kq x34_10 a0_0 l0_1 a0_2 t411 t412 t415 = some true) /\ Aside0 (kq <= k) /\ Aside0 (Kd.R k63 63 wc w.heap.size (fun _ => True) (.slice Ao24 t412.length co24) t412) /\ Aside0 (wc.heap[gb402]? = some (.cells #[.int .i64 a0_0, (.slice A0_1 l0_1.length c0_1), .int .i64 a0_2] 24 (0, 0))) /\ Aside0 (wc.heap[gb416]? = some (.cells #[.int .i64 t411, (.slice Ao24 t412.length co24), .int .i64 t415] 29 (0, 0))) /\ Aside0 (Below w.heap.size w wc))
 case first =>
  have H := HC11.1
  clear HC11
  replace H := ifQ H; rcases H with ⟨c26, H⟩ | ⟨c26, H⟩
  · have c26b0 := beq_iff_eq.mpr c26
    have c26b1 := bne_eq_false_iff_eq.mpr c26
    clear c26
    (first | rw [c26b0] | (simp only [i64_w, i32_w]; rw [c26b0]) | skip)
    have H' := Aside0.mk H
    clear H
    go_wp2
    go_meet
    case rel => exact ⟨_, ((t418 != t410)), RG, H', ⟨by first | omega | exact Nat.le_refl _⟩, ⟨RPE (R_mono HO414.1 (fun _ hk => trivial))⟩, ⟨PB BK402.1⟩, ⟨PB BK416.1⟩, ⟨BL HB.1⟩⟩
  exact absurd H (by cases k <;> simp [laws_FnExactCountTrue.j0])
 clear HC11
 clear c3b0 hcz13_0 hcz13_1 hcz13_2 hcz15_0 hcz15_1 hcz15_2 hcz19_0 hcz19_1 hcz19_2 hcz23_0 hcz23_1 hcz23_2 hfz13_0 hfz13_1 hfz13_2 hfz15_0 hfz15_1 hfz15_2 hfz19_0 hfz19_1 hfz19_2 hfz23_0 hfz23_1 hfz23_2
 obtain ⟨kq, x34_10, rfl, HA, HJ10, HO_417001, BK402, BK416, HB⟩ := hcut
 cases kq with
 | zero => exact absurd HA.1 (by simp [laws_FnExactCountTrue.j0])
 | succ kj10 => ?_
 have H := HA.1
 clear HA
 simp only [laws_FnExactCountTrue.j0] at H
 replace H := ifF H (by simp); obtain ⟨rfl, H⟩ := H
 replace H := bindA H; obtain ⟨⟨t419, t420, t423⟩, A28, H⟩ := H
 dsimp only at H
 replace H := bindA H; obtain ⟨t424, A29, H⟩ := H
 replace H := ifT H (by simp); obtain ⟨rfl, H⟩ := H
 first | (obtain rfl := Option.some.inj H) | clear H
 try go_wp2
 refine E4 (R_drew HO_417001.1) (blk_drew BK402.1) (blk_drew BK416.1) (below_drew1 HB.1) ?_
 clear HO_417001 BK402 BK416 HB
 intro HO_417001 BK402 BK416 HB
 refine start_ (n := 5) (S := fun w' => w'.cell? ⟨gb416, 0, none⟩ = some (.int .i64 t411) /\ w'.cell? ⟨gb416, 1, none⟩ = some (.slice Ao24 t412.length co24) /\ w'.cell? ⟨gb416, 2, none⟩ = some (.int .i64 t415) /\ w'.cell? ⟨gb402, 0, none⟩ = some (.int .i64 a0_0) /\ w'.cell? ⟨gb402, 1, none⟩ = some (.slice A0_1 l0_1.length c0_1) /\ w'.cell? ⟨gb402, 2, none⟩ = some (.int .i64 a0_2)) (ds := []) #[Zz,Zz,Zz,Zz,Zz] (by kernel_rfl) rfl rfl ⟨(blk_cell BK416.1 0).trans rfl, (blk_cell BK416.1 1).trans rfl, (blk_cell BK416.1 2).trans rfl, (blk_cell BK402.1 0).trans rfl, (blk_cell BK402.1 1).trans rfl, (blk_cell BK402.1 2).trans rfl⟩ (fun hHeld => ?_)
 generalize wc.drew = w31 at HO_417001 BK402 BK416 HB hHeld ⊢
 refine takeF 0 (N := some 35) hHeld ?_
 refine takeF 1 (N := some 36) hHeld ?_
 refine one_ (i := 2) (N := some 37) #[Yy,Yy,Yy,Zz,Zz] rfl rfl (by kernel_rfl) (by decide) (fun K hK => ?_)
 refine goes_ Try.func14 (by kernel_rfl) rfl #[.agg #[.int .i64 a0_0, .slice A0_1 l0_1.length c0_1, .int .i64 a0_2]] (by rfl) rfl rfl (by (try simp only [List.map_toArray, List.map_cons, List.map_nil]); first | done | rfl | (simp only [List.length_drop, List.length_take]; rfl)) ?_
 with_reducible refine (laws_toDiagram.calls kj10 a0_0 _ _ l0_1 a0_2 t419 t420 t423 _ ?side1 ?side2 A28.1).mono ?_
 (case side1 => exact CB (C_below HR0_1.1 HB.1))
 (case side2 => exact HC0_1.1)
 rintro e w32 ⟨v421, rfl, ho0, hb⟩
 refine ⟨_, rfl, ?_⟩
 refine E5 (R_elder' (PR HO_417001.1) (R_base ho0) hb) (R_lower (R_new' ho0 (R_lt (PR HO_417001.1))) (bZ HB.1)) (bB BK402.1 hb) (bB BK416.1 hb) (bS HB.1 hb) ?_
 clear HO_417001 BK402 BK416 HB
 intro HO_417001 HO422 BK402 BK416 HB
 (try clear hb)
 (try clear hb2)
 (try clear hk)
 (try clear hi)
 (try clear ho0)
 obtain ⟨Ao33, co33, eo33⟩ := R_slice HO422.1
 (first | subst eo33 | (injection eo33 with f1_ f2_ f3_; have f4_ := f1_.symm; have f5_ := f3_.symm; clear f1_ f2_ f3_; subst f4_; subst f5_))
 refine hK.out _ _ ⟨(blk_cell BK416.1 0).trans rfl, (blk_cell BK416.1 1).trans rfl, (blk_cell BK416.1 2).trans rfl, (blk_cell BK402.1 0).trans rfl, (blk_cell BK402.1 1).trans rfl, (blk_cell BK402.1 2).trans rfl⟩ (fun hHeld => ?_)
 clear hK K
 refine norm_ (a' := ?_) ?_ ?_
 rotate_left
 · show Act.put _ (some 37) _ = _
   simp only [Act.put, List.setIfInBounds_toArray, List.set_cons_zero, List.set_cons_succ, i64_w, i32_w]
   rfl
 refine one_ (i := 3) (N := some 38) #[Yy,Yy,Yy,Yy,Zz] rfl rfl (by kernel_rfl) (by decide) (fun K hK => ?_)
 refine goes_ Try.func16 (by kernel_rfl) rfl #[.agg #[.int .i64 t411, .slice Ao24 t412.length co24, .int .i64 t415], .agg #[.int .i64 t419, .slice Ao33 t420.length co33, .int .i64 t423]] (by rfl) rfl rfl (by (try simp only [List.map_toArray, List.map_cons, List.map_nil]); first | done | rfl | (simp only [List.length_drop, List.length_take]; rfl)) ?_
 with_reducible refine (laws_eqDiagram.calls kj10 t411 _ _ t412 t415 t419 _ _ t420 t423 true _ ?side1 ?side2 ?side3 ?side4 A29.1).mono ?_
 (case side1 => exact CB (R_reads' HO_417001.1).2.2)
 (case side2 => exact (R_reads' HO_417001.1).2.1)
 (case side3 => exact CB (R_reads' HO422.1).2.2)
 (case side4 => exact (R_reads' HO422.1).2.1)
 rintro e w34 ⟨rfl, hb⟩
 refine ⟨_, rfl, ?_⟩
 refine E5 (rB HO_417001.1 hb) (rB HO422.1 hb) (bB BK402.1 hb) (bB BK416.1 hb) (bS HB.1 hb) ?_
 clear HO_417001 HO422 BK402 BK416 HB
 intro HO_417001 HO422 BK402 BK416 HB
 (try clear hb)
 (try clear hb2)
 (try clear hk)
 (try clear hi)
 refine hK.out _ _ ⟨(blk_cell BK416.1 0).trans rfl, (blk_cell BK416.1 1).trans rfl, (blk_cell BK416.1 2).trans rfl, (blk_cell BK402.1 0).trans rfl, (blk_cell BK402.1 1).trans rfl, (blk_cell BK402.1 2).trans rfl⟩ (fun hHeld => ?_)
 clear hK K
 refine norm_ (a' := ?_) ?_ ?_
 rotate_left
 · show Act.put _ (some 38) _ = _
   simp only [Act.put, List.setIfInBounds_toArray, List.set_cons_zero, List.set_cons_succ, i64_w, i32_w]
   rfl
 refine pure_ (i := 4) (N := some 39) (v := ?_) (a' := ?_) #[Yy,Yy,Yy,Yy,Yy] rfl rfl (by kernel_rfl) (fun _ _ _ h => h) (Or.inl ⟨by rfl, ?_⟩) ?_ ?_
 rotate_left
 · intro w'
   go_simp
   with_reducible rfl
 rotate_left
 · simp only [Act.put, List.setIfInBounds_toArray, List.set_cons_zero, List.set_cons_succ, i64_w, i32_w]
   rfl
 refine done_ (by kernel_rfl) ?_
 try go_wp2
 go_ret
 exact ⟨RF, BL HB.1⟩
end Go.Proofs.Ytdkfgomjfigmbaa.P
