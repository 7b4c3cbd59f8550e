-- PRINTED by print.py (a twelfth state) out of the translation. Not trusted: Lean checks it.
import Derived.Test.YtdkfgomjfigmbaaPx0
namespace Go.Proofs.Ytdkfgomjfigmbaa.P
open Go.RowKit Go.Proofs.YtdkfgomjfigmbaaW.PrintWords Go.Proofs.YtdkfgomjfigmbaaW.PrintLast Go.Proofs.YtdkfgomjfigmbaaW.PrintMore
attribute [local go_sem] max2_int min2_int max_two min_two max_three min_three max_four min_four   -- for this text's walks alone
set_option linter.unusedVariables false
set_option linter.unusedSimpArgs false
set_option maxHeartbeats 8000000
set_option maxRecDepth 100000

/-! ### laws_heldNodeS: function 56 -/
open Kd
def laws_heldNodeS.l0 : Nat -> List (S63) -> Int -> Int -> Option (Int)
 | 0, _, _, _ => none
 | k + 1, x0, x1, x5 => if x5 < (x0.length : Int) then (if 0 <= x5 then (if ((rd_T63 x0 x5).f0) = x1 then (if ((rd_T63 x0 x5).f1) = (wrap64 (x1 + 1)) then (if ((rd_T63 x0 x5).f2) = (wrap64 ((wrap64 (x1 + 1)) + 1)) then (laws_heldNodeS.l0 k x0 (wrap64 ((wrap64 ((wrap64 (x1 + 1)) + 1)) + 1)) (wrap64 (x5 + 1))) else (some (-1))) else (some (-1))) else (some (-1))) else (none)) else (some x1)
def laws_heldNodeS.f (k : Nat) (l0 : List (S63)) (a1 : Int) : Option (Int) := laws_heldNodeS.l0 k l0 a1 0
theorem laws_heldNodeS.mono_l : ∀ k, (∀ y0 y1 y2, LeO (laws_heldNodeS.l0 k y0 y1 y2) (laws_heldNodeS.l0 (k + 1) y0 y1 y2))
 | 0 => fun _ _ _ r h => by simp [laws_heldNodeS.l0] at h
 | k + 1 => by
  have ih0 := laws_heldNodeS.mono_l k
  intros
  first | unfold laws_heldNodeS.l0
  exact LM1 ih0
theorem laws_heldNodeS.mono : ∀ a0 a1 k, LeO (laws_heldNodeS.f k a0 a1) (laws_heldNodeS.f (k + 1) a0 a1) := by
 intro a0 a1 k
 have ih0 := laws_heldNodeS.mono_l k
 unfold laws_heldNodeS.f
 exact LM1 ih0
theorem laws_heldNodeS.calls (k : Nat) (A0 : Option Addr) (c0 : Nat) (l0 : List (S63)) (a1 : Int) (r : Int) (w : World) (hr0 : Kd.C k63 w A0 l0.length l0) (hc0 : l0.length <= c0) (h : laws_heldNodeS.f k l0 a1 = some r) :
 Calls Try.prog 56 #[.slice A0 l0.length c0, .int .i64 a1] w fun e w' => e = .returned (.int .i64 r) /\ Drawn0 w w' := by
 have HR0 := Aside0.mk hr0
 have HC0 := Aside0.mk hc0
 clear hr0 hc0
 have H := h
 clear h
 unfold laws_heldNodeS.f at H
 have H' := Aside0.mk H
 clear H
 go_enter Try.func56, Try.ntmps56
 go_wp2
 go_loopg [1, 5] k (fun kq v1 v5 w' => ∃ (x1_1 : Int) (x5_1 : Int), v1 = .int .i64 x1_1 /\ v5 = .int .i64 x5_1 /\ Aside0 (laws_heldNodeS.l0 kq l0 x1_1 x5_1 = some r) /\ Aside0 (kq <= k) /\ Drawn0 w w')
 case atStart => exact ⟨(a1), (0), RG, RG, H', ⟨Nat.le_refl _⟩, DR⟩
 clear H'
 obtain ⟨x1_1, x5_1, rfl, rfl, HA, HK1, ⟨m1, rfl⟩⟩ := hrel
 cases gk with
 | zero => exact absurd HA.1 (by simp [laws_heldNodeS.l0])
 | succ k1 => ?_
 have H := HA.1
 clear HA
 simp only [laws_heldNodeS.l0] at H
 replace H := ifB H; rcases H with ⟨c3b0, H⟩ | ⟨c3b0, H⟩
 · replace H := ifN H; obtain ⟨c4b0, H⟩ := H
   replace H := ifQ H; rcases H with ⟨c5, H⟩ | ⟨c5, H⟩
   · have c5b0 := beq_iff_eq.mpr c5
     have c5b1 := bne_eq_false_iff_eq.mpr c5
     clear c5
     replace H := ifQ H; rcases H with ⟨c6, H⟩ | ⟨c6, H⟩
     · have c6b0 := beq_iff_eq.mpr c6
       have c6b1 := bne_eq_false_iff_eq.mpr c6
       clear c6
       replace H := ifQ H; rcases H with ⟨c7, H⟩ | ⟨c7, H⟩
       · have c7b0 := beq_iff_eq.mpr c7
         have c7b1 := bne_eq_false_iff_eq.mpr c7
         clear c7
         have H' := Aside0.mk H
         clear H
         have p307 : 0 <= (x5_1 : Int) := OD
         have q307 : x5_1 < (l0.length : Int) := OD
         obtain ⟨ad307, e307, hx307_0, hx307_1, hx307_2⟩ := at_T63 HR0.1 x5_1 p307 q307
         cases e307
         replace p307 := eq_true p307
         replace q307 := eq_true q307
         have p308 : 0 <= (x5_1 : Int) := OD
         have q308 : x5_1 < (l0.length : Int) := OD
         obtain ⟨ad308, e308, hx308_0, hx308_1, hx308_2⟩ := at_T63 HR0.1 x5_1 p308 q308
         obtain rfl : ad307 = ad308 := (by injection e308)
         replace p308 := eq_true p308
         replace q308 := eq_true q308
         have p309 : 0 <= (x5_1 : Int) := OD
         have q309 : x5_1 < (l0.length : Int) := OD
         obtain ⟨ad309, e309, hx309_0, hx309_1, hx309_2⟩ := at_T63 HR0.1 x5_1 p309 q309
         obtain rfl : ad307 = ad309 := (by injection e309)
         replace p309 := eq_true p309
         replace q309 := eq_true q309
         go_wp2
         go_roundg k1
         case measure => have := HK1.1; omega
         case rel => exact ⟨(wrap64 ((wrap64 ((wrap64 (x1_1 + 1)) + 1)) + 1)), (wrap64 (x5_1 + 1)), RG, RG, H', ⟨by have := HK1.1; omega⟩, DR⟩
       have c7b0 := beq_eq_false_iff_ne.mpr c7
       have c7b1 := bne_iff_ne.mpr c7
       obtain rfl := Option.some.inj H
       have p307 : 0 <= (x5_1 : Int) := OD
       have q307 : x5_1 < (l0.length : Int) := OD
       obtain ⟨ad307, e307, hx307_0, hx307_1, hx307_2⟩ := at_T63 HR0.1 x5_1 p307 q307
       cases e307
       replace p307 := eq_true p307
       replace q307 := eq_true q307
       have p308 : 0 <= (x5_1 : Int) := OD
       have q308 : x5_1 < (l0.length : Int) := OD
       obtain ⟨ad308, e308, hx308_0, hx308_1, hx308_2⟩ := at_T63 HR0.1 x5_1 p308 q308
       obtain rfl : ad307 = ad308 := (by injection e308)
       replace p308 := eq_true p308
       replace q308 := eq_true q308
       have p309 : 0 <= (x5_1 : Int) := OD
       have q309 : x5_1 < (l0.length : Int) := OD
       obtain ⟨ad309, e309, hx309_0, hx309_1, hx309_2⟩ := at_T63 HR0.1 x5_1 p309 q309
       obtain rfl : ad307 = ad309 := (by injection e309)
       replace p309 := eq_true p309
       replace q309 := eq_true q309
       go_wp2
       go_ret
       exact ⟨RG, DR⟩
     have c6b0 := beq_eq_false_iff_ne.mpr c6
     have c6b1 := bne_iff_ne.mpr c6
     obtain rfl := Option.some.inj H
     have p307 : 0 <= (x5_1 : Int) := OD
     have q307 : x5_1 < (l0.length : Int) := OD
     obtain ⟨ad307, e307, hx307_0, hx307_1, hx307_2⟩ := at_T63 HR0.1 x5_1 p307 q307
     cases e307
     replace p307 := eq_true p307
     replace q307 := eq_true q307
     have p308 : 0 <= (x5_1 : Int) := OD
     have q308 : x5_1 < (l0.length : Int) := OD
     obtain ⟨ad308, e308, hx308_0, hx308_1, hx308_2⟩ := at_T63 HR0.1 x5_1 p308 q308
     obtain rfl : ad307 = ad308 := (by injection e308)
     replace p308 := eq_true p308
     replace q308 := eq_true q308
     go_wp2
     go_ret
     exact ⟨RG, DR⟩
   have c5b0 := beq_eq_false_iff_ne.mpr c5
   have c5b1 := bne_iff_ne.mpr c5
   obtain rfl := Option.some.inj H
   have p307 : 0 <= (x5_1 : Int) := OD
   have q307 : x5_1 < (l0.length : Int) := OD
   obtain ⟨ad307, e307, hx307_0, hx307_1, hx307_2⟩ := at_T63 HR0.1 x5_1 p307 q307
   cases e307
   replace p307 := eq_true p307
   replace q307 := eq_true q307
   go_wp2
   go_ret
   exact ⟨RG, DR⟩
 obtain rfl := Option.some.inj H
 go_wp2
 go_ret
 exact ⟨RG, DR⟩
/-! ### laws_heldDiagram: function 26 -/
open Kd
def laws_heldDiagram.f (k : Nat) (a0_0 : Int) (l0_1 : List (S63)) (a0_2 : Int) (a1 : Int) : Option (Int) := (laws_heldNodeS.f k l0_1 a1).bind fun t311 => (if t311 < 0 then (some (-1)) else (some t311))
theorem laws_heldDiagram.mono : ∀ a0 a1 a2 a3 k, LeO (laws_heldDiagram.f k a0 a1 a2 a3) (laws_heldDiagram.f (k + 1) a0 a1 a2 a3) := by
 intro a0 a1 a2 a3 k
 unfold laws_heldDiagram.f
 repeat' first
  | (with_reducible exact laws_heldNodeS.mono _ _ _)
  | (with_reducible exact LeO.refl _)
  | (with_reducible exact LeO.none _)
  | (with_reducible refine LeO.ite ?_ ?_)
  | (with_reducible refine LeO.bind ?_ (fun _ => ?_))
  | exact laws_heldNodeS.mono _ _ _
  | exact LeO.none _
  | refine LeO.ite ?_ ?_
  | refine LeO.bind ?_ (fun _ => ?_)
theorem laws_heldDiagram.calls (k : Nat) (a0_0 : Int) (A0_1 : Option Addr) (c0_1 : Nat) (l0_1 : List (S63)) (a0_2 : Int) (a1 : Int) (r : Int) (w : World) (hr0_1 : Kd.C k63 w A0_1 l0_1.length l0_1) (hc0_1 : l0_1.length <= c0_1) (h : laws_heldDiagram.f k a0_0 l0_1 a0_2 a1 = some r) :
 Calls Try.prog 26 #[.agg #[.int .i64 a0_0, .slice A0_1 l0_1.length c0_1, .int .i64 a0_2], .int .i64 a1] w fun e w' => e = .returned (.int .i64 r) /\ Below w.heap.size w w' := by
 have hu29 := Try.underlying29
 have HR0_1 := Aside0.mk hr0_1
 have HC0_1 := Aside0.mk hc0_1
 clear hr0_1 hc0_1
 have HB := Aside0.mk (Below.refl w.heap.size w)
 have H := h
 clear h
 unfold laws_heldDiagram.f at H
 replace H := bindA H; obtain ⟨t311, A3, H⟩ := H
 replace H := ifB H; rcases H with ⟨c4b0, H⟩ | ⟨c4b0, H⟩
 · obtain rfl := Option.some.inj H
   go_enter Try.func26, Try.ntmps26
   go_wp2_with (first | ((with_reducible refine gate_dst (N := 2) rfl ?_); refine boxE (cs := #[.int .i64 a0_0, .slice A0_1 l0_1.length c0_1, .int .i64 a0_2]) (t := 29) ?_; intro gb310 hg w5 hbox hb; refine E4b HB.1 hg hbox hb ?_; clear HB; intro HB BK310 GW310 GE310; clear hb hbox hg; obtain ⟨hcz6_0, hcz6_1, hcz6_2, hfz6_0, hfz6_1, hfz6_2⟩ := cz3 BK310.1) | ((with_reducible refine gate_callee (f := 56) rfl ?_); refine goesM (N := (some 8)) #[.slice A0_1 l0_1.length c0_1, .int .i64 a1] Try.func56 ?_; (with_reducible refine (laws_heldNodeS.calls k _ _ l0_1 a1 t311 _ ?side1 ?side2 A3.1).mono ?_); (case side1 => exact CB (C_below HR0_1.1 HB.1)); (case side2 => exact HC0_1.1); rintro e w' ⟨rfl, ⟨nd, rfl⟩⟩; refine ⟨_, rfl, ?_⟩))
   go_ret
   exact ⟨RF, BL HB.1⟩
 obtain rfl := Option.some.inj H
 go_enter Try.func26, Try.ntmps26
 go_wp2_with (first | ((with_reducible refine gate_dst (N := 2) rfl ?_); refine boxE (cs := #[.int .i64 a0_0, .slice A0_1 l0_1.length c0_1, .int .i64 a0_2]) (t := 29) ?_; intro gb310 hg w7 hbox hb; refine E4b HB.1 hg hbox hb ?_; clear HB; intro HB BK310 GW310 GE310; clear hb hbox hg; obtain ⟨hcz8_0, hcz8_1, hcz8_2, hfz8_0, hfz8_1, hfz8_2⟩ := cz3 BK310.1) | ((with_reducible refine gate_callee (f := 56) rfl ?_); refine goesM (N := (some 8)) #[.slice A0_1 l0_1.length c0_1, .int .i64 a1] Try.func56 ?_; (with_reducible refine (laws_heldNodeS.calls k _ _ l0_1 a1 t311 _ ?side1 ?side2 A3.1).mono ?_); (case side1 => exact CB (C_below HR0_1.1 HB.1)); (case side2 => exact HC0_1.1); rintro e w' ⟨rfl, ⟨nd, rfl⟩⟩; refine ⟨_, rfl, ?_⟩))
 go_ret
 exact ⟨RF, BL HB.1⟩
end Go.Proofs.Ytdkfgomjfigmbaa.P
