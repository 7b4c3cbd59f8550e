-- PRINTED by print.py (a twelfth state) out of the translation. Not trusted: Lean checks it.
import Derived.Test.YtdkfgomjfigmbaaPx0
import Derived.Test.YtdkfgomjfigmbaaPx2
namespace Go.Proofs.Ytdkfgomjfigmbaa.P
open Go.RowKit Go.Proofs.YtdkfgomjfigmbaaW.PrintWords Go.Proofs.YtdkfgomjfigmbaaW.PrintLast Go.Proofs.YtdkfgomjfigmbaaW.PrintMore
attribute [local go_sem] max2_int min2_int max_two min_two max_three min_three max_four min_four   -- for this text's walks alone
set_option linter.unusedVariables false
set_option linter.unusedSimpArgs false

/-! ### spec_l1All: function 64 -/
open Kd
def spec_l1All.l0 : Nat -> Int -> Int -> List Int -> Int -> Int -> Option (Bool)
 | 0, _, _, _, _, _ => none
 | k + 1, x1, x2, x9, x10, x11 => if x11 < x10 then (if 0 <= x11 then (if x11 < (x9.length : Int) then ((spec_l1In.f (rd x9 x11) x1 x2).bind fun t258 => (if t258 = true then (spec_l1All.l0 k x1 x2 x9 x10 (wrap64 (x11 + 1))) else (some false))) else (none)) else (none)) else (some true)
def spec_l1All.f (k : Nat) (l0 : List Int) (a1 : Int) (a2 : Int) : Option (Bool) := spec_l1All.l0 k a1 a2 l0 (l0.length : Int) 0
theorem spec_l1All.mono_l : ∀ k, (∀ y0 y1 y2 y3 y4, LeO (spec_l1All.l0 k y0 y1 y2 y3 y4) (spec_l1All.l0 (k + 1) y0 y1 y2 y3 y4))
 | 0 => fun _ _ _ _ _ r h => by simp [spec_l1All.l0] at h
 | k + 1 => by
  have ih0 := spec_l1All.mono_l k
  intros
  first | unfold spec_l1All.l0
  repeat' first | (with_reducible first | apply ih0 | exact LeO.refl _ | exact LeO.none _ | refine LeO.ite ?_ ?_ | refine LeO.bind ?_ (fun _ => ?_)) | exact LeO.none _ | refine LeO.ite ?_ ?_ | refine LeO.bind ?_ (fun _ => ?_)
theorem spec_l1All.mono : ∀ a0 a1 a2 k, LeO (spec_l1All.f k a0 a1 a2) (spec_l1All.f (k + 1) a0 a1 a2) := by
 intro a0 a1 a2 k
 have ih0 := spec_l1All.mono_l k
 unfold spec_l1All.f
 repeat' first | (with_reducible first | apply ih0 | exact LeO.refl _ | exact LeO.none _ | refine LeO.ite ?_ ?_ | refine LeO.bind ?_ (fun _ => ?_)) | exact LeO.none _ | refine LeO.ite ?_ ?_ | refine LeO.bind ?_ (fun _ => ?_)
set_option maxHeartbeats 8000000 in
set_option maxRecDepth 100000 in
theorem spec_l1All.calls (k : Nat) (A0 : Option Addr) (c0 : Nat) (l0 : List Int) (a1 : Int) (a2 : Int) (r : Bool) (w : World) (hr0 : Kd.C (Kd.int .i64) w A0 l0.length l0) (hc0 : l0.length <= c0) (h : spec_l1All.f k l0 a1 a2 = some r) :
 Calls Try.prog 64 #[.slice A0 l0.length c0, .int .i64 a1, .int .i64 a2] w fun e w' => e = .returned (.bool r) /\ Drawn0 w w' := by
 have HR0 := Aside0.mk hr0
 have HC0 := Aside0.mk hc0
 clear hr0 hc0
 have H := h
 clear h
 unfold spec_l1All.f at H
 have H' := Aside0.mk H
 clear H
 go_enter Try.func64, Try.ntmps64
 go_wp2
 go_loopg [11] k (fun kq v11 w' => ∃ (x11_1 : Int), v11 = .int .i64 x11_1 /\ Aside0 (spec_l1All.l0 kq a1 a2 l0 (l0.length : Int) x11_1 = some r) /\ Aside0 (kq <= k) /\ Drawn0 w w')
 case atStart => exact ⟨(0), RG, H', ⟨Nat.le_refl _⟩, DR⟩
 clear H'
 obtain ⟨x11_1, rfl, HA, HK1, ⟨m1, rfl⟩⟩ := hrel
 cases gk with
 | zero => exact absurd HA.1 (by simp [spec_l1All.l0])
 | succ k1 => ?_
 have H := HA.1
 clear HA
 simp only [spec_l1All.l0] at H
 replace H := ifB H; rcases H with ⟨c4b0, H⟩ | ⟨c4b0, H⟩
 · replace H := ifN H; obtain ⟨c5b0, H⟩ := H
   replace H := ifN H; obtain ⟨c6b0, H⟩ := H
   replace H := bindA H; obtain ⟨t258, A7, H⟩ := H
   replace H := ifX H; rcases H with ⟨rfl, H⟩ | ⟨rfl, H⟩
   · have H' := Aside0.mk H
     clear H
     have p257 : 0 <= (x11_1 : Int) := OD
     have q257 : x11_1 < (l0.length : Int) := OD
     obtain ⟨ad257, e257, hx257_0⟩ := Kd.at_int HR0.1 x11_1 p257 q257
     cases e257
     replace p257 := eq_true p257
     replace q257 := eq_true q257
     go_wp2_with (first | ((with_reducible refine gate_callee (f := 73) rfl ?_); refine goesM (N := (some 18)) #[.int .i64 (rd l0 x11_1), .int .i64 a1, .int .i64 a2] Try.func73 ?_; (with_reducible refine (spec_l1In.calls (rd l0 x11_1) a1 a2 true _ A7.1).mono ?_); rintro e w' ⟨rfl, ⟨nd, rfl⟩⟩; refine ⟨_, rfl, ?_⟩))
     go_roundg k1
     case measure => have := HK1.1; omega
     case rel => exact ⟨(wrap64 (x11_1 + 1)), RG, H', ⟨by have := HK1.1; omega⟩, DR⟩
   obtain rfl := Option.some.inj H
   have p257 : 0 <= (x11_1 : Int) := OD
   have q257 : x11_1 < (l0.length : Int) := OD
   obtain ⟨ad257, e257, hx257_0⟩ := Kd.at_int HR0.1 x11_1 p257 q257
   cases e257
   replace p257 := eq_true p257
   replace q257 := eq_true q257
   go_wp2_with (first | ((with_reducible refine gate_callee (f := 73) rfl ?_); refine goesM (N := (some 18)) #[.int .i64 (rd l0 x11_1), .int .i64 a1, .int .i64 a2] Try.func73 ?_; (with_reducible refine (spec_l1In.calls (rd l0 x11_1) a1 a2 false _ A7.1).mono ?_); rintro e w' ⟨rfl, ⟨nd, rfl⟩⟩; refine ⟨_, rfl, ?_⟩))
   go_ret
   exact ⟨RG, DR⟩
 obtain rfl := Option.some.inj H
 go_wp2
 go_ret
 exact ⟨RG, DR⟩
/-! ### impl_areBits: function 67 -/
open Kd
def impl_areBits.l0 : Nat -> List Int -> Int -> Int -> Option (Bool)
 | 0, _, _, _ => none
 | k + 1, x5, x6, x7 => if x7 < x6 then (if 0 <= x7 then (if x7 < (x5.length : Int) then (if (rd x5 x7) = 0 then (impl_areBits.l0 k x5 x6 (wrap64 (x7 + 1))) else (if (rd x5 x7) = 1 then (impl_areBits.l0 k x5 x6 (wrap64 (x7 + 1))) else (some false))) else (none)) else (none)) else (some true)
def impl_areBits.f (k : Nat) (l0 : List Int) : Option (Bool) := impl_areBits.l0 k l0 (l0.length : Int) 0
theorem impl_areBits.mono_l : ∀ k, (∀ y0 y1 y2, LeO (impl_areBits.l0 k y0 y1 y2) (impl_areBits.l0 (k + 1) y0 y1 y2))
 | 0 => fun _ _ _ r h => by simp [impl_areBits.l0] at h
 | k + 1 => by
  have ih0 := impl_areBits.mono_l k
  intros
  first | unfold impl_areBits.l0
  repeat' first | (with_reducible first | apply ih0 | exact LeO.refl _ | exact LeO.none _ | refine LeO.ite ?_ ?_ | refine LeO.bind ?_ (fun _ => ?_)) | exact LeO.none _ | refine LeO.ite ?_ ?_ | refine LeO.bind ?_ (fun _ => ?_)
theorem impl_areBits.mono : ∀ a0 k, LeO (impl_areBits.f k a0) (impl_areBits.f (k + 1) a0) := by
 intro a0 k
 have ih0 := impl_areBits.mono_l k
 unfold impl_areBits.f
 repeat' first | (with_reducible first | apply ih0 | exact LeO.refl _ | exact LeO.none _ | refine LeO.ite ?_ ?_ | refine LeO.bind ?_ (fun _ => ?_)) | exact LeO.none _ | refine LeO.ite ?_ ?_ | refine LeO.bind ?_ (fun _ => ?_)
set_option maxHeartbeats 8000000 in
set_option maxRecDepth 100000 in
theorem impl_areBits.calls (k : Nat) (A0 : Option Addr) (c0 : Nat) (l0 : List Int) (r : Bool) (w : World) (hr0 : Kd.C (Kd.int .i64) w A0 l0.length l0) (hc0 : l0.length <= c0) (h : impl_areBits.f k l0 = some r) :
 Calls Try.prog 67 #[.slice A0 l0.length c0] w fun e w' => e = .returned (.bool r) /\ Drawn0 w w' := by
 have HR0 := Aside0.mk hr0
 have HC0 := Aside0.mk hc0
 clear hr0 hc0
 have H := h
 clear h
 unfold impl_areBits.f at H
 have H' := Aside0.mk H
 clear H
 go_enter Try.func67, Try.ntmps67
 go_wp2
 go_loopg [7] k (fun kq v7 w' => ∃ (x7_1 : Int), v7 = .int .i64 x7_1 /\ Aside0 (impl_areBits.l0 kq l0 (l0.length : Int) x7_1 = some r) /\ Aside0 (kq <= k) /\ Drawn0 w w')
 case atStart => exact ⟨(0), RG, H', ⟨Nat.le_refl _⟩, DR⟩
 clear H'
 obtain ⟨x7_1, rfl, HA, HK1, ⟨m1, rfl⟩⟩ := hrel
 cases gk with
 | zero => exact absurd HA.1 (by simp [impl_areBits.l0])
 | succ k1 => ?_
 have H := HA.1
 clear HA
 simp only [impl_areBits.l0] at H
 replace H := ifB H; rcases H with ⟨c2b0, H⟩ | ⟨c2b0, H⟩
 · replace H := ifN H; obtain ⟨c3b0, H⟩ := H
   replace H := ifN H; obtain ⟨c4b0, H⟩ := H
   replace H := ifQ H; rcases H with ⟨c5, H⟩ | ⟨c5, H⟩
   · have c5b0 := beq_iff_eq.mpr c5
     have c5b1 := bne_eq_false_iff_eq.mpr c5
     clear c5
     have H' := Aside0.mk H
     clear H
     have p281 : 0 <= (x7_1 : Int) := OD
     have q281 : x7_1 < (l0.length : Int) := OD
     obtain ⟨ad281, e281, hx281_0⟩ := Kd.at_int HR0.1 x7_1 p281 q281
     cases e281
     replace p281 := eq_true p281
     replace q281 := eq_true q281
     go_wp2
     go_roundg k1
     case measure => have := HK1.1; omega
     case rel => exact ⟨(wrap64 (x7_1 + 1)), RG, H', ⟨by have := HK1.1; omega⟩, DR⟩
   have c5b0 := beq_eq_false_iff_ne.mpr c5
   have c5b1 := bne_iff_ne.mpr c5
   replace H := ifQ H; rcases H with ⟨c6, H⟩ | ⟨c6, H⟩
   · have c6b0 := beq_iff_eq.mpr c6
     have c6b1 := bne_eq_false_iff_eq.mpr c6
     clear c6
     have H' := Aside0.mk H
     clear H
     have p281 : 0 <= (x7_1 : Int) := OD
     have q281 : x7_1 < (l0.length : Int) := OD
     obtain ⟨ad281, e281, hx281_0⟩ := Kd.at_int HR0.1 x7_1 p281 q281
     cases e281
     replace p281 := eq_true p281
     replace q281 := eq_true q281
     go_wp2
     go_roundg k1
     case measure => have := HK1.1; omega
     case rel => exact ⟨(wrap64 (x7_1 + 1)), RG, H', ⟨by have := HK1.1; omega⟩, DR⟩
   have c6b0 := beq_eq_false_iff_ne.mpr c6
   have c6b1 := bne_iff_ne.mpr c6
   obtain rfl := Option.some.inj H
   have p281 : 0 <= (x7_1 : Int) := OD
   have q281 : x7_1 < (l0.length : Int) := OD
   obtain ⟨ad281, e281, hx281_0⟩ := Kd.at_int HR0.1 x7_1 p281 q281
   cases e281
   replace p281 := eq_true p281
   replace q281 := eq_true q281
   go_wp2
   go_ret
   exact ⟨RG, DR⟩
 obtain rfl := Option.some.inj H
 go_wp2
 go_ret
 exact ⟨RG, DR⟩
end Go.Proofs.Ytdkfgomjfigmbaa.P
