-- PRINTED by print.py (a twelfth state) out of the translation. Not trusted: Lean checks it.
import Derived.Test.YtdkfgomjfigmbaaPx0
namespace Go.Proofs.Ytdkfgomjfigmbaa.P
open Go.RowKit Go.Proofs.YtdkfgomjfigmbaaW.PrintWords Go.Proofs.YtdkfgomjfigmbaaW.PrintLast Go.Proofs.YtdkfgomjfigmbaaW.PrintMore
attribute [local go_sem] max2_int min2_int max_two min_two max_three min_three max_four min_four   -- for this text's walks alone
set_option linter.unusedVariables false
set_option linter.unusedSimpArgs false

/-! ### laws_toIntS: function 35 -/
open Kd
def laws_toIntS.l0 : Nat -> List Int -> List Int -> Int -> Option (List Int)
 | 0, _, _, _ => none
 | k + 1, x0, x3, x4 => if x4 < (x0.length : Int) then (if 0 <= x4 then (if x4 < (x3.length : Int) then (laws_toIntS.l0 k x0 (x3.set (x4 : Int).toNat (rd x0 x4)) (wrap64 (x4 + 1))) else (none)) else (none)) else (some x3)
def laws_toIntS.f (k : Nat) (l0 : List Int) : Option (List Int) := if 0 <= (l0.length : Int) then (if ((l0.length : Int) : Int).toNat <= 35184372088832 then (laws_toIntS.l0 k l0 (List.replicate ((l0.length : Int) : Int).toNat 0) 0) else (none)) else (none)
theorem laws_toIntS.mono_l : ∀ k, (∀ y0 y1 y2, LeO (laws_toIntS.l0 k y0 y1 y2) (laws_toIntS.l0 (k + 1) y0 y1 y2))
 | 0 => fun _ _ _ r h => by simp [laws_toIntS.l0] at h
 | k + 1 => by
  have ih0 := laws_toIntS.mono_l k
  intros
  first | unfold laws_toIntS.l0
  exact LM1 ih0
theorem laws_toIntS.mono : ∀ a0 k, LeO (laws_toIntS.f k a0) (laws_toIntS.f (k + 1) a0) := by
 intro a0 k
 have ih0 := laws_toIntS.mono_l k
 unfold laws_toIntS.f
 exact LM1 ih0
set_option maxHeartbeats 8000000 in
set_option maxRecDepth 100000 in
theorem laws_toIntS.calls (k : Nat) (A0 : Option Addr) (c0 : Nat) (l0 : List Int) (r : List Int) (w : World) (hr0 : Kd.C (Kd.int .i64) w A0 l0.length l0) (hc0 : l0.length <= c0) (h : laws_toIntS.f k l0 = some r) :
 Calls Try.prog 35 #[.slice A0 l0.length c0] w fun e w' => ∃ v0_ : Value, e = .returned (v0_) /\ Kd.R (Kd.int .i64) 3 w' w.heap.size (fun _ => True) v0_ r /\ Below w.heap.size w w' := by
 have HR0 := Aside0.mk hr0
 have HC0 := Aside0.mk hc0
 clear hr0 hc0
 have HB := Aside0.mk (Below.refl w.heap.size w)
 have H := h
 clear h
 unfold laws_toIntS.f at H
 replace H := ifP H; obtain ⟨c2, H⟩ := H
 have c2b0 := eq_true c2
 have c2b1 := decide_eq_true c2
 clear c2
 replace H := ifP H; obtain ⟨c3, H⟩ := H
 have c3b0 := eq_true c3
 have c3b1 := decide_eq_true c3
 clear c3
 generalize hy270 : ((List.replicate ((l0.length : Int) : Int).toNat 0) : List Int) = y270 at H
 have Ny270 := Aside0.mk hy270.symm; clear hy270
 have H' := Aside0.mk H
 clear H
 go_enter Try.func35, Try.ntmps35
 go_wp2_with (first | ((with_reducible refine gate_dst (N := 7) rfl ?_); refine R_make (Kd.int .i64) _ 3 rfl (N := 7) rfl 35 _ _ rfl (l0.length : Int) rfl rfl Try.underlying35 (.int .i64 0) 8 info3 rfl (by decide) (by omega) 0 (ok := fun _ => True) (okp := fun _ => True) rfl (fun _ hk => hk) trivial (OD) (Nat.le_trans (Nat.mul_le_mul_right _ (OD : (l0.length : Int).toNat <= 35184372088832)) (by omega)) (Below.refl _ _) (Nat.le_refl _) ?_; intro v271 w4 ho5 hb hg_ hnew_; clear hg_ hnew_; (first | rw [<- Ny270.1] at ho5 | (simp only [Int.reduceToNat] at ho5; rw [<- Ny270.1] at ho5)); refine E2 (R_lower ho5 (bZ HB.1)) (bS HB.1 hb) ?_; clear HB; intro HO272 HB; clear hb ho5))
 go_loopg [4] k (fun kq v4 w' => ∃ (x3_1 : List Int) (x4_1 : Int), v4 = .int .i64 x4_1 /\ Aside0 (laws_toIntS.l0 kq l0 x3_1 x4_1 = some r) /\ Aside0 (kq <= k) /\ Aside0 (Kd.R (Kd.int .i64) 3 w' w.heap.size (fun _ => True) v271 x3_1) /\ Aside0 (Below w.heap.size w w'))
 case atStart => exact ⟨(y270), (0), RG, H', ⟨Nat.le_refl _⟩, ⟨PR HO272.1⟩, ⟨BL HB.1⟩⟩
 clear H'
 clear c2b0 c2b1 c3b0 c3b1
 obtain ⟨x3_1, x4_1, rfl, HA, HK1, HO_3, HB⟩ := hrel
 cases gk with
 | zero => exact absurd HA.1 (by simp [laws_toIntS.l0])
 | succ k1 => ?_
 have H := HA.1
 clear HA
 simp only [laws_toIntS.l0] at H
 replace H := ifB H; rcases H with ⟨c6b0, H⟩ | ⟨c6b0, H⟩
 · replace H := ifN H; obtain ⟨c7b0, H⟩ := H
   replace H := ifN H; obtain ⟨c8b0, H⟩ := H
   generalize hy274 : ((x3_1.set (x4_1 : Int).toNat (rd l0 x4_1)) : List Int) = y274 at H
   have Ny274 := Aside0.mk hy274.symm; clear hy274
   have H' := Aside0.mk H
   clear H
   have p273 : 0 <= (x4_1 : Int) := OD
   have q273 : x4_1 < (l0.length : Int) := OD
   obtain ⟨ad273, e273, hx273_0⟩ := Kd.at_int HR0.1 x4_1 p273 q273
   cases e273
   replace hx273_0 := (HB.1.cell (World.block_lt_of_cell? w _ hx273_0)).trans hx273_0
   replace p273 := eq_true p273
   replace q273 := eq_true q273
   have p9 : 0 <= (x4_1 : Int) := OD
   have q9 : (x4_1 : Int) < ((x3_1.length : Int) : Int) := OD
   obtain ⟨go9, co9, eo9, gb9, gl9, cl9, HG9⟩ := R_form HO_3.1 (by omega)
   (first | cases eo9 | (injection eo9 with ea_ en_ ec_; (first | subst ea_ | (injection ea_ with ea_; subst ea_)); subst ec_; clear en_))
   have GB9 := Aside0.mk gb9
   have GG9 := Aside0.mk HG9
   clear gb9 gl9 HG9
   obtain ⟨hx9_0, hf9_0⟩ := R_celln 0 HO_3.1 (x4_1 : Int) p9 q9
   replace p9 := eq_true p9
   replace q9 := eq_true q9
   have HP10 := R_putg HO_3.1 (x4_1 : Int) (rd l0 x4_1)
   go_wp2_with (first | ((with_reducible refine gate_store (t := 3) (p := 20) rfl ?_); refine storeE (t := 3) (p := 20) (w1 := (wr.setCell ⟨go9, (x4_1 : Int).toNat, none⟩ (.int .i64 (rd l0 x4_1)))) ?_; intro w11 hw; have hg : wr.grownBy w11 (some go9) := (by rw [hw]; exact HP10.2); have hp_ : Kd.R (Kd.int .i64) 3 w11 w.heap.size (fun _ => True) (.slice (some ⟨go9, 0, none⟩) x3_1.length co9) y274 := (by rw [hw, Ny274.1]; exact HP10.1); clear HP10; refine E2 (hp_) ((by rw [hw]; exact below_set (HB.1) GB9.1 : Below w.heap.size w w11)) ?_; clear HO_3 HB; intro HO_3 HB; clear hg hw hp_))
   go_roundg k1
   case measure => have := HK1.1; omega
   case rel => exact ⟨(y274), (wrap64 (x4_1 + 1)), RG, H', ⟨by have := HK1.1; omega⟩, ⟨PR HO_3.1⟩, ⟨BL HB.1⟩⟩
 obtain rfl := Option.some.inj H
 go_wp2
 go_ret
 exact ⟨_, RF, RPE (HO_3.1), BL HB.1⟩
end Go.Proofs.Ytdkfgomjfigmbaa.P
