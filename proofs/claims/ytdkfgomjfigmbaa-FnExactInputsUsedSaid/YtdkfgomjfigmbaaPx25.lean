-- PRINTED by print.py (a twelfth state) out of the translation. Not trusted: Lean checks it.
import Derived.Test.YtdkfgomjfigmbaaPx0
import Derived.Test.YtdkfgomjfigmbaaPx4
import Derived.Test.YtdkfgomjfigmbaaPx5
import Derived.Test.YtdkfgomjfigmbaaPx6
import Derived.Test.YtdkfgomjfigmbaaPx7
import Derived.Test.YtdkfgomjfigmbaaPx9
import Derived.Test.YtdkfgomjfigmbaaPx10
import Derived.Test.YtdkfgomjfigmbaaPx16
namespace Go.Proofs.Ytdkfgomjfigmbaa.P
open Go.RowKit Go.Proofs.YtdkfgomjfigmbaaW.PrintWords Go.Proofs.YtdkfgomjfigmbaaW.PrintLast Go.Proofs.YtdkfgomjfigmbaaW.PrintMore
attribute [local go_sem] max2_int min2_int max_two min_two max_three min_three max_four min_four   -- for this text's walks alone
set_option linter.unusedVariables false
set_option linter.unusedSimpArgs false
set_option maxHeartbeats 8000000
set_option maxRecDepth 100000

/-! ### spec_l1Put: function 69 -/
open Kd
def spec_l1Put.l0 : Nat -> List Int -> Int -> Int -> Option (List Int)
 | 0, _, _, _ => none
 | k + 1, x0, x1, x5 => if x5 < (x0.length : Int) then (if 0 <= x5 then (if (rd x0 x5) < x1 then (spec_l1Put.l0 k x0 x1 (wrap64 (x5 + 1))) else (if (rd x0 x5) = x1 then (some x0) else ((some (([] : List Int) : List Int)).bind fun y548 => (if x5 <= (x0.length : Int) then ((some (x0.take (x5 : Int).toNat : List Int)).bind fun y551 => (if y548.length + y551.length < 17592186044416 then ((some (y548 ++ y551 : List Int)).bind fun y555 => (if y555.length < 17592186044416 then ((some (y555 ++ [x1] : List Int)).bind fun y558 => ((some (x0.drop (x5 : Int).toNat : List Int)).bind fun y561 => (if y558.length + y561.length < 17592186044416 then (some (y558 ++ y561)) else (none)))) else (none))) else (none))) else (none))))) else (none)) else ((some (([] : List Int) : List Int)).bind fun y568 => (if 0 <= x5 then (if x5 <= (x0.length : Int) then ((some (x0.take (x5 : Int).toNat : List Int)).bind fun y571 => (if y568.length + y571.length < 17592186044416 then ((some (y568 ++ y571 : List Int)).bind fun y575 => (if y575.length < 17592186044416 then ((some (y575 ++ [x1] : List Int)).bind fun y578 => ((some (x0.drop (x5 : Int).toNat : List Int)).bind fun y581 => (if y578.length + y581.length < 17592186044416 then (some (y578 ++ y581)) else (none)))) else (none))) else (none))) else (none)) else (none)))
def spec_l1Put.f (k : Nat) (l0 : List Int) (a1 : Int) : Option (List Int) := spec_l1Put.l0 k l0 a1 0
theorem spec_l1Put.mono_l : ∀ k, (∀ y0 y1 y2, LeO (spec_l1Put.l0 k y0 y1 y2) (spec_l1Put.l0 (k + 1) y0 y1 y2))
 | 0 => fun _ _ _ r h => by simp [spec_l1Put.l0] at h
 | k + 1 => by
  have ih0 := spec_l1Put.mono_l k
  intros
  first | unfold spec_l1Put.l0
  exact LM1 ih0
theorem spec_l1Put.mono : ∀ a0 a1 k, LeO (spec_l1Put.f k a0 a1) (spec_l1Put.f (k + 1) a0 a1) := by
 intro a0 a1 k
 have ih0 := spec_l1Put.mono_l k
 unfold spec_l1Put.f
 exact LM1 ih0
theorem spec_l1Put.calls (k : Nat) (P0_ : Nat -> Prop) (u9000_ : Value) (l0 : List Int) (a1 : Int) (r : List Int) (w0 w : World) (hB : Below w0.heap.size w0 w) (ho0 : Kd.R (Kd.int .i64) 3 w w0.heap.size P0_ u9000_ l0) (h : spec_l1Put.f k l0 a1 = some r) :
 Calls Try.prog 69 #[u9000_, .int .i64 a1] w fun e w' => ∃ v0_ : Value, e = .returned (v0_) /\ Kd.R (Kd.int .i64) 3 w' w0.heap.size (fun k_ => (P0_ k_ ∨ w.heap.size <= k_)) v0_ r /\ Below w0.heap.size w0 w' /\ Kept w w' (fun k_ => P0_ k_) := by
 have HO0 := Aside0.mk (show Kd.R (Kd.int .i64) 3 w w0.heap.size (fun k_ => (P0_ k_ ∨ w.heap.size <= k_)) u9000_ l0 from R_mono ho0 (fun k_ hk => (.inl hk)))
 have HK := Aside0.mk (Kept.refl w (fun k_ => P0_ k_))
 have HW0 := Aside0.mk hB.size
 have HB := Aside0.mk hB
 clear hB
 have H := h
 clear h
 unfold spec_l1Put.f at H
 have H' := Aside0.mk H
 clear H
 go_enter Try.func69, Try.ntmps69
 go_wp2
 go_loopg [5] k (fun kq v5 w' => ∃ (x5_1 : Int), v5 = .int .i64 x5_1 /\ Aside0 (spec_l1Put.l0 kq l0 a1 x5_1 = some r) /\ Aside0 (kq <= k) /\ Aside0 (Kd.R (Kd.int .i64) 3 w' w0.heap.size (fun k_ => (P0_ k_ ∨ w.heap.size <= k_)) u9000_ l0) /\ Aside0 (Kept w w' (fun k_ => P0_ k_)) /\ Aside0 (Below w0.heap.size w0 w'))
 case atStart => exact ⟨(0), RG, H', ⟨Nat.le_refl _⟩, ⟨PR HO0.1⟩, ⟨KL HK.1⟩, ⟨BL HB.1⟩⟩
 clear H'
 obtain ⟨x5_1, rfl, HA, HK1, HO_0, HK, HB⟩ := hrel
 cases gk with
 | zero => exact absurd HA.1 (by simp [spec_l1Put.l0])
 | succ k1 => ?_
 have H := HA.1
 clear HA
 simp only [spec_l1Put.l0] at H
 replace H := ifB H; rcases H with ⟨c3b0, H⟩ | ⟨c3b0, H⟩
 · replace H := ifN H; obtain ⟨c4b0, H⟩ := H
   replace H := ifB H; rcases H with ⟨c5b0, H⟩ | ⟨c5b0, H⟩
   · have H' := Aside0.mk H
     clear H
     obtain ⟨Ao6, co6, eo6⟩ := R_slice HO_0.1
     subst eo6
     have p546 : 0 <= (x5_1 : Int) := OD
     have q546 : x5_1 < (l0.length : Int) := OD
     obtain ⟨ad546, e546, hx546_0⟩ := Kd.at_int (R_reads' HO_0.1).2.2 x5_1 p546 q546
     cases e546
     replace p546 := eq_true p546
     replace q546 := eq_true q546
     go_wp2
     go_roundg k1
     case measure => have := HK1.1; omega
     case rel => exact ⟨(wrap64 (x5_1 + 1)), RG, H', ⟨by have := HK1.1; omega⟩, ⟨PR HO_0.1⟩, ⟨KL HK.1⟩, ⟨BL HB.1⟩⟩
   replace H := ifQ H; rcases H with ⟨c7, H⟩ | ⟨c7, H⟩
   · have c7b0 := beq_iff_eq.mpr c7
     have c7b1 := bne_eq_false_iff_eq.mpr c7
     clear c7
     obtain rfl := Option.some.inj H
     obtain ⟨Ao8, co8, eo8⟩ := R_slice HO_0.1
     subst eo8
     have p546 : 0 <= (x5_1 : Int) := OD
     have q546 : x5_1 < (l0.length : Int) := OD
     obtain ⟨ad546, e546, hx546_0⟩ := Kd.at_int (R_reads' HO_0.1).2.2 x5_1 p546 q546
     cases e546
     replace p546 := eq_true p546
     replace q546 := eq_true q546
     have p547 : 0 <= (x5_1 : Int) := OD
     have q547 : x5_1 < (l0.length : Int) := OD
     obtain ⟨ad547, e547, hx547_0⟩ := Kd.at_int (R_reads' HO_0.1).2.2 x5_1 p547 q547
     obtain rfl : ad546 = ad547 := (by injection e547)
     replace p547 := eq_true p547
     replace q547 := eq_true q547
     go_wp2
     go_ret
     exact ⟨_, RF, RPE (HO_0.1), BL HB.1, KL HK.1⟩
   have c7b0 := beq_eq_false_iff_ne.mpr c7
   have c7b1 := bne_iff_ne.mpr c7
   replace H := nameB H; obtain ⟨y548, Ny548, H⟩ := H
   have c9b0 := eq_true (OD : 0 <= x5_1)
   replace H := ifP H; obtain ⟨c10, H⟩ := H
   have c10b0 := eq_true c10
   have c10b1 := decide_eq_true c10
   clear c10
   replace H := nameB H; obtain ⟨y551, Ny551, H⟩ := H
   replace H := ifP H; obtain ⟨c11, H⟩ := H
   have LMc11 := Aside0.mk c11
   clear c11
   replace H := nameB H; obtain ⟨y555, Ny555, H⟩ := H
   replace H := ifP H; obtain ⟨c12, H⟩ := H
   have LMc12 := Aside0.mk c12
   clear c12
   replace H := nameB H; obtain ⟨y558, Ny558, H⟩ := H
   have c13b0 := eq_true (OD : 0 <= x5_1)
   have c14b0 := eq_true (OD : x5_1 <= (l0.length : Int))
   replace H := nameB H; obtain ⟨y561, Ny561, H⟩ := H
   replace H := ifP H; obtain ⟨c15, H⟩ := H
   have LMc15 := Aside0.mk c15
   clear c15
   generalize hy565 : ((y558 ++ y561) : List Int) = y565 at H
   have Ny565 := Aside0.mk hy565.symm; clear hy565
   obtain rfl := Option.some.inj H
   obtain ⟨Ao16, co16, eo16⟩ := R_slice HO_0.1
   subst eo16
   have p546 : 0 <= (x5_1 : Int) := OD
   have q546 : x5_1 < (l0.length : Int) := OD
   obtain ⟨ad546, e546, hx546_0⟩ := Kd.at_int (R_reads' HO_0.1).2.2 x5_1 p546 q546
   cases e546
   replace p546 := eq_true p546
   replace q546 := eq_true q546
   have p547 : 0 <= (x5_1 : Int) := OD
   have q547 : x5_1 < (l0.length : Int) := OD
   obtain ⟨ad547, e547, hx547_0⟩ := Kd.at_int (R_reads' HO_0.1).2.2 x5_1 p547 q547
   obtain rfl : ad546 = ad547 := (by injection e547)
   replace p547 := eq_true p547
   replace q547 := eq_true q547
   go_wp2_with (first | ((with_reducible refine gate_dst (N := 34) rfl ?_); refine R_lit (Kd.int .i64) _ 3 ?hg (N := 34) ?hd (xs := ([] : List Int)) (inner := []) (ok := fun _ => True) (okp := fun _ => True) ?hr ?hp (fun _ hk => hk) trivial (Below.refl _ _) (Nat.le_refl _) (by simp) ?_; (case hd => rfl); (case hg => rfl); (case hr => first | (go_simp; done) | (go_simp; rfl)); (case hp => exact (Reps.none _ _)); intro v549 w17 ho18 hb hg_ hnew_; clear hg_ hnew_; (first | rw [<- Ny548.1] at ho18 | (simp only [Int.reduceToNat] at ho18; rw [<- Ny548.1] at ho18)); refine E4 (R_elder' (PR HO_0.1) (R_base ho18) hb) (R_lower (R_new' (R_newM (M := fun k_ => (P0_ k_ ∨ w.heap.size <= k_)) ho18 (by first | exact HK.1.1 | exact (show Kept w _ (fun k_ => P0_ k_) from KL HK.1).1) (fun k_ h_ => .inr h_)) (R_lt (PR HO_0.1))) (bZ HB.1)) (Kept.below (S := (fun k_ => P0_ k_)) (KL HK.1) hb) (bS HB.1 hb) ?_; clear HO_0 HK HB; intro HO_0 HO550 HK HB; clear hb ho18; have q19 : (x5_1 : Int) <= ((l0.length : Int) : Int) := OD; obtain ⟨i019, hi019, _, hsz19, _⟩ := info_parts info3; have hroom19 : l0.length <= co16 := (R_reads' HO_0.1).2.1; have hC19 : Kd.C (Kd.int .i64) _ (some ad546) l0.length l0 := (R_reads' HO_0.1).2.2; have hcut19 := cut_to (P := Try.prog) 35 3 .i64 Try.underlying35 hi019 (some ad546) l0.length co16 x5_1 (OD) q19 hroom19; have hr19 := C_take (m := (x5_1 : Int).toNat) hC19 (by omega); have hy19 : y551.length = (x5_1 : Int).toNat := (by rw [Ny551.1, List.length_take]; omega); rw [<- Ny551.1] at hr19; rw [<- hy19] at hcut19; have HR554 := Aside0.mk hr19; have HC554 := Aside0.mk (show y551.length <= co16 from by omega); clear hr19 hC19 hroom19 hi019 hsz19; have KY19 := Aside0.mk hy19; clear hy19; have KL19 := Aside0.mk (show (x5_1 : Int).toNat <= l0.length from by omega); replace q19 := eq_true q19) | ((with_reducible refine gate_builtin (b := .append) (xs := #[.tmp 34, .tmp 37]) rfl ?_); at_builtin; refine R_append_rows (Kd.int .i64) (w0 := w0) w0.heap.size rfl (.tmp 34) (.tmp 37) 35 3 (.int .i64 0) 8 rfl Try.underlying35 info3 rfl (by decide) (by omega) v549 y548 y551 _ _ _ (fun k_ => (P0_ k_ ∨ w.heap.size <= k_) /\ some k_ ≠ (.slice (some ad546) l0.length co16 : Value).ownBlock) (fun _ => False) rfl rfl ?aO ?aR (fun _ _ h => h) (fun _ h => h.elim) ?aF ?aB ?aS ?aL ?_; (case aR => repeat (first | exact (by repeat (first | (with_reducible exact HR554.1) | (with_reducible refine C_alloc ?_ _) | (with_reducible refine C_drewN ?_ _) | (with_reducible refine C_drew ?_) | exact HR554.1)) | (with_reducible refine C_alloc ?_ _) | (with_reducible refine C_drewN ?_ _) | (with_reducible refine C_drew ?_))); (case aB => exact (BL HB.1)); (case aF => exact (fun k_ hk => ⟨(.inr (Nat.le_trans (by first | exact HK.1.1 | exact (show Kept w _ (fun k_ => P0_ k_) from KL HK.1).1) hk)), Kd.fresh' (R_lt (PR HO_0.1)) k_ hk⟩)); (case aO => exact (RPE (R_mono HO550.1 (fun _ hk => ⟨hk.1.1, hk.2⟩)))); (case aS => exact (bZ HB.1)); (case aL => have := LMc11.1; omega); intro v556 w20 ho hb hg hat; rw [<- Ny555.1] at ho; refine E5 (R_after (ok := (fun k_ => (P0_ k_ ∨ w.heap.size <= k_))) (PR HO_0.1) hg hat) (hb) (Kept.of_grown (S := (fun k_ => P0_ k_)) hg (KL HK.1) (fun k_ e_ => (HO550.1.1 k_ e_).1.1)) ((show Kd.C (Kd.int .i64) w20 (some ad546) y551.length y551 from by rw [Ny551.1]; exact C_take (m := (x5_1 : Int).toNat) ((R_reads' (R_after (ok := (fun k_ => (P0_ k_ ∨ w.heap.size <= k_))) (PR HO_0.1) hg hat)).2.2) KL19.1)) (ho) ?_; clear HO_0 HB HK HR554 HO550; intro HO_0 HB HK HR554 HO557; clear ho hb hg hat) | ((with_reducible refine gate_builtin (b := .append) (xs := #[.tmp 39, .tmp 41]) rfl ?_); at_builtin; refine R_append (Kd.int .i64) (w0 := w0) w0.heap.size rfl (.tmp 39) (.tmp 41) 35 3 (.int .i64 0) 8 rfl Try.underlying35 info3 rfl (by decide) (by omega) v556 y555 a1 [.int .i64 a1] (fun k_ => (P0_ k_ ∨ w.heap.size <= k_) /\ some k_ ≠ (.slice (some ad546) l0.length co16 : Value).ownBlock) (fun _ => False) rfl rfl ?aP (fun _ hk => hk.elim) ?aF ?aO ?aB ?aS ?aL ?_; (case aP => exact rfl); (case aB => exact (BL HB.1)); (case aF => exact (fun k_ hk => ⟨(.inr (Nat.le_trans (by first | exact HK.1.1 | exact (show Kept w _ (fun k_ => P0_ k_) from KL HK.1).1) hk)), Kd.fresh' (R_lt (PR HO_0.1)) k_ hk⟩)); (case aO => exact (PR HO557.1)); (case aS => exact (bZ HB.1)); (case aL => have := LMc12.1; omega); intro v559 w21 ho hb hg hat; rw [<- Ny558.1] at ho; refine E5 (R_after (ok := (fun k_ => (P0_ k_ ∨ w.heap.size <= k_))) (PR HO_0.1) hg hat) (hb) (Kept.of_grown (S := (fun k_ => P0_ k_)) hg (KL HK.1) (fun k_ e_ => (HO557.1.1 k_ e_).1)) ((show Kd.C (Kd.int .i64) w21 (some ad546) y551.length y551 from by rw [Ny551.1]; exact C_take (m := (x5_1 : Int).toNat) ((R_reads' (R_after (ok := (fun k_ => (P0_ k_ ∨ w.heap.size <= k_))) (PR HO_0.1) hg hat)).2.2) KL19.1)) (ho) ?_; clear HO_0 HB HK HR554 HO557; intro HO_0 HB HK HR554 HO560; clear ho hb hg hat; have q22 : (x5_1 : Int) <= ((l0.length : Int) : Int) := OD; obtain ⟨i022, hi022, _, hsz22, _⟩ := info_parts info3; have hroom22 : l0.length <= co16 := (R_reads' HO_0.1).2.1; have hC22 : Kd.C (Kd.int .i64) _ (some ad546) l0.length l0 := (R_reads' HO_0.1).2.2; have q022 : (0 : Int) <= (x5_1 : Int) := OD; have hcut22 := cut_from (P := Try.prog) 35 3 .i64 Try.underlying35 hi022 1 hsz22 (some ad546) l0.length co16 x5_1 q022 q22; have hr22 := C_drop (m := (x5_1 : Int).toNat) (c := co16) hC22 (by omega) hroom22; obtain ⟨A22, hA22⟩ : ∃ A1, A1 = (if co16 = (x5_1 : Int).toNat then (some ad546) else ((some ad546) : Option Addr).map (·.add ((x5_1 : Int).toNat * 1))) := ⟨_, rfl⟩; obtain ⟨c22, hc22⟩ : ∃ c1, c1 = co16 - (x5_1 : Int).toNat := ⟨_, rfl⟩; have hy22 : y561.length = l0.length - (x5_1 : Int).toNat := (by rw [Ny561.1, List.length_drop] <;> omega); rw [show (l0).drop (x5_1 : Int).toNat = y561 from Ny561.1.symm] at hr22; replace hr22 : Kd.C (Kd.int .i64) _ A22 y561.length y561 := (by rw [hA22]; exact hr22); rw [<- hy22, <- hA22, <- hc22] at hcut22; have HR564 := Aside0.mk hr22; have HC564 := Aside0.mk (show y561.length <= c22 from by rw [hy22, hc22]; exact Nat.sub_le_sub_right hroom22 _); clear hr22 hC22 hroom22 hi022 hsz22 hc22; have KY22 := Aside0.mk hy22; have KA22 := Aside0.mk hA22; clear hy22 hA22; have KL22 := Aside0.mk (show (x5_1 : Int).toNat <= l0.length from by omega); replace q22 := eq_true q22) | ((with_reducible refine gate_builtin (b := .append) (xs := #[.tmp 43, .tmp 46]) rfl ?_); at_builtin; refine R_append_rows (Kd.int .i64) (w0 := w0) w0.heap.size rfl (.tmp 43) (.tmp 46) 35 3 (.int .i64 0) 8 rfl Try.underlying35 info3 rfl (by decide) (by omega) v559 y558 y561 _ _ _ (fun k_ => (P0_ k_ ∨ w.heap.size <= k_) /\ some k_ ≠ (.slice (some ad546) l0.length co16 : Value).ownBlock) (fun _ => False) rfl rfl ?aO ?aR (fun _ _ h => h) (fun _ h => h.elim) ?aF ?aB ?aS ?aL ?_; (case aR => repeat (first | exact (by repeat (first | (with_reducible exact HR564.1) | (with_reducible refine C_alloc ?_ _) | (with_reducible refine C_drewN ?_ _) | (with_reducible refine C_drew ?_) | exact HR564.1)) | (with_reducible refine C_alloc ?_ _) | (with_reducible refine C_drewN ?_ _) | (with_reducible refine C_drew ?_))); (case aB => exact (BL HB.1)); (case aF => exact (fun k_ hk => ⟨(.inr (Nat.le_trans (by first | exact HK.1.1 | exact (show Kept w _ (fun k_ => P0_ k_) from KL HK.1).1) hk)), Kd.fresh' (R_lt (PR HO_0.1)) k_ hk⟩)); (case aO => exact (PR HO560.1)); (case aS => exact (bZ HB.1)); (case aL => have := LMc15.1; omega); intro v566 w23 ho hb hg hat; rw [<- Ny565.1] at ho; refine E6 (R_after (ok := (fun k_ => (P0_ k_ ∨ w.heap.size <= k_))) (PR HO_0.1) hg hat) (hb) (Kept.of_grown (S := (fun k_ => P0_ k_)) hg (KL HK.1) (fun k_ e_ => (HO560.1.1 k_ e_).1)) ((show Kd.C (Kd.int .i64) w23 (some ad546) y551.length y551 from by rw [Ny551.1]; exact C_take (m := (x5_1 : Int).toNat) ((R_reads' (R_after (ok := (fun k_ => (P0_ k_ ∨ w.heap.size <= k_))) (PR HO_0.1) hg hat)).2.2) KL19.1)) ((show Kd.C (Kd.int .i64) w23 A22 y561.length y561 from by rw [Ny561.1, KA22.1]; exact C_drop (m := (x5_1 : Int).toNat) (c := co16) ((R_reads' (R_after (ok := (fun k_ => (P0_ k_ ∨ w.heap.size <= k_))) (PR HO_0.1) hg hat)).2.2) KL22.1 ((R_reads' (R_after (ok := (fun k_ => (P0_ k_ ∨ w.heap.size <= k_))) (PR HO_0.1) hg hat)).2.1))) (ho) ?_; clear HO_0 HB HK HR554 HR564 HO560; intro HO_0 HB HK HR554 HR564 HO567; clear ho hb hg hat))
   go_ret
   exact ⟨_, RF, RPE (R_mono HO567.1 (fun _ hk => hk.1)), BL HB.1, KL HK.1⟩
 replace H := nameB H; obtain ⟨y568, Ny568, H⟩ := H
 replace H := ifP H; obtain ⟨c24, H⟩ := H
 have c24b0 := eq_true c24
 have c24b1 := decide_eq_true c24
 clear c24
 replace H := ifP H; obtain ⟨c25, H⟩ := H
 have c25b0 := eq_true c25
 have c25b1 := decide_eq_true c25
 clear c25
 replace H := nameB H; obtain ⟨y571, Ny571, H⟩ := H
 replace H := ifP H; obtain ⟨c26, H⟩ := H
 have LMc26 := Aside0.mk c26
 clear c26
 replace H := nameB H; obtain ⟨y575, Ny575, H⟩ := H
 replace H := ifP H; obtain ⟨c27, H⟩ := H
 have LMc27 := Aside0.mk c27
 clear c27
 replace H := nameB H; obtain ⟨y578, Ny578, H⟩ := H
 have c28b0 := eq_true (OD : 0 <= x5_1)
 have c29b0 := eq_true (OD : x5_1 <= (l0.length : Int))
 replace H := nameB H; obtain ⟨y581, Ny581, H⟩ := H
 replace H := ifP H; obtain ⟨c30, H⟩ := H
 have LMc30 := Aside0.mk c30
 clear c30
 generalize hy585 : ((y578 ++ y581) : List Int) = y585 at H
 have Ny585 := Aside0.mk hy585.symm; clear hy585
 obtain rfl := Option.some.inj H
 obtain ⟨Ao31, co31, eo31⟩ := R_slice HO_0.1
 subst eo31
 go_wp2_with (first | ((with_reducible refine gate_dst (N := 34) rfl ?_); refine R_lit (Kd.int .i64) _ 3 ?hg (N := 34) ?hd (xs := ([] : List Int)) (inner := []) (ok := fun _ => True) (okp := fun _ => True) ?hr ?hp (fun _ hk => hk) trivial (Below.refl _ _) (Nat.le_refl _) (by simp) ?_; (case hd => rfl); (case hg => rfl); (case hr => first | (go_simp; done) | (go_simp; rfl)); (case hp => exact (Reps.none _ _)); intro v569 w32 ho33 hb hg_ hnew_; clear hg_ hnew_; (first | rw [<- Ny568.1] at ho33 | (simp only [Int.reduceToNat] at ho33; rw [<- Ny568.1] at ho33)); refine E4 (R_elder' (PR HO_0.1) (R_base ho33) hb) (R_lower (R_new' (R_newM (M := fun k_ => (P0_ k_ ∨ w.heap.size <= k_)) ho33 (by first | exact HK.1.1 | exact (show Kept w _ (fun k_ => P0_ k_) from KL HK.1).1) (fun k_ h_ => .inr h_)) (R_lt (PR HO_0.1))) (bZ HB.1)) (Kept.below (S := (fun k_ => P0_ k_)) (KL HK.1) hb) (bS HB.1 hb) ?_; clear HO_0 HK HB; intro HO_0 HO570 HK HB; clear hb ho33; have q34 : (x5_1 : Int) <= ((l0.length : Int) : Int) := OD; obtain ⟨i034, hi034, _, hsz34, _⟩ := info_parts info3; have hroom34 : l0.length <= co31 := (R_reads' HO_0.1).2.1; have hC34 : Kd.C (Kd.int .i64) _ Ao31 l0.length l0 := (R_reads' HO_0.1).2.2; have hcut34 := cut_to (P := Try.prog) 35 3 .i64 Try.underlying35 hi034 Ao31 l0.length co31 x5_1 (OD) q34 hroom34; have hr34 := C_take (m := (x5_1 : Int).toNat) hC34 (by omega); have hy34 : y571.length = (x5_1 : Int).toNat := (by rw [Ny571.1, List.length_take]; omega); rw [<- Ny571.1] at hr34; rw [<- hy34] at hcut34; have HR574 := Aside0.mk hr34; have HC574 := Aside0.mk (show y571.length <= co31 from by omega); clear hr34 hC34 hroom34 hi034 hsz34; have KY34 := Aside0.mk hy34; clear hy34; have KL34 := Aside0.mk (show (x5_1 : Int).toNat <= l0.length from by omega); replace q34 := eq_true q34) | ((with_reducible refine gate_builtin (b := .append) (xs := #[.tmp 34, .tmp 37]) rfl ?_); at_builtin; refine R_append_rows (Kd.int .i64) (w0 := w0) w0.heap.size rfl (.tmp 34) (.tmp 37) 35 3 (.int .i64 0) 8 rfl Try.underlying35 info3 rfl (by decide) (by omega) v569 y568 y571 _ _ _ (fun k_ => (P0_ k_ ∨ w.heap.size <= k_) /\ some k_ ≠ (.slice Ao31 l0.length co31 : Value).ownBlock) (fun _ => False) rfl rfl ?aO ?aR (fun _ _ h => h) (fun _ h => h.elim) ?aF ?aB ?aS ?aL ?_; (case aR => repeat (first | exact (by repeat (first | (with_reducible exact HR574.1) | (with_reducible refine C_alloc ?_ _) | (with_reducible refine C_drewN ?_ _) | (with_reducible refine C_drew ?_) | exact HR574.1)) | (with_reducible refine C_alloc ?_ _) | (with_reducible refine C_drewN ?_ _) | (with_reducible refine C_drew ?_))); (case aB => exact (BL HB.1)); (case aF => exact (fun k_ hk => ⟨(.inr (Nat.le_trans (by first | exact HK.1.1 | exact (show Kept w _ (fun k_ => P0_ k_) from KL HK.1).1) hk)), Kd.fresh' (R_lt (PR HO_0.1)) k_ hk⟩)); (case aO => exact (RPE (R_mono HO570.1 (fun _ hk => ⟨hk.1.1, hk.2⟩)))); (case aS => exact (bZ HB.1)); (case aL => have := LMc26.1; omega); intro v576 w35 ho hb hg hat; rw [<- Ny575.1] at ho; refine E5 (R_after (ok := (fun k_ => (P0_ k_ ∨ w.heap.size <= k_))) (PR HO_0.1) hg hat) (hb) (Kept.of_grown (S := (fun k_ => P0_ k_)) hg (KL HK.1) (fun k_ e_ => (HO570.1.1 k_ e_).1.1)) ((show Kd.C (Kd.int .i64) w35 Ao31 y571.length y571 from by rw [Ny571.1]; exact C_take (m := (x5_1 : Int).toNat) ((R_reads' (R_after (ok := (fun k_ => (P0_ k_ ∨ w.heap.size <= k_))) (PR HO_0.1) hg hat)).2.2) KL34.1)) (ho) ?_; clear HO_0 HB HK HR574 HO570; intro HO_0 HB HK HR574 HO577; clear ho hb hg hat) | ((with_reducible refine gate_builtin (b := .append) (xs := #[.tmp 39, .tmp 41]) rfl ?_); at_builtin; refine R_append (Kd.int .i64) (w0 := w0) w0.heap.size rfl (.tmp 39) (.tmp 41) 35 3 (.int .i64 0) 8 rfl Try.underlying35 info3 rfl (by decide) (by omega) v576 y575 a1 [.int .i64 a1] (fun k_ => (P0_ k_ ∨ w.heap.size <= k_) /\ some k_ ≠ (.slice Ao31 l0.length co31 : Value).ownBlock) (fun _ => False) rfl rfl ?aP (fun _ hk => hk.elim) ?aF ?aO ?aB ?aS ?aL ?_; (case aP => exact rfl); (case aB => exact (BL HB.1)); (case aF => exact (fun k_ hk => ⟨(.inr (Nat.le_trans (by first | exact HK.1.1 | exact (show Kept w _ (fun k_ => P0_ k_) from KL HK.1).1) hk)), Kd.fresh' (R_lt (PR HO_0.1)) k_ hk⟩)); (case aO => exact (PR HO577.1)); (case aS => exact (bZ HB.1)); (case aL => have := LMc27.1; omega); intro v579 w36 ho hb hg hat; rw [<- Ny578.1] at ho; refine E5 (R_after (ok := (fun k_ => (P0_ k_ ∨ w.heap.size <= k_))) (PR HO_0.1) hg hat) (hb) (Kept.of_grown (S := (fun k_ => P0_ k_)) hg (KL HK.1) (fun k_ e_ => (HO577.1.1 k_ e_).1)) ((show Kd.C (Kd.int .i64) w36 Ao31 y571.length y571 from by rw [Ny571.1]; exact C_take (m := (x5_1 : Int).toNat) ((R_reads' (R_after (ok := (fun k_ => (P0_ k_ ∨ w.heap.size <= k_))) (PR HO_0.1) hg hat)).2.2) KL34.1)) (ho) ?_; clear HO_0 HB HK HR574 HO577; intro HO_0 HB HK HR574 HO580; clear ho hb hg hat; have q37 : (x5_1 : Int) <= ((l0.length : Int) : Int) := OD; obtain ⟨i037, hi037, _, hsz37, _⟩ := info_parts info3; have hroom37 : l0.length <= co31 := (R_reads' HO_0.1).2.1; have hC37 : Kd.C (Kd.int .i64) _ Ao31 l0.length l0 := (R_reads' HO_0.1).2.2; have q037 : (0 : Int) <= (x5_1 : Int) := OD; have hcut37 := cut_from (P := Try.prog) 35 3 .i64 Try.underlying35 hi037 1 hsz37 Ao31 l0.length co31 x5_1 q037 q37; have hr37 := C_drop (m := (x5_1 : Int).toNat) (c := co31) hC37 (by omega) hroom37; obtain ⟨A37, hA37⟩ : ∃ A1, A1 = (if co31 = (x5_1 : Int).toNat then Ao31 else (Ao31 : Option Addr).map (·.add ((x5_1 : Int).toNat * 1))) := ⟨_, rfl⟩; obtain ⟨c37, hc37⟩ : ∃ c1, c1 = co31 - (x5_1 : Int).toNat := ⟨_, rfl⟩; have hy37 : y581.length = l0.length - (x5_1 : Int).toNat := (by rw [Ny581.1, List.length_drop] <;> omega); rw [show (l0).drop (x5_1 : Int).toNat = y581 from Ny581.1.symm] at hr37; replace hr37 : Kd.C (Kd.int .i64) _ A37 y581.length y581 := (by rw [hA37]; exact hr37); rw [<- hy37, <- hA37, <- hc37] at hcut37; have HR584 := Aside0.mk hr37; have HC584 := Aside0.mk (show y581.length <= c37 from by rw [hy37, hc37]; exact Nat.sub_le_sub_right hroom37 _); clear hr37 hC37 hroom37 hi037 hsz37 hc37; have KY37 := Aside0.mk hy37; have KA37 := Aside0.mk hA37; clear hy37 hA37; have KL37 := Aside0.mk (show (x5_1 : Int).toNat <= l0.length from by omega); replace q37 := eq_true q37) | ((with_reducible refine gate_builtin (b := .append) (xs := #[.tmp 43, .tmp 46]) rfl ?_); at_builtin; refine R_append_rows (Kd.int .i64) (w0 := w0) w0.heap.size rfl (.tmp 43) (.tmp 46) 35 3 (.int .i64 0) 8 rfl Try.underlying35 info3 rfl (by decide) (by omega) v579 y578 y581 _ _ _ (fun k_ => (P0_ k_ ∨ w.heap.size <= k_) /\ some k_ ≠ (.slice Ao31 l0.length co31 : Value).ownBlock) (fun _ => False) rfl rfl ?aO ?aR (fun _ _ h => h) (fun _ h => h.elim) ?aF ?aB ?aS ?aL ?_; (case aR => repeat (first | exact (by repeat (first | (with_reducible exact HR584.1) | (with_reducible refine C_alloc ?_ _) | (with_reducible refine C_drewN ?_ _) | (with_reducible refine C_drew ?_) | exact HR584.1)) | (with_reducible refine C_alloc ?_ _) | (with_reducible refine C_drewN ?_ _) | (with_reducible refine C_drew ?_))); (case aB => exact (BL HB.1)); (case aF => exact (fun k_ hk => ⟨(.inr (Nat.le_trans (by first | exact HK.1.1 | exact (show Kept w _ (fun k_ => P0_ k_) from KL HK.1).1) hk)), Kd.fresh' (R_lt (PR HO_0.1)) k_ hk⟩)); (case aO => exact (PR HO580.1)); (case aS => exact (bZ HB.1)); (case aL => have := LMc30.1; omega); intro v586 w38 ho hb hg hat; rw [<- Ny585.1] at ho; refine E6 (R_after (ok := (fun k_ => (P0_ k_ ∨ w.heap.size <= k_))) (PR HO_0.1) hg hat) (hb) (Kept.of_grown (S := (fun k_ => P0_ k_)) hg (KL HK.1) (fun k_ e_ => (HO580.1.1 k_ e_).1)) ((show Kd.C (Kd.int .i64) w38 Ao31 y571.length y571 from by rw [Ny571.1]; exact C_take (m := (x5_1 : Int).toNat) ((R_reads' (R_after (ok := (fun k_ => (P0_ k_ ∨ w.heap.size <= k_))) (PR HO_0.1) hg hat)).2.2) KL34.1)) ((show Kd.C (Kd.int .i64) w38 A37 y581.length y581 from by rw [Ny581.1, KA37.1]; exact C_drop (m := (x5_1 : Int).toNat) (c := co31) ((R_reads' (R_after (ok := (fun k_ => (P0_ k_ ∨ w.heap.size <= k_))) (PR HO_0.1) hg hat)).2.2) KL37.1 ((R_reads' (R_after (ok := (fun k_ => (P0_ k_ ∨ w.heap.size <= k_))) (PR HO_0.1) hg hat)).2.1))) (ho) ?_; clear HO_0 HB HK HR574 HR584 HO580; intro HO_0 HB HK HR574 HR584 HO587; clear ho hb hg hat))
 go_ret
 exact ⟨_, RF, RPE (R_mono HO587.1 (fun _ hk => hk.1)), BL HB.1, KL HK.1⟩
/-! ### spec_InputsUsed: function 37 -/
open Kd
def spec_InputsUsed.l0 : Nat -> List Int -> List (S63) -> Int -> Int -> Option (List Int × Bool)
 | 0, _, _, _, _ => none
 | k + 1, x4, x11, x12, x13 => if x13 < x12 then (if 0 <= x13 then (if x13 < (x11.length : Int) then ((spec_l1Put.f k x4 ((rd_T63 x11 x13).f0)).bind fun t592 => (spec_InputsUsed.l0 k t592 x11 x12 (wrap64 (x13 + 1)))) else (none)) else (none)) else (some (x4, true))
def spec_InputsUsed.f (k : Nat) (a0_0 : Int) (l0_1 : List (S63)) (a0_2 : Int) : Option (List Int × Bool) := (spec_ddGood.f k a0_0 l0_1 a0_2).bind fun t589 => (if t589 = true then (spec_InputsUsed.l0 k ([] : List Int) l0_1 (l0_1.length : Int) 0) else (some (([] : List Int), false)))
theorem spec_InputsUsed.mono_l : ∀ k, (∀ y0 y1 y2 y3, LeO (spec_InputsUsed.l0 k y0 y1 y2 y3) (spec_InputsUsed.l0 (k + 1) y0 y1 y2 y3))
 | 0 => fun _ _ _ _ r h => by simp [spec_InputsUsed.l0] at h
 | k + 1 => by
  have ih0 := spec_InputsUsed.mono_l k
  intros
  first | unfold spec_InputsUsed.l0
  exact LM3 ih0 spec_ddGood.mono spec_l1Put.mono
theorem spec_InputsUsed.mono : ∀ a0 a1 a2 k, LeO (spec_InputsUsed.f k a0 a1 a2) (spec_InputsUsed.f (k + 1) a0 a1 a2) := by
 intro a0 a1 a2 k
 have ih0 := spec_InputsUsed.mono_l k
 unfold spec_InputsUsed.f
 exact LM3 ih0 spec_ddGood.mono spec_l1Put.mono
theorem spec_InputsUsed.calls (k : Nat) (a0_0 : Int) (A0_1 : Option Addr) (c0_1 : Nat) (l0_1 : List (S63)) (a0_2 : Int) (r1 : List Int) (r2 : Bool) (w : World) (hr0_1 : Kd.C k63 w A0_1 l0_1.length l0_1) (hc0_1 : l0_1.length <= c0_1) (h : spec_InputsUsed.f k a0_0 l0_1 a0_2 = some (r1, r2)) :
 Calls Try.prog 37 #[.agg #[.int .i64 a0_0, .slice A0_1 l0_1.length c0_1, .int .i64 a0_2]] w fun e w' => ∃ v0_ : Value, e = .returned (.tuple #[v0_, .bool r2]) /\ Kd.R (Kd.int .i64) 3 w' w.heap.size (fun _ => True) v0_ r1 /\ Below w.heap.size w w' := by
 have hu29 := Try.underlying29
 have hu63 := Try.underlying63
 have HR0_1 := Aside0.mk hr0_1
 have HC0_1 := Aside0.mk hc0_1
 clear hr0_1 hc0_1
 have HB := Aside0.mk (Below.refl w.heap.size w)
 have H := h
 clear h
 unfold spec_InputsUsed.f at H
 replace H := bindA H; obtain ⟨t589, A2, H⟩ := H
 replace H := ifX H; rcases H with ⟨rfl, H⟩ | ⟨rfl, H⟩
 · have H' := Aside0.mk H
   clear H
   go_enter Try.func37, Try.ntmps37
   go_wp2_with (first | ((with_reducible refine gate_dst (N := 1) rfl ?_); refine boxE (cs := #[.int .i64 a0_0, .slice A0_1 l0_1.length c0_1, .int .i64 a0_2]) (t := 29) ?_; intro gb588 hg w4 hbox hb; refine E4b HB.1 hg hbox hb ?_; clear HB; intro HB BK588 GW588 GE588; clear hb hbox hg; obtain ⟨hcz5_0, hcz5_1, hcz5_2, hfz5_0, hfz5_1, hfz5_2⟩ := cz3 BK588.1) | ((with_reducible refine gate_callee (f := 45) rfl ?_); refine goesM (N := (some 8)) #[.agg #[.int .i64 a0_0, .slice A0_1 l0_1.length c0_1, .int .i64 a0_2]] Try.func45 ?_; (with_reducible refine (spec_ddGood.calls k a0_0 _ _ l0_1 a0_2 true _ ?side1 ?side2 A2.1).mono ?_); (case side1 => exact CB (C_below HR0_1.1 HB.1)); (case side2 => exact HC0_1.1); rintro e w6 ⟨rfl, hb⟩; refine ⟨_, rfl, ?_⟩; refine E2 (bB BK588.1 hb) (bS HB.1 hb) ?_; clear BK588 HB; intro BK588 HB; (try clear hb); obtain ⟨hcz7_0, hcz7_1, hcz7_2, hfz7_0, hfz7_1, hfz7_2⟩ := cz3 BK588.1))
   go_loopg [4, 13] k (fun kq v4 v13 w' => ∃ (x4_1 : List Int) (x13_1 : Int), v13 = .int .i64 x13_1 /\ Aside0 (spec_InputsUsed.l0 kq x4_1 l0_1 (l0_1.length : Int) x13_1 = some (r1, r2)) /\ Aside0 (kq <= k) /\ Aside0 (Kd.R (Kd.int .i64) 3 w' w.heap.size (fun _ => True) v4 x4_1) /\ Aside0 (w'.heap[gb588]? = some (.cells #[.int .i64 a0_0, (.slice A0_1 l0_1.length c0_1), .int .i64 a0_2] 29 (0, 0))) /\ Aside0 (Below w.heap.size w w'))
   case atStart => exact ⟨(([] : List Int)), (0), RG, H', ⟨Nat.le_refl _⟩, ⟨by first | exact R_nil _ _ _ _ _ | exact N_nil _ _ _ _ _ | exact V_nil _ _ _ _ _ | exact Q_nil _ _ _ _ _ | exact S_nil _ _ _ _ _⟩, ⟨PB BK588.1⟩, ⟨BL HB.1⟩⟩
   clear H'
   clear hcz5_0 hcz5_1 hcz5_2 hcz7_0 hcz7_1 hcz7_2 hfz5_0 hfz5_1 hfz5_2 hfz7_0 hfz7_1 hfz7_2
   obtain ⟨x4_1, x13_1, rfl, HA, HK1, HO_4, BK588, HB⟩ := hrel
   cases gk with
   | zero => exact absurd HA.1 (by simp [spec_InputsUsed.l0])
   | succ k1 => ?_
   have H := HA.1
   clear HA
   simp only [spec_InputsUsed.l0] at H
   replace H := ifB H; rcases H with ⟨c8b0, H⟩ | ⟨c8b0, H⟩
   · replace H := ifN H; obtain ⟨c9b0, H⟩ := H
     replace H := ifN H; obtain ⟨c10b0, H⟩ := H
     replace H := bindA H; obtain ⟨t592, A11, H⟩ := H
     have H' := Aside0.mk H
     clear H
     have p590 : 0 <= (x13_1 : Int) := OD
     have q590 : x13_1 < (l0_1.length : Int) := OD
     obtain ⟨ad590, e590, hx590_0, hx590_1, hx590_2⟩ := at_T63 HR0_1.1 x13_1 p590 q590
     cases e590
     replace hx590_0 := (HB.1.cell (World.block_lt_of_cell? w _ hx590_0)).trans hx590_0
     replace hx590_1 := (HB.1.cell (World.block_lt_of_cell? w _ hx590_1)).trans hx590_1
     replace hx590_2 := (HB.1.cell (World.block_lt_of_cell? w _ hx590_2)).trans hx590_2
     replace p590 := eq_true p590
     replace q590 := eq_true q590
     go_wp2_with (first | ((with_reducible refine gate_dst (N := 6) rfl ?_); refine boxE (cs := #[.int .i64 0, .int .i64 0, .int .i64 0]) (t := 63) ?_; intro gb591 hg w12 hbox hb; refine E8 (rB HO_4.1 hb) (bB BK588.1 hb) (bS HB.1 hb) (hbox) (gX HB.1 hg) (gX HB.1 hg) (nB BK588.1 hg) (nC BK588.1 hg) ?_; clear HO_4 BK588 HB; intro HO_4 BK588 HB BK591 GW591 GE591 NB588_591 NB591_588; clear hb hbox hg; have hnb13 := NB591_588.1; have hnc13 := NB588_591.1; obtain ⟨hcz14_0, hcz14_1, hcz14_2, hfz14_0, hfz14_1, hfz14_2⟩ := cz3 BK591.1) | ((with_reducible refine gate_store (t := 63) (p := 6) rfl ?_); refine storeE (t := 63) (p := 6) (w1 := (((w12.setCell ⟨gb591, 0, none⟩ (.int .i64 ((rd_T63 l0_1 x13_1).f0))).setCell ⟨gb591, 1, none⟩ (.int .i64 ((rd_T63 l0_1 x13_1).f1))).setCell ⟨gb591, 2, none⟩ (.int .i64 ((rd_T63 l0_1 x13_1).f2)))) ?_; intro w15 hw; have n0_ : Aside0 (Kd.R (Kd.int .i64) 3 w15 w.heap.size (fun _ => True) u4 x4_1) := ⟨(by rw [hw]; exact (by (with_reducible repeat (first | apply R_alloc | apply R_drewN | apply R_drew)); exact R_mono (RQ gb591 2 (RQ gb591 1 (RQ gb591 0 (R_types HO_4.1 BK591.1 (by decide)) _) _) _) (fun _ hk => trivial)))⟩; have n1_ : Aside0 (w15.heap[gb588]? = some (.cells #[.int .i64 a0_0, .slice (some ad590) l0_1.length c0_1, .int .i64 a0_2] 29 (0, 0))) := ⟨(by rw [hw]; exact (PF1 NB588_591.1 BK588.1))⟩; have n2_ : Aside0 (w15.heap[gb591]? = some (.cells #[.int .i64 ((rd_T63 l0_1 x13_1).f0), .int .i64 ((rd_T63 l0_1 x13_1).f1), .int .i64 ((rd_T63 l0_1 x13_1).f2)] 63 (0, 0))) := ⟨(by rw [hw]; exact (PF0 BK591.1))⟩; have n3_ : Aside0 (Below w.heap.size w w15) := ⟨(by rw [hw]; exact (BL HB.1))⟩; clear hw; clear HO_4; clear BK588; clear BK591; clear HB; have HO_4 := n0_; have BK588 := n1_; have BK591 := n2_; have HB := n3_; clear n0_ n1_ n2_ n3_; obtain ⟨hcz16_0, hcz16_1, hcz16_2, hfz16_0, hfz16_1, hfz16_2⟩ := cz3 BK591.1; obtain ⟨Ao17, co17, eo17⟩ := R_slice HO_4.1; subst eo17) | ((with_reducible refine gate_callee (f := 69) rfl ?_); refine goesM (N := (some 20)) #[.slice Ao17 x4_1.length co17, .int .i64 ((rd_T63 l0_1 x13_1).f0)] Try.func69 ?_; (with_reducible refine (spec_l1Put.calls k1 (fun k_ => some k_ = (.slice Ao17 x4_1.length co17 : Value).ownBlock) (.slice Ao17 x4_1.length co17) x4_1 ((rd_T63 l0_1 x13_1).f0) t592 w _ ?side1 ?side2 A11.1).mono ?_); (case side1 => exact BL HB.1); (case side2 => exact R_tight rfl HO_4.1); rintro e w18 ⟨v593, rfl, ho0, hb, hkp⟩; refine ⟨_, rfl, ?_⟩; refine E4 (blk_kept (PB BK588.1) hkp (fun hs_ => (fun e_ => (R_ne HO_4.1 BK588.1 (by decide)) e_) hs_)) (blk_kept (PB BK591.1) hkp (fun hs_ => (fun e_ => (R_ne HO_4.1 BK591.1 (by decide)) e_) hs_)) (R_mono (ok' := fun k_ => True) ho0 (fun k_ hk_ => trivial)) (hb) ?_; clear BK588 BK591 HB HO_4; intro BK588 BK591 HO594 HB; (try clear hb); (try clear hkp); (try clear ho0)))
     go_roundg k1
     case measure => have := HK1.1; omega
     case rel => exact ⟨(t592), (wrap64 (x13_1 + 1)), RG, H', ⟨by have := HK1.1; omega⟩, ⟨PR HO594.1⟩, ⟨PB BK588.1⟩, ⟨BL HB.1⟩⟩
   simp only [Option.some.injEq, Prod.mk.injEq] at H
   obtain ⟨rfl, rfl⟩ := H
   go_wp2
   go_ret2
   exact ⟨_, RF, RPE (HO_4.1), BL HB.1⟩
 simp only [Option.some.injEq, Prod.mk.injEq] at H
 obtain ⟨rfl, rfl⟩ := H
 go_enter Try.func37, Try.ntmps37
 go_wp2_with (first | ((with_reducible refine gate_dst (N := 1) rfl ?_); refine boxE (cs := #[.int .i64 a0_0, .slice A0_1 l0_1.length c0_1, .int .i64 a0_2]) (t := 29) ?_; intro gb588 hg w19 hbox hb; refine E4b HB.1 hg hbox hb ?_; clear HB; intro HB BK588 GW588 GE588; clear hb hbox hg; obtain ⟨hcz20_0, hcz20_1, hcz20_2, hfz20_0, hfz20_1, hfz20_2⟩ := cz3 BK588.1) | ((with_reducible refine gate_callee (f := 45) rfl ?_); refine goesM (N := (some 8)) #[.agg #[.int .i64 a0_0, .slice A0_1 l0_1.length c0_1, .int .i64 a0_2]] Try.func45 ?_; (with_reducible refine (spec_ddGood.calls k a0_0 _ _ l0_1 a0_2 false _ ?side1 ?side2 A2.1).mono ?_); (case side1 => exact CB (C_below HR0_1.1 HB.1)); (case side2 => exact HC0_1.1); rintro e w21 ⟨rfl, hb⟩; refine ⟨_, rfl, ?_⟩; refine E2 (bB BK588.1 hb) (bS HB.1 hb) ?_; clear BK588 HB; intro BK588 HB; (try clear hb)))
 go_ret2
 exact ⟨_, RF, by first | exact R_nil _ _ _ _ _ | exact N_nil _ _ _ _ _ | exact V_nil _ _ _ _ _ | exact Q_nil _ _ _ _ _ | exact S_nil _ _ _ _ _, BL HB.1⟩

/-! ### impl_InputsUsed: function 38 -/
open Kd
def impl_InputsUsed.f (k : Nat) (a0_0 : Int) (l0_1 : List (S63)) (a0_2 : Int) : Option (List Int × Bool) := (impl_IsDiagram.f k a0_0 l0_1 a0_2).bind fun t => if t = true then (if l0_1.length <= 40 /\ (∀ x ∈ l0_1, 0 <= x.f0 /\ x.f0 < 4) then some (([0, 1, 2, 3] : List Int).filter (fun i => l0_1.any (fun x => x.f0 == i)), true) else none) else some ([], false)
theorem impl_InputsUsed.mono : ∀ a0 a1 a2 k, LeO (impl_InputsUsed.f k a0 a1 a2) (impl_InputsUsed.f (k + 1) a0 a1 a2) := fun _ _ _ _ => LeO.bind (impl_IsDiagram.mono _ _ _ _) (fun _ => LeO.refl _)
/-- Whether an input stands in one of the first j nodes. -/
def ufl (ns : List S63) (j : Nat) (i : Int) : Bool := (ns.take j).any (fun x => x.f0 == i)
theorem ufl_succ {ns : List S63} {j : Nat} (h : j < ns.length) (i : Int) : ufl ns (j + 1) i = (ufl ns j i || (rd_T63 ns (j : Int)).f0 == i) := by
 have e : rd_T63 ns (j : Int) = ns[j] := by simp [rd_T63, List.getD, h]
 rw [e, ufl, List.take_succ_eq_append_getElem h, List.any_append]
 simp [ufl]
/-- The inputs below i that are marked. -/
def uout (b0 b1 b2 b3 : Bool) (i : Nat) : List Int := (([((0 : Int), b0), (1, b1), (2, b2), (3, b3)].take i).filter (fun p => p.2)).map (fun p => p.1)
theorem uout_all (p : Int -> Bool) : ([0, 1, 2, 3] : List Int).filter p = uout (p 0) (p 1) (p 2) (p 3) 4 := by
 simp only [uout, List.filter_cons, List.filter_nil, List.take]
 cases p 0 <;> cases p 1 <;> cases p 2 <;> cases p 3 <;> rfl
theorem uout_len (b0 b1 b2 b3 : Bool) (i : Nat) : (uout b0 b1 b2 b3 i).length <= 4 := by
 simp only [uout, List.length_map]
 refine Nat.le_trans (List.length_filter_le _ _) ?_
 simp; omega
theorem uout_no0 (b1 b2 b3 : Bool) : uout false b1 b2 b3 0 = uout false b1 b2 b3 1 := by cases b1 <;> cases b2 <;> cases b3 <;> rfl
theorem uout_yes0 (b1 b2 b3 : Bool) : uout true b1 b2 b3 0 ++ [0] = uout true b1 b2 b3 1 := by cases b1 <;> cases b2 <;> cases b3 <;> rfl
theorem uout_no1 (b0 b2 b3 : Bool) : uout b0 false b2 b3 1 = uout b0 false b2 b3 2 := by cases b0 <;> cases b2 <;> cases b3 <;> rfl
theorem uout_yes1 (b0 b2 b3 : Bool) : uout b0 true b2 b3 1 ++ [1] = uout b0 true b2 b3 2 := by cases b0 <;> cases b2 <;> cases b3 <;> rfl
theorem uout_no2 (b0 b1 b3 : Bool) : uout b0 b1 false b3 2 = uout b0 b1 false b3 3 := by cases b0 <;> cases b1 <;> cases b3 <;> rfl
theorem uout_yes2 (b0 b1 b3 : Bool) : uout b0 b1 true b3 2 ++ [2] = uout b0 b1 true b3 3 := by cases b0 <;> cases b1 <;> cases b3 <;> rfl
theorem uout_no3 (b0 b1 b2 : Bool) : uout b0 b1 b2 false 3 = uout b0 b1 b2 false 4 := by cases b0 <;> cases b1 <;> cases b2 <;> rfl
theorem uout_yes3 (b0 b1 b2 : Bool) : uout b0 b1 b2 true 3 ++ [3] = uout b0 b1 b2 true 4 := by cases b0 <;> cases b1 <;> cases b2 <;> rfl
theorem ucz4 {w : World} {g : Nat} {t : TypeId} {v0 v1 v2 v3 : Value} (h : w.heap[g]? = some (.cells #[v0, v1, v2, v3] t (0, 0))) : w.cell? ⟨g, 0, none⟩ = some v0 /\ w.cell? ⟨g, 1, none⟩ = some v1 /\ w.cell? ⟨g, 2, none⟩ = some v2 /\ w.cell? ⟨g, 3, none⟩ = some v3 /\ w.frozen? ⟨g, 0, none⟩ = false /\ w.frozen? ⟨g, 1, none⟩ = false /\ w.frozen? ⟨g, 2, none⟩ = false /\ w.frozen? ⟨g, 3, none⟩ = false :=
 ⟨(blk_cell h 0).trans rfl, (blk_cell h 1).trans rfl, (blk_cell h 2).trans rfl, (blk_cell h 3).trans rfl, blk_frozen h 0, blk_frozen h 1, blk_frozen h 2, blk_frozen h 3⟩
/-- The four marks behind j nodes. -/
def uarr (ns : List S63) (j : Nat) : Array Value := #[.bool (ufl ns j 0), .bool (ufl ns j 1), .bool (ufl ns j 2), .bool (ufl ns j 3)]
theorem uarr_at (ns : List S63) (j : Nat) {a : Int} (h0 : 0 <= a) (h1 : a < 4) : (uarr ns j)[a.toNat]? = some (.bool (ufl ns j a)) := by
 rcases (by omega : a = 0 ∨ a = 1 ∨ a = 2 ∨ a = 3) with rfl | rfl | rfl | rfl <;> rfl
theorem uarr_set {ns : List S63} {j : Nat} (h : j < ns.length) {a : Int} (ha : (rd_T63 ns (j : Int)).f0 = a) (h0 : 0 <= a) (h1 : a < 4) : (uarr ns j).setIfInBounds a.toNat (.bool true) = uarr ns (j + 1) := by
 have e := fun i => ufl_succ (i := i) h
 simp only [uarr, e, ha]
 rcases (by omega : a = 0 ∨ a = 1 ∨ a = 2 ∨ a = 3) with rfl | rfl | rfl | rfl <;> simp
theorem used_calls (k : Nat) (xn root : Int) (A : Option Addr) (c : Nat) (ns : List S63) (w : World) (hC : Kd.C k63 w A ns.length ns) (hc : ns.length <= c) (hA : impl_IsDiagram.f k xn ns root = some true) (hl : ns.length <= 40) (hin : ∀ x ∈ ns, 0 <= x.f0 /\ x.f0 < 4) :
 Calls Try.prog 38 #[.agg #[.int .i64 xn, .slice A ns.length c, .int .i64 root]] w fun e w' => ∃ v0_ : Value, e = .returned (.tuple #[v0_, .bool true]) /\ Kd.R (Kd.int .i64) 3 w' w.heap.size (fun _ => True) v0_ (([0, 1, 2, 3] : List Int).filter (fun i => ns.any (fun x => x.f0 == i))) /\ Below w.heap.size w w' := by
 have hu29 := Try.underlying29
 have hu63 := Try.underlying63
 have hu81 := Try.underlying81
 have HC := Aside0.mk hC
 have HCC := Aside0.mk hc
 have HA := Aside0.mk hA
 have HIN := Aside0.mk hin
 clear hC hc hA hin
 have HB := Aside0.mk (Below.refl w.heap.size w)
 go_enter Try.func38, Try.ntmps38
 go_wp2_with (first
  | ((with_reducible refine gate_dst (N := 1) rfl ?_); refine boxE (cs := #[.int .i64 xn, .slice A ns.length c, .int .i64 root]) (t := 29) ?_; intro gd hg w4 hbox hb; have n0_ := Aside0.mk (HB.1.trans (hb.mono HB.1.size)); have BK1 := Aside0.mk hbox; clear HB; have HB := n0_; clear n0_ hbox hg hb; obtain ⟨hcz1_0, hcz1_1, hcz1_2, hfz1_0, hfz1_1, hfz1_2⟩ := cz3 BK1.1)
  | ((with_reducible refine gate_callee (f := 15) rfl ?_); refine goesM (N := some 11) #[.agg #[.int .i64 xn, .slice A ns.length c, .int .i64 root]] Try.func15 ?_; refine (impl_IsDiagram.calls k xn _ _ ns root true _ (CB (C_below HC.1 HB.1)) HCC.1 HA.1).mono ?_; rintro e w5 ⟨rfl, hb⟩; refine ⟨_, rfl, ?_⟩; have n0_ := Aside0.mk (HB.1.trans (hb.mono HB.1.size)); have n1_ := Aside0.mk (blk_below BK1.1 hb); clear HB BK1 hcz1_0 hcz1_1 hcz1_2 hfz1_0 hfz1_1 hfz1_2; have HB := n0_; have BK1 := n1_; clear n0_ n1_ hb)
  | ((with_reducible refine gate_dst (N := 4) rfl ?_); refine boxE (cs := #[.bool false, .bool false, .bool false, .bool false]) (t := 81) ?_; intro gu hg w6 hbox hb; have n0_ := Aside0.mk (HB.1.trans (hb.mono HB.1.size)); have n1_ := Aside0.mk (blk_below BK1.1 hb); have BKu := Aside0.mk hbox; have GEu := Aside0.mk (hg ▸ HB.1.size : w.heap.size <= gu); have Nu := Aside0.mk (nB BK1.1 hg); clear HB BK1; have HB := n0_; have BK1 := n1_; clear n0_ n1_ hbox hg hb; obtain ⟨hca, hcb, hcc, hcd, hfa, hfb, hfc, hfd⟩ := ucz4 BKu.1)
  | ((with_reducible refine gate_store (t := 81) (p := 4) rfl ?_); refine storeE (t := 81) (p := 4) (w1 := (((w6.setCell ⟨gu, 0, none⟩ (.bool false)).setCell ⟨gu, 1, none⟩ (.bool false)).setCell ⟨gu, 2, none⟩ (.bool false)).setCell ⟨gu, 3, none⟩ (.bool false)) ?_; intro w7 hw; have n0_ := Aside0.mk ((((HB.1.setCell (p := ⟨gu, 0, none⟩) GEu.1 (.bool false)).setCell (p := ⟨gu, 1, none⟩) GEu.1 (.bool false)).setCell (p := ⟨gu, 2, none⟩) GEu.1 (.bool false)).setCell (p := ⟨gu, 3, none⟩) GEu.1 (.bool false)); have n1_ := Aside0.mk (blk_far (blk_far (blk_far (blk_far BK1.1 Nu.1 (p := ⟨gu, 0, none⟩) (.bool false)) Nu.1 (p := ⟨gu, 1, none⟩) (.bool false)) Nu.1 (p := ⟨gu, 2, none⟩) (.bool false)) Nu.1 (p := ⟨gu, 3, none⟩) (.bool false)); have n2_ := Aside0.mk (blk_put (blk_put (blk_put (blk_put BKu.1 0 (.bool false) rfl) 1 (.bool false) rfl) 2 (.bool false) rfl) 3 (.bool false) rfl); rw [<- hw] at n0_ n1_ n2_; clear HB BK1 BKu hca hcb hcc hcd hfa hfb hfc hfd hw; have HB := n0_; have BK1 := n1_; have BKu : Aside0 (w7.heap[gu]? = some (.cells (uarr ns 0) 81 (0, 0))) := n2_; clear n0_ n1_ n2_; obtain ⟨hcz1_0, hcz1_1, hcz1_2, hfz1_0, hfz1_1, hfz1_2⟩ := cz3 BK1.1))
 go_loopg [17] (ns.length + 1) (fun kq v17 w' => ∃ (x17 : Int) (i : Nat), v17 = .int .i64 x17 /\ Aside0 (x17 = (i : Int)) /\ Aside0 (kq + i = ns.length + 1) /\ Aside0 (i <= ns.length) /\ Aside0 (w'.heap[gd]? = some (.cells #[.int .i64 xn, .slice A ns.length c, .int .i64 root] 29 (0, 0))) /\ Aside0 (w'.heap[gu]? = some (.cells (uarr ns i) 81 (0, 0))) /\ Aside0 (Below w.heap.size w w'))
 case atStart => exact ⟨0, 0, rfl, ⟨rfl⟩, ⟨rfl⟩, ⟨Nat.zero_le _⟩, BK1, BKu, HB⟩
 clear hcz1_0 hcz1_1 hcz1_2 hfz1_0 hfz1_1 hfz1_2
 obtain ⟨x17, i, rfl, HI, HK, HL, BK1, BKu, HB⟩ := hrel
 have hin : i <= ns.length := HL.1
 cases gk with
 | zero => have := HK.1; omega
 | succ k1 => ?_
 by_cases hi : i < ns.length
 · have c8 : decide (x17 < (ns.length : Int)) = true := decide_eq_true (by have := HI.1; omega)
   have c8b : decide (0 <= x17) = true := decide_eq_true (by have := HI.1; omega)
   have p104 : 0 <= (x17 : Int) := OD
   have q104 : x17 < (ns.length : Int) := OD
   obtain ⟨ad104, e104, hx104_0, hx104_1, hx104_2⟩ := at_T63 HC.1 x17 p104 q104
   cases e104
   replace hx104_0 := (HB.1.cell (World.block_lt_of_cell? w _ hx104_0)).trans hx104_0
   replace hx104_1 := (HB.1.cell (World.block_lt_of_cell? w _ hx104_1)).trans hx104_1
   replace hx104_2 := (HB.1.cell (World.block_lt_of_cell? w _ hx104_2)).trans hx104_2
   replace p104 := eq_true p104
   replace q104 := eq_true q104
   have er : rd_T63 ns x17 = ns[i] := by rw [HI.1]; simp [rd_T63, List.getD, hi]
   have hr := HIN.1 _ (er ▸ List.getElem_mem hi : rd_T63 ns x17 ∈ ns)
   have pa : (0 <= (rd_T63 ns x17).f0) = True := eq_true hr.1
   have qa : ((rd_T63 ns x17).f0 < 4) = True := eq_true hr.2
   have pa1 : decide (0 <= (rd_T63 ns x17).f0) = true := decide_eq_true hr.1
   have qa1 : decide ((rd_T63 ns x17).f0 < 4) = true := decide_eq_true hr.2
   have HR := Aside0.mk hr
   clear er hr
   go_wp2_with (first
    | ((with_reducible refine gate_dst (N := 6) rfl ?_); refine boxE (cs := #[.int .i64 0, .int .i64 0, .int .i64 0]) (t := 63) ?_; intro gn hg w10 hbox hb; have n0_ := Aside0.mk (HB.1.trans (hb.mono HB.1.size)); have n1_ := Aside0.mk (blk_below BK1.1 hb); have n2_ := Aside0.mk (blk_below BKu.1 hb); have BKn := Aside0.mk hbox; have GEn := Aside0.mk (hg ▸ HB.1.size : w.heap.size <= gn); have N1 := Aside0.mk (nB BK1.1 hg); have N2 := Aside0.mk (nB BKu.1 hg); clear HB BK1 BKu; have HB := n0_; have BK1 := n1_; have BKu := n2_; clear n0_ n1_ n2_ hbox hg hb; obtain ⟨hcz_0, hcz_1, hcz_2, hfz_0, hfz_1, hfz_2⟩ := cz3 BKn.1)
    | ((with_reducible refine gate_store (t := 63) (p := 6) rfl ?_); refine storeE (t := 63) (p := 6) (w1 := ((w10.setCell ⟨gn, 0, none⟩ (.int .i64 (rd_T63 ns x17).f0)).setCell ⟨gn, 1, none⟩ (.int .i64 (rd_T63 ns x17).f1)).setCell ⟨gn, 2, none⟩ (.int .i64 (rd_T63 ns x17).f2)) ?_; intro w11 hw; have n3_ := Aside0.mk (blk_put (blk_put (blk_put BKn.1 0 (.int .i64 (rd_T63 ns x17).f0) rfl) 1 (.int .i64 (rd_T63 ns x17).f1) rfl) 2 (.int .i64 (rd_T63 ns x17).f2) rfl); have n0_ := Aside0.mk (((HB.1.setCell (p := ⟨gn, 0, none⟩) GEn.1 (.int .i64 (rd_T63 ns x17).f0)).setCell (p := ⟨gn, 1, none⟩) GEn.1 (.int .i64 (rd_T63 ns x17).f1)).setCell (p := ⟨gn, 2, none⟩) GEn.1 (.int .i64 (rd_T63 ns x17).f2)); have n1_ := Aside0.mk (blk_far (blk_far (blk_far BK1.1 N1.1 (p := ⟨gn, 0, none⟩) (.int .i64 (rd_T63 ns x17).f0)) N1.1 (p := ⟨gn, 1, none⟩) (.int .i64 (rd_T63 ns x17).f1)) N1.1 (p := ⟨gn, 2, none⟩) (.int .i64 (rd_T63 ns x17).f2)); have n2_ := Aside0.mk (blk_far (blk_far (blk_far BKu.1 N2.1 (p := ⟨gn, 0, none⟩) (.int .i64 (rd_T63 ns x17).f0)) N2.1 (p := ⟨gn, 1, none⟩) (.int .i64 (rd_T63 ns x17).f1)) N2.1 (p := ⟨gn, 2, none⟩) (.int .i64 (rd_T63 ns x17).f2)); rw [<- hw] at n0_ n1_ n2_ n3_; clear HB BK1 BKu BKn hcz_0 hcz_1 hcz_2 hfz_0 hfz_1 hfz_2 hw; have HB := n0_; have BK1 := n1_; have BKu := n2_; have BKn := n3_; clear n0_ n1_ n2_ n3_; obtain ⟨hcz_0, hcz_1, hcz_2, hfz_0, hfz_1, hfz_2⟩ := cz3 BKn.1; have hcu : w11.cell? ⟨gu, (rd_T63 ns x17).f0.toNat, none⟩ = some (.bool (ufl ns i (rd_T63 ns x17).f0)) := (blk_cell BKu.1 _).trans (uarr_at ns i HR.1.1 HR.1.2); have hfu := blk_frozen BKu.1 (rd_T63 ns x17).f0.toNat)
    | ((with_reducible refine gate_store (t := 4) (p := 23) rfl ?_); refine storeE (t := 4) (p := 23) (w1 := w11.setCell ⟨gu, (rd_T63 ns x17).f0.toNat, none⟩ (.bool true)) ?_; intro w12 hw; have n0_ := Aside0.mk (HB.1.setCell (p := ⟨gu, (rd_T63 ns x17).f0.toNat, none⟩) GEu.1 (.bool true)); have n1_ := Aside0.mk (blk_far BK1.1 Nu.1 (p := ⟨gu, (rd_T63 ns x17).f0.toNat, none⟩) (.bool true)); have n2_ := Aside0.mk (blk_put BKu.1 (rd_T63 ns x17).f0.toNat (.bool true) (uarr_set hi (by rw [HI.1]) HR.1.1 HR.1.2)); rw [<- hw] at n0_ n1_ n2_; clear HB BK1 BKu BKn hcz_0 hcz_1 hcz_2 hfz_0 hfz_1 hfz_2 hcu hfu hw; have HB := n0_; have BK1 := n1_; have BKu := n2_; clear n0_ n1_ n2_))
   go_roundg k1
   case measure => exact Nat.lt_succ_self _
   case rel =>
    refine ⟨(wrap64 (x17 + 1)), i + 1, RG, ⟨?_⟩, ⟨by have := HK.1; omega⟩, ⟨by omega⟩, BK1, BKu, HB⟩
    have := HI.1
    unfold wrap64; omega
 have c8 : decide (x17 < (ns.length : Int)) = false := decide_eq_false (by have := HI.1; omega)
 have ei : i = ns.length := by omega
 rw [ei] at BKu
 have eu : uarr ns ns.length = #[.bool (ns.any fun x => x.f0 == 0), .bool (ns.any fun x => x.f0 == 1), .bool (ns.any fun x => x.f0 == 2), .bool (ns.any fun x => x.f0 == 3)] := by simp [uarr, ufl]
 rw [eu] at BKu
 clear eu ei hi hin HI HK HL
 obtain ⟨b0, e0⟩ : ∃ b, (ns.any fun x => x.f0 == 0) = b := ⟨_, rfl⟩
 obtain ⟨b1, e1⟩ : ∃ b, (ns.any fun x => x.f0 == 1) = b := ⟨_, rfl⟩
 obtain ⟨b2, e2⟩ : ∃ b, (ns.any fun x => x.f0 == 2) = b := ⟨_, rfl⟩
 obtain ⟨b3, e3⟩ : ∃ b, (ns.any fun x => x.f0 == 3) = b := ⟨_, rfl⟩
 rw [e0, e1, e2, e3] at BKu
 have HE := Aside0.mk (show ([0, 1, 2, 3] : List Int).filter (fun i => ns.any (fun x => x.f0 == i)) = uout b0 b1 b2 b3 4 by rw [<- e0, <- e1, <- e2, <- e3]; exact uout_all _)
 clear e0 e1 e2 e3
 obtain ⟨hca, hcb, hcc, hcd, hfa, hfb, hfc, hfd⟩ := ucz4 BKu.1
 go_wp2_with (first
  | ((with_reducible refine gate_dst (N := 25) rfl ?_); refine R_lit (Kd.int .i64) _ 3 ?hg (N := 25) ?hd (xs := ([] : List Int)) (inner := []) (ok := fun _ => True) (okp := fun _ => True) ?hr ?hp (fun _ hk => hk) trivial (Below.refl _ _) (Nat.le_refl _) (by simp) ?_; (case hd => rfl); (case hg => rfl); (case hr => first | (go_simp; done) | (go_simp; rfl)); (case hp => exact (Reps.none _ _)); intro v8 w8 ho hb hg_ hnew_; clear hg_ hnew_; have n0_ := Aside0.mk (HB.1.trans (hb.mono HB.1.size)); have n1_ := Aside0.mk (blk_below BKu.1 hb); have OO := Aside0.mk (R_lower ho HB.1.size); clear HB BKu BK1 ho hb hca hcb hcc hcd hfa hfb hfc hfd; have HB := n0_; have BKu := n1_; clear n0_ n1_; obtain ⟨hca, hcb, hcc, hcd, hfa, hfb, hfc, hfd⟩ := ucz4 BKu.1))
 have hix0 : ∀ (a b c d : Bool) (w : World), (Instr.index 81 (.agg #[.bool a, .bool b, .bool c, .bool d]) (.int .i64 0)).run Try.prog w = .ok (.bool a) w := fun a b c d w => by kernel_rfl
 have hix1 : ∀ (a b c d : Bool) (w : World), (Instr.index 81 (.agg #[.bool a, .bool b, .bool c, .bool d]) (.int .i64 1)).run Try.prog w = .ok (.bool b) w := fun a b c d w => by kernel_rfl
 have hix2 : ∀ (a b c d : Bool) (w : World), (Instr.index 81 (.agg #[.bool a, .bool b, .bool c, .bool d]) (.int .i64 2)).run Try.prog w = .ok (.bool c) w := fun a b c d w => by kernel_rfl
 have hix3 : ∀ (a b c d : Bool) (w : World), (Instr.index 81 (.agg #[.bool a, .bool b, .bool c, .bool d]) (.int .i64 3)).run Try.prog w = .ok (.bool d) w := fun a b c d w => by kernel_rfl
 go_loopg [7, 27] 5 (fun kq v7 v27 w' => ∃ (x27 : Int) (i : Nat), v27 = .int .i64 x27 /\ Aside0 (x27 = (i : Int)) /\ Aside0 (kq + i = 5) /\ Aside0 (i <= 4) /\ Aside0 (Kd.R (Kd.int .i64) 3 w' w.heap.size (fun _ => True) v7 (uout b0 b1 b2 b3 i)) /\ Aside0 (Below w.heap.size w w'))
 case atStart => exact ⟨0, 0, rfl, ⟨rfl⟩, ⟨rfl⟩, ⟨Nat.zero_le _⟩, OO, HB⟩
 clear hca hcb hcc hcd hfa hfb hfc hfd OO BKu HB
 obtain ⟨x27, i, rfl, HI, HK, HL, OO, HB⟩ := hrel
 cases gk with
 | zero => have := HK.1; have := HL.1; omega
 | succ k1 => ?_
 obtain ⟨Ao, co, eo⟩ := R_slice OO.1
 subst eo
 rcases (show i = 0 ∨ i = 1 ∨ i = 2 ∨ i = 3 ∨ i = 4 by have := HL.1; omega) with rfl | rfl | rfl | rfl | rfl
 · obtain rfl : x27 = 0 := by have := HI.1; omega
   cases b0 with
   | false =>
    have eq_ := uout_no0 b1 b2 b3
    go_wp2
    go_roundg k1
    case measure => exact Nat.lt_succ_self _
    case rel => exact ⟨_, 1, rfl, ⟨by decide⟩, ⟨by have := HK.1; omega⟩, ⟨by decide⟩, ⟨eq_ ▸ OO.1⟩, HB⟩
   | true =>
    have HQ := Aside0.mk (uout_yes0 b1 b2 b3)
    have HN := Aside0.mk (uout_len true b1 b2 b3 0)
    go_wp2_with (first
     | ((with_reducible refine gate_builtin (b := .append) (xs := #[.tmp 32, .tmp 34]) rfl ?_); at_builtin; refine R_append (Kd.int .i64) (w0 := w) w.heap.size rfl (.tmp 32) (.tmp 34) 35 3 (.int .i64 0) 8 rfl Try.underlying35 info3 rfl (by decide) (by omega) (.slice Ao (uout true b1 b2 b3 0).length co) (uout true b1 b2 b3 0) 0 [.int .i64 0] (fun _ => True) (fun _ => False) rfl rfl rfl (fun _ hk => hk.elim) (fun _ _ => trivial) OO.1 HB.1 HB.1.size (by have := HN.1; omega) ?_; intro v9 w9 ho hb hg hat; rw [HQ.1] at ho; clear HB OO; have HB := Aside0.mk hb; have OO := Aside0.mk ho; clear ho hb hg hat))
    go_roundg k1
    case measure => exact Nat.lt_succ_self _
    case rel => exact ⟨_, 1, rfl, ⟨by decide⟩, ⟨by have := HK.1; omega⟩, ⟨by decide⟩, OO, HB⟩
 · obtain rfl : x27 = 1 := by have := HI.1; omega
   cases b1 with
   | false =>
    have eq_ := uout_no1 b0 b2 b3
    go_wp2
    go_roundg k1
    case measure => exact Nat.lt_succ_self _
    case rel => exact ⟨_, 2, rfl, ⟨by decide⟩, ⟨by have := HK.1; omega⟩, ⟨by decide⟩, ⟨eq_ ▸ OO.1⟩, HB⟩
   | true =>
    have HQ := Aside0.mk (uout_yes1 b0 b2 b3)
    have HN := Aside0.mk (uout_len b0 true b2 b3 1)
    go_wp2_with (first
     | ((with_reducible refine gate_builtin (b := .append) (xs := #[.tmp 32, .tmp 34]) rfl ?_); at_builtin; refine R_append (Kd.int .i64) (w0 := w) w.heap.size rfl (.tmp 32) (.tmp 34) 35 3 (.int .i64 0) 8 rfl Try.underlying35 info3 rfl (by decide) (by omega) (.slice Ao (uout b0 true b2 b3 1).length co) (uout b0 true b2 b3 1) 1 [.int .i64 1] (fun _ => True) (fun _ => False) rfl rfl rfl (fun _ hk => hk.elim) (fun _ _ => trivial) OO.1 HB.1 HB.1.size (by have := HN.1; omega) ?_; intro v9 w9 ho hb hg hat; rw [HQ.1] at ho; clear HB OO; have HB := Aside0.mk hb; have OO := Aside0.mk ho; clear ho hb hg hat))
    go_roundg k1
    case measure => exact Nat.lt_succ_self _
    case rel => exact ⟨_, 2, rfl, ⟨by decide⟩, ⟨by have := HK.1; omega⟩, ⟨by decide⟩, OO, HB⟩
 · obtain rfl : x27 = 2 := by have := HI.1; omega
   cases b2 with
   | false =>
    have eq_ := uout_no2 b0 b1 b3
    go_wp2
    go_roundg k1
    case measure => exact Nat.lt_succ_self _
    case rel => exact ⟨_, 3, rfl, ⟨by decide⟩, ⟨by have := HK.1; omega⟩, ⟨by decide⟩, ⟨eq_ ▸ OO.1⟩, HB⟩
   | true =>
    have HQ := Aside0.mk (uout_yes2 b0 b1 b3)
    have HN := Aside0.mk (uout_len b0 b1 true b3 2)
    go_wp2_with (first
     | ((with_reducible refine gate_builtin (b := .append) (xs := #[.tmp 32, .tmp 34]) rfl ?_); at_builtin; refine R_append (Kd.int .i64) (w0 := w) w.heap.size rfl (.tmp 32) (.tmp 34) 35 3 (.int .i64 0) 8 rfl Try.underlying35 info3 rfl (by decide) (by omega) (.slice Ao (uout b0 b1 true b3 2).length co) (uout b0 b1 true b3 2) 2 [.int .i64 2] (fun _ => True) (fun _ => False) rfl rfl rfl (fun _ hk => hk.elim) (fun _ _ => trivial) OO.1 HB.1 HB.1.size (by have := HN.1; omega) ?_; intro v9 w9 ho hb hg hat; rw [HQ.1] at ho; clear HB OO; have HB := Aside0.mk hb; have OO := Aside0.mk ho; clear ho hb hg hat))
    go_roundg k1
    case measure => exact Nat.lt_succ_self _
    case rel => exact ⟨_, 3, rfl, ⟨by decide⟩, ⟨by have := HK.1; omega⟩, ⟨by decide⟩, OO, HB⟩
 · obtain rfl : x27 = 3 := by have := HI.1; omega
   cases b3 with
   | false =>
    have eq_ := uout_no3 b0 b1 b2
    go_wp2
    go_roundg k1
    case measure => exact Nat.lt_succ_self _
    case rel => exact ⟨_, 4, rfl, ⟨by decide⟩, ⟨by have := HK.1; omega⟩, ⟨by decide⟩, ⟨eq_ ▸ OO.1⟩, HB⟩
   | true =>
    have HQ := Aside0.mk (uout_yes3 b0 b1 b2)
    have HN := Aside0.mk (uout_len b0 b1 b2 true 3)
    go_wp2_with (first
     | ((with_reducible refine gate_builtin (b := .append) (xs := #[.tmp 32, .tmp 34]) rfl ?_); at_builtin; refine R_append (Kd.int .i64) (w0 := w) w.heap.size rfl (.tmp 32) (.tmp 34) 35 3 (.int .i64 0) 8 rfl Try.underlying35 info3 rfl (by decide) (by omega) (.slice Ao (uout b0 b1 b2 true 3).length co) (uout b0 b1 b2 true 3) 3 [.int .i64 3] (fun _ => True) (fun _ => False) rfl rfl rfl (fun _ hk => hk.elim) (fun _ _ => trivial) OO.1 HB.1 HB.1.size (by have := HN.1; omega) ?_; intro v9 w9 ho hb hg hat; rw [HQ.1] at ho; clear HB OO; have HB := Aside0.mk hb; have OO := Aside0.mk ho; clear ho hb hg hat))
    go_roundg k1
    case measure => exact Nat.lt_succ_self _
    case rel => exact ⟨_, 4, rfl, ⟨by decide⟩, ⟨by have := HK.1; omega⟩, ⟨by decide⟩, OO, HB⟩
 · obtain rfl : x27 = 4 := by have := HI.1; omega
   go_wp2
   go_ret2
   exact ⟨_, rfl, by rw [HE.1]; exact OO.1, HB.1⟩
theorem used_no (k : Nat) (xn root : Int) (A : Option Addr) (c : Nat) (ns : List S63) (w : World) (hC : Kd.C k63 w A ns.length ns) (hc : ns.length <= c) (hA : impl_IsDiagram.f k xn ns root = some false) :
 Calls Try.prog 38 #[.agg #[.int .i64 xn, .slice A ns.length c, .int .i64 root]] w fun e w' => ∃ v0_ : Value, e = .returned (.tuple #[v0_, .bool false]) /\ Kd.R (Kd.int .i64) 3 w' w.heap.size (fun _ => True) v0_ [] /\ Below w.heap.size w w' := by
 have hu29 := Try.underlying29
 have HC := Aside0.mk hC
 have HCC := Aside0.mk hc
 have HA := Aside0.mk hA
 clear hC hc hA
 have HB := Aside0.mk (Below.refl w.heap.size w)
 go_enter Try.func38, Try.ntmps38
 go_wp2_with (first
  | ((with_reducible refine gate_dst (N := 1) rfl ?_); refine boxE (cs := #[.int .i64 xn, .slice A ns.length c, .int .i64 root]) (t := 29) ?_; intro gd hg w4 hbox hb; have n0_ := Aside0.mk (HB.1.trans (hb.mono HB.1.size)); have BK1 := Aside0.mk hbox; clear HB; have HB := n0_; clear n0_ hbox hg hb; obtain ⟨hcz1_0, hcz1_1, hcz1_2, hfz1_0, hfz1_1, hfz1_2⟩ := cz3 BK1.1)
  | ((with_reducible refine gate_callee (f := 15) rfl ?_); refine goesM (N := some 11) #[.agg #[.int .i64 xn, .slice A ns.length c, .int .i64 root]] Try.func15 ?_; refine (impl_IsDiagram.calls k xn _ _ ns root false _ (CB (C_below HC.1 HB.1)) HCC.1 HA.1).mono ?_; rintro e w5 ⟨rfl, hb⟩; refine ⟨_, rfl, ?_⟩; have n0_ := Aside0.mk (HB.1.trans (hb.mono HB.1.size)); clear HB BK1 hcz1_0 hcz1_1 hcz1_2 hfz1_0 hfz1_1 hfz1_2; have HB := n0_; clear n0_ hb))
 go_ret2
 exact ⟨_, rfl, R_nil _ _ _ _ _, HB.1⟩
theorem impl_InputsUsed.calls (k : Nat) (a0_0 : Int) (A0_1 : Option Addr) (c0_1 : Nat) (l0_1 : List (S63)) (a0_2 : Int) (r1 : List Int) (r2 : Bool) (w : World) (hr0_1 : Kd.C k63 w A0_1 l0_1.length l0_1) (hc0_1 : l0_1.length <= c0_1) (h : impl_InputsUsed.f k a0_0 l0_1 a0_2 = some (r1, r2)) :
 Calls Try.prog 38 #[.agg #[.int .i64 a0_0, .slice A0_1 l0_1.length c0_1, .int .i64 a0_2]] w fun e w' => ∃ v0_ : Value, e = .returned (.tuple #[v0_, .bool r2]) /\ Kd.R (Kd.int .i64) 3 w' w.heap.size (fun _ => True) v0_ r1 /\ Below w.heap.size w w' := by
 unfold impl_InputsUsed.f at h
 obtain ⟨t, hA, h⟩ := Option.bind_eq_some_iff.mp h
 cases t with
 | true =>
  rw [if_pos rfl] at h
  obtain ⟨⟨h1, h2⟩, h⟩ := ifP h
  cases h
  exact used_calls k a0_0 a0_2 A0_1 c0_1 l0_1 w hr0_1 hc0_1 hA h1 h2
 | false =>
  rw [if_neg (by decide)] at h
  cases h
  exact used_no k a0_0 a0_2 A0_1 c0_1 l0_1 w hr0_1 hc0_1 hA

/-! ### laws_FnExactInputsUsed: function 9 -/
open Kd
mutual
def laws_FnExactInputsUsed.j0 : Nat -> List Int -> Bool -> List Int -> Bool -> Bool -> Int -> List (S86) -> Int -> Int -> List (S63) -> Int -> Option (Bool)
 | 0, _, _, _, _, _, _, _, _, _, _, _ => none
 | k + 1, x4, x5, x7, x8, x40, x596000, x596001, x596002, x612000, x612001, x612002 => if x40 = true then (some false) else ((laws_toDiagram.f k x596000 x596001 x596002).bind fun bt617 => ((laws_eqDiagram.f k x612000 x612001 x612002 bt617.1 bt617.2.1 bt617.2.2).bind fun t622 => (if t622 = true then ((laws_markDiagram.f k x612000 x612001 x612002 1).bind fun bt623 => (if bt623.1 < 0 then (laws_FnExactInputsUsed.j1 k x4 x5 x7 true x596000 x596001 x596002) else ((laws_eqIntS.f k x7 x4).bind fun t625 => (if t625 = true then (laws_FnExactInputsUsed.j1 k x4 x5 x7 (x8 != x5) x596000 x596001 x596002) else (laws_FnExactInputsUsed.j1 k x4 x5 x7 true x596000 x596001 x596002))))) else (some false))))
def laws_FnExactInputsUsed.j1 : Nat -> List Int -> Bool -> List Int -> Bool -> Int -> List (S86) -> Int -> Option (Bool)
 | 0, _, _, _, _, _, _, _ => none
 | k + 1, x4, x5, x7, x61, x596000, x596001, x596002 => if x61 = true then (some false) else ((laws_markIntS.f k x7 1).bind fun bt626 => ((laws_heldIntS.f k bt626.2 1).bind fun t628 => (if t628 < 0 then (some false) else (if t628 = bt626.1 then ((laws_toDiagram.f k x596000 x596001 x596002).bind fun bt629 => ((impl_InputsUsed.f k bt629.1 bt629.2.1 bt629.2.2).bind fun bt634 => ((laws_eqIntS.f k bt634.1 x4).bind fun t638 => (if t638 = true then (laws_FnExactInputsUsed.j2 k bt626.2 bt626.1 (bt634.2 != x5)) else (laws_FnExactInputsUsed.j2 k bt626.2 bt626.1 true))))) else (some false)))))
def laws_FnExactInputsUsed.j2 : Nat -> List Int -> Int -> Bool -> Option (Bool)
 | 0, _, _, _ => none
 | k + 1, x7, x10, x87 => if x87 = true then (some false) else ((laws_heldIntS.f k x7 1).bind fun t639 => (if t639 < 0 then (some false) else (if t639 = x10 then (some true) else (some false))))
end
def laws_FnExactInputsUsed.f (k : Nat) (a0_0 : Int) (l0_1 : List (S86)) (a0_2 : Int) : Option (Bool) := (laws_szDiagram.f a0_0 l0_1 a0_2 1048576).bind fun t596 => (if t596 < 0 then (some true) else ((laws_toDiagram.f k a0_0 l0_1 a0_2).bind fun bt597 => ((spec_InputsUsed.f k bt597.1 bt597.2.1 bt597.2.2).bind fun bt602 => ((laws_toDiagram.f k a0_0 l0_1 a0_2).bind fun bt606 => ((impl_InputsUsed.f k bt606.1 bt606.2.1 bt606.2.2).bind fun bt612 => ((laws_eqIntS.f k bt612.1 bt602.1).bind fun t616 => (if t616 = true then (laws_FnExactInputsUsed.j0 k bt602.1 bt602.2 bt612.1 bt612.2 (bt612.2 != bt602.2) a0_0 l0_1 a0_2 bt606.1 bt606.2.1 bt606.2.2) else (laws_FnExactInputsUsed.j0 k bt602.1 bt602.2 bt612.1 bt612.2 true a0_0 l0_1 a0_2 bt606.1 bt606.2.1 bt606.2.2))))))))
theorem laws_FnExactInputsUsed.mono_l : ∀ k, (∀ y0 y1 y2 y3 y4 y5 y6 y7 y8 y9 y10, LeO (laws_FnExactInputsUsed.j0 k y0 y1 y2 y3 y4 y5 y6 y7 y8 y9 y10) (laws_FnExactInputsUsed.j0 (k + 1) y0 y1 y2 y3 y4 y5 y6 y7 y8 y9 y10)) /\ (∀ y0 y1 y2 y3 y4 y5 y6, LeO (laws_FnExactInputsUsed.j1 k y0 y1 y2 y3 y4 y5 y6) (laws_FnExactInputsUsed.j1 (k + 1) y0 y1 y2 y3 y4 y5 y6)) /\ (∀ y0 y1 y2, LeO (laws_FnExactInputsUsed.j2 k y0 y1 y2) (laws_FnExactInputsUsed.j2 (k + 1) y0 y1 y2))
 | 0 => by refine ⟨?_, ?_, ?_⟩ <;> (intros; intro r h; first | (simp [laws_FnExactInputsUsed.j0] at h; done) | (simp [laws_FnExactInputsUsed.j1] at h; done) | (simp [laws_FnExactInputsUsed.j2] at h; done))
 | k + 1 => by
  obtain ⟨ih0, ih1, ih2⟩ := laws_FnExactInputsUsed.mono_l k
  refine ⟨?_, ?_, ?_⟩ <;> (
   intros
   first | unfold laws_FnExactInputsUsed.j0 | unfold laws_FnExactInputsUsed.j1 | unfold laws_FnExactInputsUsed.j2
   repeat' first | (with_reducible first | apply ih0 | apply ih1 | apply ih2 | apply impl_InputsUsed.mono | apply laws_eqDiagram.mono | apply laws_eqIntS.mono | apply laws_heldIntS.mono | apply laws_markDiagram.mono | apply laws_markIntS.mono | apply laws_toDiagram.mono | apply spec_InputsUsed.mono | exact LeO.refl _ | exact LeO.none _ | refine LeO.ite ?_ ?_ | refine LeO.bind ?_ (fun _ => ?_)) | exact LeO.none _ | refine LeO.ite ?_ ?_ | refine LeO.bind ?_ (fun _ => ?_))
theorem laws_FnExactInputsUsed.mono : ∀ a0 a1 a2 k, LeO (laws_FnExactInputsUsed.f k a0 a1 a2) (laws_FnExactInputsUsed.f (k + 1) a0 a1 a2) := by
 intro a0 a1 a2 k
 obtain ⟨ih0, ih1, ih2⟩ := laws_FnExactInputsUsed.mono_l k
 unfold laws_FnExactInputsUsed.f
 repeat' first | (with_reducible first | apply ih0 | apply ih1 | apply ih2 | apply impl_InputsUsed.mono | apply laws_eqDiagram.mono | apply laws_eqIntS.mono | apply laws_heldIntS.mono | apply laws_markDiagram.mono | apply laws_markIntS.mono | apply laws_toDiagram.mono | apply spec_InputsUsed.mono | exact LeO.refl _ | exact LeO.none _ | refine LeO.ite ?_ ?_ | refine LeO.bind ?_ (fun _ => ?_)) | exact LeO.none _ | refine LeO.ite ?_ ?_ | refine LeO.bind ?_ (fun _ => ?_)
theorem laws_FnExactInputsUsed.calls (k : Nat) (a0_0 : Int) (A0_1 : Option Addr) (c0_1 : Nat) (l0_1 : List (S86)) (a0_2 : Int) (w : World) (hr0_1 : Kd.C k86 w A0_1 l0_1.length l0_1) (hc0_1 : l0_1.length <= c0_1) (h : laws_FnExactInputsUsed.f k a0_0 l0_1 a0_2 = some true) :
 Calls Try.prog 9 #[.agg #[.int .i64 a0_0, .slice A0_1 l0_1.length c0_1, .int .i64 a0_2]] w fun e w' => e = .returned (.bool true) /\ Below w.heap.size w w' := by
 have hu24 := Try.underlying24
 have hu29 := Try.underlying29
 have HR0_1 := Aside0.mk hr0_1
 have HC0_1 := Aside0.mk hc0_1
 clear hr0_1 hc0_1
 have HB := Aside0.mk (Below.refl w.heap.size w)
 have H := h
 clear h
 unfold laws_FnExactInputsUsed.f at H
 replace H := bindA H; obtain ⟨t596, A2, H⟩ := H
 replace H := ifB H; rcases H with ⟨c3b0, H⟩ | ⟨c3b0, H⟩
 · first | (obtain rfl := Option.some.inj H) | clear H
   go_enter Try.func9, Try.ntmps9
   go_wp2_with (first | ((with_reducible refine gate_dst (N := 1) rfl ?_); refine boxE (cs := #[.int .i64 a0_0, .slice A0_1 l0_1.length c0_1, .int .i64 a0_2]) (t := 24) ?_; intro gb595 hg w4 hbox hb; refine E4b HB.1 hg hbox hb ?_; clear HB; intro HB BK595 GW595 GE595; clear hb hbox hg; obtain ⟨hcz5_0, hcz5_1, hcz5_2, hfz5_0, hfz5_1, hfz5_2⟩ := cz3 BK595.1) | ((with_reducible refine gate_callee (f := 12) rfl ?_); refine goesM (N := (some 16)) #[.agg #[.int .i64 a0_0, .slice A0_1 l0_1.length c0_1, .int .i64 a0_2], .int .i64 1048576] Try.func12 ?_; (with_reducible refine (laws_szDiagram.calls a0_0 _ _ l0_1 a0_2 1048576 t596 _ ?side1 ?side2 A2.1).mono ?_); (case side1 => exact CB (C_below HR0_1.1 HB.1)); (case side2 => exact HC0_1.1); rintro e w6 ⟨rfl, hb⟩; refine ⟨_, rfl, ?_⟩; refine E2 (bB BK595.1 hb) (bS HB.1 hb) ?_; clear BK595 HB; intro BK595 HB; (try clear hb)))
   go_ret
   exact ⟨RF, BL HB.1⟩
 replace H := bindA H; obtain ⟨⟨t597, t598, t601⟩, A7, H⟩ := H
 dsimp only at H
 replace H := bindA H; obtain ⟨⟨t602, t605⟩, A8, H⟩ := H
 dsimp only at H
 replace H := bindA H; obtain ⟨⟨t606, t607, t610⟩, A9, H⟩ := H
 dsimp only at H
 replace H := bindA H; obtain ⟨⟨t612, t615⟩, A10, H⟩ := H
 dsimp only at H
 have HC11 := Aside0.mk H
 clear H
 go_enter Try.func9, Try.ntmps9
 go_upto_region 8 with (first | ((with_reducible refine gate_dst (N := 1) rfl ?_); refine boxE (cs := #[.int .i64 a0_0, .slice A0_1 l0_1.length c0_1, .int .i64 a0_2]) (t := 24) ?_; intro gb595 hg w12 hbox hb; refine E4b HB.1 hg hbox hb ?_; clear HB; intro HB BK595 GW595 GE595; clear hb hbox hg; obtain ⟨hcz13_0, hcz13_1, hcz13_2, hfz13_0, hfz13_1, hfz13_2⟩ := cz3 BK595.1) | ((with_reducible refine gate_callee (f := 12) rfl ?_); refine goesM (N := (some 16)) #[.agg #[.int .i64 a0_0, .slice A0_1 l0_1.length c0_1, .int .i64 a0_2], .int .i64 1048576] Try.func12 ?_; (with_reducible refine (laws_szDiagram.calls a0_0 _ _ l0_1 a0_2 1048576 t596 _ ?side1 ?side2 A2.1).mono ?_); (case side1 => exact CB (C_below HR0_1.1 HB.1)); (case side2 => exact HC0_1.1); rintro e w14 ⟨rfl, hb⟩; refine ⟨_, rfl, ?_⟩; refine E2 (bB BK595.1 hb) (bS HB.1 hb) ?_; clear BK595 HB; intro BK595 HB; (try clear hb); obtain ⟨hcz15_0, hcz15_1, hcz15_2, hfz15_0, hfz15_1, hfz15_2⟩ := cz3 BK595.1) | ((with_reducible refine gate_callee (f := 14) rfl ?_); refine goesM (N := (some 21)) #[.agg #[.int .i64 a0_0, .slice A0_1 l0_1.length c0_1, .int .i64 a0_2]] Try.func14 ?_; (with_reducible refine (laws_toDiagram.calls k a0_0 _ _ l0_1 a0_2 t597 t598 t601 _ ?side1 ?side2 A7.1).mono ?_); (case side1 => exact CB (C_below HR0_1.1 HB.1)); (case side2 => exact HC0_1.1); rintro e w16 ⟨v599, rfl, ho0, hb⟩; refine ⟨_, rfl, ?_⟩; refine E3 (R_lower ho0 (bZ HB.1)) (bB BK595.1 hb) (bS HB.1 hb) ?_; clear BK595 HB; intro HO600 BK595 HB; (try clear hb); (try clear ho0); obtain ⟨Ao17, co17, eo17⟩ := R_slice HO600.1; subst eo17) | ((with_reducible refine gate_callee (f := 37) rfl ?_); refine goesM (N := (some 22)) #[.agg #[.int .i64 t597, .slice Ao17 t598.length co17, .int .i64 t601]] Try.func37 ?_; (with_reducible refine (spec_InputsUsed.calls k t597 _ _ t598 t601 t602 t605 _ ?side1 ?side2 A8.1).mono ?_); (case side1 => exact CB (R_reads' HO600.1).2.2); (case side2 => exact (R_reads' HO600.1).2.1); rintro e w18 ⟨v603, rfl, ho0, hb⟩; refine ⟨_, rfl, ?_⟩; refine E4 (rB HO600.1 hb) (R_lower ho0 (bZ HB.1)) (bB BK595.1 hb) (bS HB.1 hb) ?_; clear HO600 BK595 HB; intro HO600 HO604 BK595 HB; (try clear hb); (try clear ho0); obtain ⟨hcz19_0, hcz19_1, hcz19_2, hfz19_0, hfz19_1, hfz19_2⟩ := cz3 BK595.1) | ((with_reducible refine gate_callee (f := 14) rfl ?_); refine goesM (N := (some 26)) #[.agg #[.int .i64 a0_0, .slice A0_1 l0_1.length c0_1, .int .i64 a0_2]] Try.func14 ?_; (with_reducible refine (laws_toDiagram.calls k a0_0 _ _ l0_1 a0_2 t606 t607 t610 _ ?side1 ?side2 A9.1).mono ?_); (case side1 => exact CB (C_below HR0_1.1 HB.1)); (case side2 => exact HC0_1.1); rintro e w20 ⟨v608, rfl, ho0, hb⟩; refine ⟨_, rfl, ?_⟩; refine E5 (R_elder' (PR HO600.1) (R_base ho0) hb) (rB HO604.1 hb) (R_lower (R_new' ho0 (R_lt (PR HO600.1))) (bZ HB.1)) (bB BK595.1 hb) (bS HB.1 hb) ?_; clear HO600 HO604 BK595 HB; intro HO600 HO604 HO609 BK595 HB; (try clear hb); (try clear ho0)) | ((with_reducible refine gate_dst (N := 6) rfl ?_); refine boxE (cs := #[.int .i64 0, .slice none 0 0, .int .i64 0]) (t := 29) ?_; intro gb611 hg w21 hbox hb; refine E10 (rB HO600.1 hb) (rB HO604.1 hb) (rB HO609.1 hb) (bB BK595.1 hb) (bS HB.1 hb) (hbox) (gX HB.1 hg) (gX HB.1 hg) (nB BK595.1 hg) (nC BK595.1 hg) ?_; clear HO600 HO604 HO609 BK595 HB; intro HO600 HO604 HO609 BK595 HB BK611 GW611 GE611 NB595_611 NB611_595; clear hb hbox hg; have hnb22 := NB611_595.1; have hnc22 := NB595_611.1; obtain ⟨hcz23_0, hcz23_1, hcz23_2, hfz23_0, hfz23_1, hfz23_2⟩ := cz3 BK611.1; obtain ⟨Ao24, co24, eo24⟩ := R_slice HO609.1; subst eo24) | ((with_reducible refine gate_callee (f := 38) rfl ?_); refine goesM (N := (some 29)) #[.agg #[.int .i64 t606, .slice Ao24 t607.length co24, .int .i64 t610]] Try.func38 ?_; (with_reducible refine (impl_InputsUsed.calls k t606 _ _ t607 t610 t612 t615 _ ?side1 ?side2 A10.1).mono ?_); (case side1 => refine (R_reads' (e := 63) (base := w.heap.size) (ok := fun k_ => (True /\ some k_ ≠ (.slice Ao17 t598.length co17 : Value).ownBlock)) (n := t607.length) (c := co24) ?_).2.2; exact (by (with_reducible repeat (first | apply R_alloc | apply R_drewN | apply R_drew)); exact (R_mono (RQ gb611 2 (RQ gb611 1 (RQ gb611 0 (R_types HO609.1 BK611.1 (by decide)) _) _) _) (fun _ h_ => h_.1)))); (case side2 => exact (R_reads' HO609.1).2.1); rintro e w25 ⟨v613, rfl, ho0, hb⟩; refine ⟨_, rfl, ?_⟩; refine E7 (R_below (by (with_reducible repeat (first | apply R_alloc | apply R_drewN | apply R_drew)); exact (R_mono (RQ gb611 2 (RQ gb611 1 (RQ gb611 0 (R_types HO600.1 BK611.1 (by decide)) _) _) _) (fun _ h_ => h_.1))) hb) (R_elder' (by (with_reducible repeat (first | apply R_alloc | apply R_drewN | apply R_drew)); exact (R_mono (RQ gb611 2 (RQ gb611 1 (RQ gb611 0 (R_types HO604.1 BK611.1 (by decide)) _) _) _) (fun _ h_ => h_.1))) (R_base ho0) hb) (R_below (by (with_reducible repeat (first | apply R_alloc | apply R_drewN | apply R_drew)); exact (R_mono (RQ gb611 2 (RQ gb611 1 (RQ gb611 0 (R_types HO609.1 BK611.1 (by decide)) _) _) _) (fun _ h_ => h_.1))) hb) (R_lower (R_new' ho0 (R_lt (by (with_reducible repeat (first | apply R_alloc | apply R_drewN | apply R_drew)); exact (R_mono (RQ gb611 2 (RQ gb611 1 (RQ gb611 0 (R_types HO604.1 BK611.1 (by decide)) _) _) _) (fun _ h_ => h_.1))))) (bZ HB.1)) (blk_below (g := gb595) (o := .cells #[.int .i64 a0_0, .slice A0_1 l0_1.length c0_1, .int .i64 a0_2] 24 (0, 0)) (PF1 NB595_611.1 BK595.1) hb) (blk_below (g := gb611) (o := .cells #[.int .i64 t606, .slice Ao24 t607.length co24, .int .i64 t610] 29 (0, 0)) (PF0 BK611.1) hb) (bS HB.1 hb) ?_; clear HO600 HO604 HO609 BK595 BK611 HB; intro HO600 HO604 HO609 HO614 BK595 BK611 HB; (try clear hb); (try clear ho0)))
 (try simp only [Act.put, List.setIfInBounds_toArray, List.set_cons_zero, List.set_cons_succ])
 go_cut [40] (fun v40 wc => ∃ (kq : Nat) (x40_10 : Bool), v40 = .bool x40_10 /\ Aside0 (laws_FnExactInputsUsed.j0 kq t602 t605 t612 t615 x40_10 a0_0 l0_1 a0_2 t606 t607 t610 = some true) /\ Aside0 (kq <= k) /\ Aside0 (Kd.R (Kd.int .i64) 3 wc w.heap.size (fun k_ => some k_ ≠ (v613 : Value).ownBlock) v603 t602) /\ Aside0 (Kd.R (Kd.int .i64) 3 wc w.heap.size (fun k_ => some k_ ≠ (v603 : Value).ownBlock) v613 t612) /\ Aside0 (Kd.R k63 63 wc w.heap.size (fun _ => True) (.slice Ao24 t607.length co24) t607) /\ Aside0 (wc.heap[gb595]? = some (.cells #[.int .i64 a0_0, (.slice A0_1 l0_1.length c0_1), .int .i64 a0_2] 24 (0, 0))) /\ Aside0 (wc.heap[gb611]? = some (.cells #[.int .i64 t606, (.slice Ao24 t607.length co24), .int .i64 t610] 29 (0, 0))) /\ Aside0 (Below w.heap.size w wc))
 case first =>
  have H := HC11.1
  clear HC11
  replace H := bindA H; obtain ⟨t616, A26, H⟩ := H
  replace H := ifT H (by cases k <;> simp [laws_FnExactInputsUsed.j0]); obtain ⟨rfl, H⟩ := H
  have H' := Aside0.mk H
  clear H
  obtain ⟨Ao28, co28, eo28⟩ := R_slice HO614.1
  subst eo28
  obtain ⟨Ao29, co29, eo29⟩ := R_slice HO604.1
  subst eo29
  go_wp2_with (first | ((with_reducible refine gate_callee (f := 31) rfl ?_); refine goesM (N := (some 34)) #[.slice Ao28 t612.length co28, .slice Ao29 t602.length co29] Try.func31 ?_; (with_reducible refine (laws_eqIntS.calls k _ _ t612 _ _ t602 true _ ?side1 ?side2 ?side3 ?side4 A26.1).mono ?_); (case side1 => exact CB (R_reads' HO614.1).2.2); (case side2 => exact (R_reads' HO614.1).2.1); (case side3 => exact CB (R_reads' HO604.1).2.2); (case side4 => exact (R_reads' HO604.1).2.1); rintro e w' ⟨rfl, ⟨nd, rfl⟩⟩; refine ⟨_, rfl, ?_⟩))
  go_meet
  case rel => exact ⟨_, ((t615 != t605)), RG, H', ⟨by first | omega | exact Nat.le_refl _⟩, ⟨RPE (R_mono HO604.1 (fun _ hk => hk.2))⟩, ⟨RPE (R_mono HO614.1 (fun _ hk => hk.2))⟩, ⟨RPE (R_mono HO609.1 (fun _ hk => trivial))⟩, ⟨PB BK595.1⟩, ⟨PB BK611.1⟩, ⟨BL HB.1⟩⟩
 clear HC11
 clear c3b0 hcz13_0 hcz13_1 hcz13_2 hcz15_0 hcz15_1 hcz15_2 hcz19_0 hcz19_1 hcz19_2 hcz23_0 hcz23_1 hcz23_2 hfz13_0 hfz13_1 hfz13_2 hfz15_0 hfz15_1 hfz15_2 hfz19_0 hfz19_1 hfz19_2 hfz23_0 hfz23_1 hfz23_2
 obtain ⟨kq, x40_10, rfl, HA, HJ10, HO_4, HO_7, HO_612001, BK595, BK611, HB⟩ := hcut
 cases kq with
 | zero => exact absurd HA.1 (by simp [laws_FnExactInputsUsed.j0])
 | succ kj10 => ?_
 have H := HA.1
 clear HA
 simp only [laws_FnExactInputsUsed.j0] at H
 replace H := ifF H (by simp); obtain ⟨rfl, H⟩ := H
 replace H := bindA H; obtain ⟨⟨t617, t618, t621⟩, A33, H⟩ := H
 dsimp only at H
 replace H := bindA H; obtain ⟨t622, A34, H⟩ := H
 replace H := ifT H (by simp); obtain ⟨rfl, H⟩ := H
 replace H := bindA H; obtain ⟨⟨t623, t624⟩, A36, H⟩ := H
 dsimp only at H
 have HC37 := Aside0.mk H
 clear H
 try go_wp2
 refine E6 (R_drew HO_4.1) (R_drew HO_7.1) (R_drew HO_612001.1) (blk_drew BK595.1) (blk_drew BK611.1) (below_drew1 HB.1) ?_
 clear HO_4 HO_7 HO_612001 BK595 BK611 HB
 intro HO_4 HO_7 HO_612001 BK595 BK611 HB
 refine start_ (n := 5) (S := fun w' => w'.cell? ⟨gb611, 0, none⟩ = some (.int .i64 t606) /\ w'.cell? ⟨gb611, 1, none⟩ = some (.slice Ao24 t607.length co24) /\ w'.cell? ⟨gb611, 2, none⟩ = some (.int .i64 t610) /\ w'.cell? ⟨gb595, 0, none⟩ = some (.int .i64 a0_0) /\ w'.cell? ⟨gb595, 1, none⟩ = some (.slice A0_1 l0_1.length c0_1) /\ w'.cell? ⟨gb595, 2, none⟩ = some (.int .i64 a0_2)) (ds := []) #[Zz,Zz,Zz,Zz,Zz] (by kernel_rfl) rfl rfl ⟨(blk_cell BK611.1 0).trans rfl, (blk_cell BK611.1 1).trans rfl, (blk_cell BK611.1 2).trans rfl, (blk_cell BK595.1 0).trans rfl, (blk_cell BK595.1 1).trans rfl, (blk_cell BK595.1 2).trans rfl⟩ (fun hHeld => ?_)
 generalize wc.drew = w38 at HO_4 HO_7 HO_612001 BK595 BK611 HB hHeld ⊢
 refine takeF 0 (N := some 41) hHeld ?_
 refine takeF 1 (N := some 42) hHeld ?_
 refine one_ (i := 2) (N := some 43) #[Yy,Yy,Yy,Zz,Zz] rfl rfl (by kernel_rfl) (by decide) (fun K hK => ?_)
 refine goes_ Try.func14 (by kernel_rfl) rfl #[.agg #[.int .i64 a0_0, .slice A0_1 l0_1.length c0_1, .int .i64 a0_2]] (by rfl) rfl rfl (by (try simp only [List.map_toArray, List.map_cons, List.map_nil]); first | done | rfl | (simp only [List.length_drop, List.length_take]; rfl)) ?_
 with_reducible refine (laws_toDiagram.calls kj10 a0_0 _ _ l0_1 a0_2 t617 t618 t621 _ ?side1 ?side2 A33.1).mono ?_
 (case side1 => exact CB (C_below HR0_1.1 HB.1))
 (case side2 => exact HC0_1.1)
 rintro e w39 ⟨v619, rfl, ho0, hb⟩
 refine ⟨_, rfl, ?_⟩
 refine E7 (rB HO_4.1 hb) (rB HO_7.1 hb) (R_elder' (PR HO_612001.1) (R_base ho0) hb) (R_lower (R_new' ho0 (R_lt (PR HO_612001.1))) (bZ HB.1)) (bB BK595.1 hb) (bB BK611.1 hb) (bS HB.1 hb) ?_
 clear HO_4 HO_7 HO_612001 BK595 BK611 HB
 intro HO_4 HO_7 HO_612001 HO620 BK595 BK611 HB
 (try clear hb)
 (try clear hb2)
 (try clear hk)
 (try clear hi)
 (try clear ho0)
 obtain ⟨Ao40, co40, eo40⟩ := R_slice HO620.1
 (first | subst eo40 | (injection eo40 with f1_ f2_ f3_; have f4_ := f1_.symm; have f5_ := f3_.symm; clear f1_ f2_ f3_; subst f4_; subst f5_))
 refine hK.out _ _ ⟨(blk_cell BK611.1 0).trans rfl, (blk_cell BK611.1 1).trans rfl, (blk_cell BK611.1 2).trans rfl, (blk_cell BK595.1 0).trans rfl, (blk_cell BK595.1 1).trans rfl, (blk_cell BK595.1 2).trans rfl⟩ (fun hHeld => ?_)
 clear hK K
 refine norm_ (a' := ?_) ?_ ?_
 rotate_left
 · show Act.put _ (some 43) _ = _
   simp only [Act.put, List.setIfInBounds_toArray, List.set_cons_zero, List.set_cons_succ, i64_w, i32_w]
   rfl
 refine one_ (i := 3) (N := some 44) #[Yy,Yy,Yy,Yy,Zz] rfl rfl (by kernel_rfl) (by decide) (fun K hK => ?_)
 refine goes_ Try.func16 (by kernel_rfl) rfl #[.agg #[.int .i64 t606, .slice Ao24 t607.length co24, .int .i64 t610], .agg #[.int .i64 t617, .slice Ao40 t618.length co40, .int .i64 t621]] (by rfl) rfl rfl (by (try simp only [List.map_toArray, List.map_cons, List.map_nil]); first | done | rfl | (simp only [List.length_drop, List.length_take]; rfl)) ?_
 with_reducible refine (laws_eqDiagram.calls kj10 t606 _ _ t607 t610 t617 _ _ t618 t621 true _ ?side1 ?side2 ?side3 ?side4 A34.1).mono ?_
 (case side1 => exact CB (R_reads' HO_612001.1).2.2)
 (case side2 => exact (R_reads' HO_612001.1).2.1)
 (case side3 => exact CB (R_reads' HO620.1).2.2)
 (case side4 => exact (R_reads' HO620.1).2.1)
 rintro e w41 ⟨rfl, hb⟩
 refine ⟨_, rfl, ?_⟩
 refine E7 (rB HO_4.1 hb) (rB HO_7.1 hb) (rB HO_612001.1 hb) (rB HO620.1 hb) (bB BK595.1 hb) (bB BK611.1 hb) (bS HB.1 hb) ?_
 clear HO_4 HO_7 HO_612001 HO620 BK595 BK611 HB
 intro HO_4 HO_7 HO_612001 HO620 BK595 BK611 HB
 (try clear hb)
 (try clear hb2)
 (try clear hk)
 (try clear hi)
 refine hK.out _ _ ⟨(blk_cell BK611.1 0).trans rfl, (blk_cell BK611.1 1).trans rfl, (blk_cell BK611.1 2).trans rfl, (blk_cell BK595.1 0).trans rfl, (blk_cell BK595.1 1).trans rfl, (blk_cell BK595.1 2).trans rfl⟩ (fun hHeld => ?_)
 clear hK K
 refine norm_ (a' := ?_) ?_ ?_
 rotate_left
 · show Act.put _ (some 44) _ = _
   simp only [Act.put, List.setIfInBounds_toArray, List.set_cons_zero, List.set_cons_succ, i64_w, i32_w]
   rfl
 refine pure_ (i := 4) (N := some 45) (v := ?_) (a' := ?_) #[Yy,Yy,Yy,Yy,Yy] rfl rfl (by kernel_rfl) (fun _ _ _ h => h) (Or.inl ⟨by rfl, ?_⟩) ?_ ?_
 rotate_left
 · intro w'
   go_simp
   with_reducible rfl
 rotate_left
 · simp only [Act.put, List.setIfInBounds_toArray, List.set_cons_zero, List.set_cons_succ, i64_w, i32_w]
   rfl
 refine done_ (by kernel_rfl) ?_
 obtain ⟨hcz43_0, hcz43_1, hcz43_2, hfz43_0, hfz43_1, hfz43_2⟩ := cz3 BK611.1
 go_upto_region 14 with (first | ((with_reducible refine gate_callee (f := 25) rfl ?_); refine goesM (N := (some 48)) #[.agg #[.int .i64 t606, .slice Ao24 t607.length co24, .int .i64 t610], .int .i64 1] Try.func25 ?_; (with_reducible refine (laws_markDiagram.calls kj10 t606 (fun k_ => some k_ = (.slice Ao24 t607.length co24 : Value).ownBlock) (.slice Ao24 t607.length co24) t607 t610 1 t623 t624 w _ ?side1 ?side2 A36.1).mono ?_); (case side1 => exact BL HB.1); (case side2 => exact R_tight rfl HO_612001.1); rintro e w44 ⟨rfl, hy0, hb, hkp⟩; refine ⟨_, rfl, ?_⟩; refine E7 (R_mono (ok' := fun k_ => some k_ ≠ (v613 : Value).ownBlock) (R_keptB ((R_apart' HO_4.1 (R_typed HO_612001.1) (by decide))) hkp (fun k_ hk_ hs_ => (hk_.2) hs_)) (fun k_ hk_ => hk_.1.1)) (R_mono (ok' := fun k_ => some k_ ≠ (v603 : Value).ownBlock) (R_keptB ((R_apart' HO_7.1 (R_typed HO_612001.1) (by decide))) hkp (fun k_ hk_ hs_ => (hk_.2) hs_)) (fun k_ hk_ => hk_.1.1)) (R_reok rfl hy0 (fun k_ e_ => HO_612001.1.1 k_ e_)) (blk_kept (PB BK595.1) hkp (fun hs_ => (fun e_ => (R_ne HO_612001.1 BK595.1 (by decide)) e_) hs_)) (blk_kept (PB BK611.1) hkp (fun hs_ => (fun e_ => (R_ne HO_612001.1 BK611.1 (by decide)) e_) hs_)) (R_mono (ok' := fun k_ => some k_ ≠ (.slice Ao24 t607.length co24 : Value).ownBlock) (R_keptB (HO620.1) hkp (fun k_ hk_ hs_ => (hk_.2) hs_)) (fun k_ hk_ => hk_.1.2)) (hb) ?_; clear HO_4 HO_7 HO_612001 BK595 BK611 HO620 HB; intro HO_4 HO_7 HO_612001 BK595 BK611 HO620 HB; (try clear hb); (try clear hkp); (try clear hy0)))
 (try simp only [Act.put, List.setIfInBounds_toArray, List.set_cons_zero, List.set_cons_succ])
 go_cut [61] (fun v61 wc => ∃ (kq : Nat) (x61_36 : Bool), v61 = .bool x61_36 /\ Aside0 (laws_FnExactInputsUsed.j1 kq t602 t605 t612 x61_36 a0_0 l0_1 a0_2 = some true) /\ Aside0 (kq <= kj10) /\ Aside0 (Kd.R (Kd.int .i64) 3 wc w.heap.size (fun k_ => some k_ ≠ (v613 : Value).ownBlock) v603 t602) /\ Aside0 (Kd.R (Kd.int .i64) 3 wc w.heap.size (fun k_ => some k_ ≠ (v603 : Value).ownBlock) v613 t612) /\ Aside0 (Kd.R k63 63 wc w.heap.size (fun _ => True) (.slice Ao24 t607.length co24) t624) /\ Aside0 (wc.heap[gb595]? = some (.cells #[.int .i64 a0_0, (.slice A0_1 l0_1.length c0_1), .int .i64 a0_2] 24 (0, 0))) /\ Aside0 (wc.heap[gb611]? = some (.cells #[.int .i64 t606, (.slice Ao24 t607.length co24), .int .i64 t610] 29 (0, 0))) /\ Aside0 (Below w.heap.size w wc))
 case first =>
  have H := HC37.1
  clear HC37
  replace H := ifQ H; rcases H with ⟨c45, H⟩ | ⟨c45, H⟩
  · exact absurd H (by cases kj10 <;> simp [laws_FnExactInputsUsed.j1])
  have c45b0 := decide_eq_false c45
  clear c45
  (first | rw [c45b0] | (simp only [i64_w, i32_w]; rw [c45b0]) | skip)
  replace H := bindA H; obtain ⟨t625, A46, H⟩ := H
  replace H := ifT H (by cases kj10 <;> simp [laws_FnExactInputsUsed.j1]); obtain ⟨rfl, H⟩ := H
  have H' := Aside0.mk H
  clear H
  obtain ⟨Ao48, co48, eo48⟩ := R_slice HO_7.1
  subst eo48
  obtain ⟨Ao49, co49, eo49⟩ := R_slice HO_4.1
  subst eo49
  go_wp2_with (first | (go_at_call 31; (with_reducible refine (laws_eqIntS.calls kj10 _ _ t612 _ _ t602 true _ ?side1 ?side2 ?side3 ?side4 A46.1).mono ?_); (case side1 => exact CB (R_reads' HO_7.1).2.2); (case side2 => exact (R_reads' HO_7.1).2.1); (case side3 => exact CB (R_reads' HO_4.1).2.2); (case side4 => exact (R_reads' HO_4.1).2.1); rintro e w' ⟨rfl, ⟨nd, rfl⟩⟩))
  go_meet
  case rel => exact ⟨_, ((t615 != t605)), RG, H', ⟨by have := HJ10.1; first | omega | exact Nat.le_refl _⟩, ⟨PR HO_4.1⟩, ⟨PR HO_7.1⟩, ⟨RPE (R_mono HO_612001.1 (fun _ hk => trivial))⟩, ⟨PB BK595.1⟩, ⟨PB BK611.1⟩, ⟨BL HB.1⟩⟩
 clear HC37
 clear hcz43_0 hcz43_1 hcz43_2 hfz43_0 hfz43_1 hfz43_2
 obtain ⟨kq, x61_36, rfl, HA, HJ36, HO_4, HO_7, HO_612001, BK595, BK611, HB⟩ := hcut
 have hl612001_36 := (R_reads' HO_612001.1).1
 rw [hl612001_36] at HO_612001
 (try simp only [hl612001_36])
 (try simp only [hl612001_36] at BK595)
 (try simp only [hl612001_36] at BK611)
 (try simp only [hl612001_36] at HO_4)
 (try simp only [hl612001_36] at HO_7)
 cases kq with
 | zero => exact absurd HA.1 (by simp [laws_FnExactInputsUsed.j1])
 | succ kj36 => ?_
 have H := HA.1
 clear HA
 simp only [laws_FnExactInputsUsed.j1] at H
 replace H := ifF H (by simp); obtain ⟨rfl, H⟩ := H
 replace H := bindA H; obtain ⟨⟨t626, t627⟩, A53, H⟩ := H
 dsimp only at H
 replace H := bindA H; obtain ⟨t628, A54, H⟩ := H
 replace H := ifQ H; rcases H with ⟨c55, H⟩ | ⟨c55, H⟩
 · exact absurd H (by simp)
 have c55b0 := decide_eq_false c55
 clear c55
 first | replace H := ifP H | replace H := ifPf H
 obtain ⟨c58, H⟩ := H
 have c58b0 := beq_iff_eq.mpr c58
 have c58b1 := bne_eq_false_iff_eq.mpr c58
 clear c58
 replace H := bindA H; obtain ⟨⟨t629, t630, t633⟩, A59, H⟩ := H
 dsimp only at H
 replace H := bindA H; obtain ⟨⟨t634, t637⟩, A60, H⟩ := H
 dsimp only at H
 have HC61 := Aside0.mk H
 clear H
 obtain ⟨Ao62, co62, eo62⟩ := R_slice HO_7.1
 subst eo62
 go_upto_region 25 with (first | ((with_reducible refine gate_callee (f := 32) rfl ?_); refine goesM (N := (some 64)) #[.slice Ao62 t612.length co62, .int .i64 1] Try.func32 ?_; (with_reducible refine (laws_markIntS.calls kj36 (fun k_ => some k_ = (.slice Ao62 t612.length co62 : Value).ownBlock) (.slice Ao62 t612.length co62) t612 1 t626 t627 w _ ?side1 ?side2 A53.1).mono ?_); (case side1 => exact BL HB.1); (case side2 => exact R_tight rfl HO_7.1); rintro e w63 ⟨rfl, hy0, hb, hkp⟩; refine ⟨_, rfl, ?_⟩; refine E6 (R_mono (ok' := fun k_ => some k_ ≠ (.slice Ao62 t612.length co62 : Value).ownBlock) (R_keptB (HO_4.1) hkp (fun k_ hk_ hs_ => (hk_) hs_)) (fun k_ hk_ => hk_.1)) (R_reok rfl hy0 (fun k_ e_ => HO_7.1.1 k_ e_)) (R_mono (ok' := fun k_ => True) (R_keptB ((R_apart' HO_612001.1 (R_typed HO_7.1) (by decide))) hkp (fun k_ hk_ hs_ => (hk_.2) hs_)) (fun k_ hk_ => trivial)) (blk_kept (PB BK595.1) hkp (fun hs_ => (fun e_ => (R_ne HO_7.1 BK595.1 (by decide)) e_) hs_)) (blk_kept (PB BK611.1) hkp (fun hs_ => (fun e_ => (R_ne HO_7.1 BK611.1 (by decide)) e_) hs_)) (hb) ?_; clear HO_4 HO_7 HO_612001 BK595 BK611 HB; intro HO_4 HO_7 HO_612001 BK595 BK611 HB; (try clear hb); (try clear hkp); (try clear hy0)) | ((with_reducible refine gate_callee (f := 33) rfl ?_); refine goesL_ (some 67) rfl rfl Try.func33 (by kernel_rfl) rfl #[.slice Ao62 t627.length co62, .int .i64 1] rfl (by (try simp only [List.map_toArray, List.map_cons, List.map_nil]); first | done | (rw [show t627.length = t612.length from (R_reads' HO_7.1).1.symm] <;> rfl) | rfl | (simp only [List.length_drop, List.length_take]; rfl)) ?_; (with_reducible refine (laws_heldIntS.calls kj36 _ _ t627 1 t628 _ ?side1 ?side2 A54.1).mono ?_); (case side1 => exact CB (R_reads' HO_7.1).2.2); (case side2 => rw [show t627.length = t612.length from (R_reads' HO_7.1).1.symm]; exact (R_reads' HO_7.1).2.1); rintro e w' ⟨rfl, ⟨nd, rfl⟩⟩; refine ⟨_, rfl, ?_⟩; have hnb64 := NB595_611.1; have hnc64 := NB611_595.1; obtain ⟨hcz65_0, hcz65_1, hcz65_2, hfz65_0, hfz65_1, hfz65_2⟩ := cz3 BK595.1) | ((with_reducible refine gate_callee (f := 14) rfl ?_); refine goesM (N := (some 75)) #[.agg #[.int .i64 a0_0, .slice A0_1 l0_1.length c0_1, .int .i64 a0_2]] Try.func14 ?_; (with_reducible refine (laws_toDiagram.calls kj36 a0_0 _ _ l0_1 a0_2 t629 t630 t633 _ ?side1 ?side2 A59.1).mono ?_); (case side1 => repeat (first | exact (C_below HR0_1.1 (BL HB.1)) | (with_reducible refine C_alloc ?_ _) | (with_reducible refine C_drewN ?_ _) | (with_reducible refine C_drew ?_))); (case side2 => exact HC0_1.1); rintro e w66 ⟨v631, rfl, ho0, hb⟩; refine ⟨_, rfl, ?_⟩; refine E7 (rB HO_4.1 hb) (rB HO_7.1 hb) (R_elder' (PR HO_612001.1) (R_base ho0) hb) (R_lower (R_new' ho0 (R_lt (PR HO_612001.1))) (bZ HB.1)) (bB BK595.1 hb) (bB BK611.1 hb) (bS HB.1 hb) ?_; clear HO_4 HO_7 HO_612001 BK595 BK611 HB; intro HO_4 HO_7 HO_612001 HO632 BK595 BK611 HB; (try clear hb); (try clear ho0); obtain ⟨Ao67, co67, eo67⟩ := R_slice HO632.1; subst eo67) | ((with_reducible refine gate_callee (f := 38) rfl ?_); refine goesM (N := (some 76)) #[.agg #[.int .i64 t629, .slice Ao67 t630.length co67, .int .i64 t633]] Try.func38 ?_; (with_reducible refine (impl_InputsUsed.calls kj36 t629 _ _ t630 t633 t634 t637 _ ?side1 ?side2 A60.1).mono ?_); (case side1 => exact CB (R_reads' HO632.1).2.2); (case side2 => exact (R_reads' HO632.1).2.1); rintro e w68 ⟨v635, rfl, ho0, hb⟩; refine ⟨_, rfl, ?_⟩; refine E8 (R_elder' (PR HO_4.1) (R_base ho0) hb) (R_elder' (PR HO_7.1) (R_base ho0) hb) (rB HO_612001.1 hb) (rB HO632.1 hb) (R_lower (R_new' (R_new' ho0 (R_lt (PR HO_4.1))) (R_lt (PR HO_7.1))) (bZ HB.1)) (bB BK595.1 hb) (bB BK611.1 hb) (bS HB.1 hb) ?_; clear HO_4 HO_7 HO_612001 HO632 BK595 BK611 HB; intro HO_4 HO_7 HO_612001 HO632 HO636 BK595 BK611 HB; (try clear hb); (try clear ho0)))
 (try simp only [Act.put, List.setIfInBounds_toArray, List.set_cons_zero, List.set_cons_succ])
 go_cut [87] (fun v87 wc => ∃ (kq : Nat) (x87_60 : Bool), v87 = .bool x87_60 /\ Aside0 (laws_FnExactInputsUsed.j2 kq t627 t626 x87_60 = some true) /\ Aside0 (kq <= kj36) /\ Aside0 (Kd.R (Kd.int .i64) 3 wc w.heap.size (fun _ => True) (.slice Ao62 t612.length co62) t627) /\ Aside0 (Kd.R k63 63 wc w.heap.size (fun _ => True) (.slice Ao24 t624.length co24) t624) /\ Aside0 (wc.heap[gb595]? = some (.cells #[.int .i64 a0_0, (.slice A0_1 l0_1.length c0_1), .int .i64 a0_2] 24 (0, 0))) /\ Aside0 (wc.heap[gb611]? = some (.cells #[.int .i64 t606, (.slice Ao24 t624.length co24), .int .i64 t610] 29 (0, 0))) /\ Aside0 (Below w.heap.size w wc))
 case first =>
  have H := HC61.1
  clear HC61
  replace H := bindA H; obtain ⟨t638, A69, H⟩ := H
  replace H := ifT H (by cases kj36 <;> simp [laws_FnExactInputsUsed.j2]); obtain ⟨rfl, H⟩ := H
  have H' := Aside0.mk H
  clear H
  obtain ⟨Ao71, co71, eo71⟩ := R_slice HO636.1
  subst eo71
  obtain ⟨Ao72, co72, eo72⟩ := R_slice HO_4.1
  subst eo72
  go_wp2_with (first | ((with_reducible refine gate_callee (f := 31) rfl ?_); refine goesM (N := (some 81)) #[.slice Ao71 t634.length co71, .slice Ao72 t602.length co72] Try.func31 ?_; (with_reducible refine (laws_eqIntS.calls kj36 _ _ t634 _ _ t602 true _ ?side1 ?side2 ?side3 ?side4 A69.1).mono ?_); (case side1 => exact CB (R_reads' HO636.1).2.2); (case side2 => exact (R_reads' HO636.1).2.1); (case side3 => exact CB (R_reads' HO_4.1).2.2); (case side4 => exact (R_reads' HO_4.1).2.1); rintro e w' ⟨rfl, ⟨nd, rfl⟩⟩; refine ⟨_, rfl, ?_⟩))
  go_meet
  case rel => exact ⟨_, ((t637 != t605)), RG, H', ⟨by have := HJ10.1; have := HJ36.1; first | omega | exact Nat.le_refl _⟩, ⟨by (try simp only [hl612001_36]); (with_reducible repeat (first | apply R_alloc | apply R_drewN | apply R_drew)); exact R_mono HO_7.1 (fun _ hk => trivial)⟩, ⟨by (try simp only [hl612001_36]); (with_reducible repeat (first | apply R_alloc | apply R_drewN | apply R_drew)); exact R_mono HO_612001.1 (fun _ hk => trivial)⟩, ⟨PB1 BK595.1 hl612001_36⟩, ⟨PB1 BK611.1 hl612001_36⟩, ⟨BL HB.1⟩⟩
 clear HC61
 clear c55b0 c58b0 c58b1 hcz65_0 hcz65_1 hcz65_2 hfz65_0 hfz65_1 hfz65_2
 obtain ⟨kq, x87_60, rfl, HA, HJ60, HO_7, HO_612001, BK595, BK611, HB⟩ := hcut
 have hl7_60 := (R_reads' HO_7.1).1
 rw [hl7_60] at HO_7
 (try simp only [hl7_60])
 (try simp only [hl7_60] at BK595)
 (try simp only [hl7_60] at BK611)
 (try simp only [hl7_60] at HO_612001)
 cases kq with
 | zero => exact absurd HA.1 (by simp [laws_FnExactInputsUsed.j2])
 | succ kj60 => ?_
 have H := HA.1
 clear HA
 simp only [laws_FnExactInputsUsed.j2] at H
 replace H := ifF H (by simp); obtain ⟨rfl, H⟩ := H
 replace H := bindA H; obtain ⟨t639, A76, H⟩ := H
 replace H := ifQ H; rcases H with ⟨c77, H⟩ | ⟨c77, H⟩
 · exact absurd H (by simp)
 have c77b0 := decide_eq_false c77
 clear c77
 first | replace H := ifP H | replace H := ifPf H
 obtain ⟨c78, H⟩ := H
 have c78b0 := beq_iff_eq.mpr c78
 have c78b1 := bne_eq_false_iff_eq.mpr c78
 clear c78
 first | (obtain rfl := Option.some.inj H) | clear H
 go_wp2_with (first | ((with_reducible refine gate_callee (f := 33) rfl ?_); refine goesM (N := (some 90)) #[.slice Ao62 t627.length co62, .int .i64 1] Try.func33 ?_; (with_reducible refine (laws_heldIntS.calls kj60 _ _ t627 1 t639 _ ?side1 ?side2 A76.1).mono ?_); (case side1 => exact CB (R_reads' HO_7.1).2.2); (case side2 => exact (R_reads' HO_7.1).2.1); rintro e w' ⟨rfl, ⟨nd, rfl⟩⟩; refine ⟨_, rfl, ?_⟩))
 go_ret
 exact ⟨RF, BL HB.1⟩
end Go.Proofs.Ytdkfgomjfigmbaa.P
