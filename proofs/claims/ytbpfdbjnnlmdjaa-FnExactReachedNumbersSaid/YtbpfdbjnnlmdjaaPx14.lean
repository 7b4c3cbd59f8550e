import Derived.Test.YtbpfdbjnnlmdjaaPx0
namespace Go.Proofs.Ytbpfdbjnnlmdjaa.P
open Go.RowKit Go.Proofs.YtbpfdbjnnlmdjaaW.PrintWords Go.Proofs.YtbpfdbjnnlmdjaaW.PrintLast Go.Proofs.YtbpfdbjnnlmdjaaW.PrintMore
attribute [local go_sem] max2_int min2_int max_two min_two max_three min_three max_four min_four
set_option linter.unusedVariables false
set_option linter.unusedSimpArgs false
open Kd
def spec_l1Put.l0 : Nat -> List Int -> Int -> Int -> Option (List Int)
 | 0, _, _, _ => none
 | k + 1, x0, x1, x5 => if x5 < (x0.length : Int) then (if 0 <= x5 then (if (rd x0 x5) < x1 then (spec_l1Put.l0 k x0 x1 (wrap64 (x5 + 1))) else (if (rd x0 x5) = x1 then (some x0) else ((some (([] : List Int) : List Int)).bind fun y1046 => (if x5 <= (x0.length : Int) then ((some (x0.take (x5 : Int).toNat : List Int)).bind fun y1049 => (if y1046.length + y1049.length < 17592186044416 then ((some (y1046 ++ y1049 : List Int)).bind fun y1053 => (if y1053.length < 17592186044416 then ((some (y1053 ++ [x1] : List Int)).bind fun y1056 => ((some (x0.drop (x5 : Int).toNat : List Int)).bind fun y1059 => (if y1056.length + y1059.length < 17592186044416 then (some (y1056 ++ y1059)) else (none)))) else (none))) else (none))) else (none))))) else (none)) else ((some (([] : List Int) : List Int)).bind fun y1066 => (if 0 <= x5 then (if x5 <= (x0.length : Int) then ((some (x0.take (x5 : Int).toNat : List Int)).bind fun y1069 => (if y1066.length + y1069.length < 17592186044416 then ((some (y1066 ++ y1069 : List Int)).bind fun y1073 => (if y1073.length < 17592186044416 then ((some (y1073 ++ [x1] : List Int)).bind fun y1076 => ((some (x0.drop (x5 : Int).toNat : List Int)).bind fun y1079 => (if y1076.length + y1079.length < 17592186044416 then (some (y1076 ++ y1079)) else (none)))) else (none))) else (none))) else (none)) else (none)))
def spec_l1Put.f (k : Nat) (l0 : List Int) (a1 : Int) : Option (List Int) := spec_l1Put.l0 k l0 a1 0
theorem spec_l1Put.mono_l : ∀ k, (∀ y0 y1 y2, LeO (spec_l1Put.l0 k y0 y1 y2) (spec_l1Put.l0 (k + 1) y0 y1 y2))
 | 0 => fun _ _ _ r h => by simp [spec_l1Put.l0] at h
 | k + 1 => by
  have ih0 := spec_l1Put.mono_l k
  intros
  first | unfold spec_l1Put.l0
  exact LM1 ih0
theorem spec_l1Put.mono : ∀ a0 a1 k, LeO (spec_l1Put.f k a0 a1) (spec_l1Put.f (k + 1) a0 a1) := by
 intro a0 a1 k
 have ih0 := spec_l1Put.mono_l k
 unfold spec_l1Put.f
 exact LM1 ih0
set_option maxHeartbeats 8000000 in
set_option maxRecDepth 100000 in
theorem spec_l1Put.calls (k : Nat) (P0_ : Nat -> Prop) (u9000_ : Value) (l0 : List Int) (a1 : Int) (r : List Int) (w0 w : World) (hB : Below w0.heap.size w0 w) (ho0 : Kd.R (Kd.int .i64) 3 w w0.heap.size P0_ u9000_ l0) (h : spec_l1Put.f k l0 a1 = some r) :
 Calls Try.prog 82 #[u9000_, .int .i64 a1] w fun e w' => ∃ v0_ : Value, e = .returned (v0_) /\ Kd.R (Kd.int .i64) 3 w' w0.heap.size (fun k_ => (P0_ k_ ∨ w.heap.size <= k_)) v0_ r /\ Below w0.heap.size w0 w' /\ Kept w w' (fun k_ => P0_ k_) := by
 have HO0 := Aside0.mk (show Kd.R (Kd.int .i64) 3 w w0.heap.size (fun k_ => (P0_ k_ ∨ w.heap.size <= k_)) u9000_ l0 from R_mono ho0 (fun k_ hk => (.inl hk)))
 have HK := Aside0.mk (Kept.refl w (fun k_ => P0_ k_))
 have HW0 := Aside0.mk hB.size
 have HB := Aside0.mk hB
 clear hB
 have H := h
 clear h
 unfold spec_l1Put.f at H
 have H' := Aside0.mk H
 clear H
 go_enter Try.func82, Try.ntmps82
 go_wp2
 go_loopg [5] k (fun kq v5 w' => ∃ (x5_1 : Int), v5 = .int .i64 x5_1 /\ Aside0 (spec_l1Put.l0 kq l0 a1 x5_1 = some r) /\ Aside0 (kq <= k) /\ Aside0 (Kd.R (Kd.int .i64) 3 w' w0.heap.size (fun k_ => (P0_ k_ ∨ w.heap.size <= k_)) u9000_ l0) /\ Aside0 (Kept w w' (fun k_ => P0_ k_)) /\ Aside0 (Below w0.heap.size w0 w'))
 case atStart => exact ⟨(0), RG, H', ⟨Nat.le_refl _⟩, ⟨PR HO0.1⟩, ⟨KL HK.1⟩, ⟨BL HB.1⟩⟩
 clear H'
 obtain ⟨x5_1, rfl, HA, HK1, HO_0, HK, HB⟩ := hrel
 cases gk with
 | zero => exact absurd HA.1 (by simp [spec_l1Put.l0])
 | succ k1 => ?_
 have H := HA.1
 clear HA
 simp only [spec_l1Put.l0] at H
 replace H := ifB H; rcases H with ⟨c3b0, H⟩ | ⟨c3b0, H⟩
 · replace H := ifN H; obtain ⟨c4b0, H⟩ := H
   replace H := ifB H; rcases H with ⟨c5b0, H⟩ | ⟨c5b0, H⟩
   · have H' := Aside0.mk H
     clear H
     obtain ⟨Ao6, co6, eo6⟩ := R_slice HO_0.1
     subst eo6
     have p1044 : 0 <= (x5_1 : Int) := OD
     have q1044 : x5_1 < (l0.length : Int) := OD
     obtain ⟨ad1044, e1044, hx1044_0⟩ := Kd.at_int (R_reads' HO_0.1).2.2 x5_1 p1044 q1044
     cases e1044
     replace p1044 := eq_true p1044
     replace q1044 := eq_true q1044
     go_wp2
     go_roundg k1
     case measure => have := HK1.1; omega
     case rel => exact ⟨(wrap64 (x5_1 + 1)), RG, H', ⟨by have := HK1.1; omega⟩, ⟨PR HO_0.1⟩, ⟨KL HK.1⟩, ⟨BL HB.1⟩⟩
   replace H := ifQ H; rcases H with ⟨c7, H⟩ | ⟨c7, H⟩
   · have c7b0 := beq_iff_eq.mpr c7
     have c7b1 := bne_eq_false_iff_eq.mpr c7
     clear c7
     obtain rfl := Option.some.inj H
     obtain ⟨Ao8, co8, eo8⟩ := R_slice HO_0.1
     subst eo8
     have p1044 : 0 <= (x5_1 : Int) := OD
     have q1044 : x5_1 < (l0.length : Int) := OD
     obtain ⟨ad1044, e1044, hx1044_0⟩ := Kd.at_int (R_reads' HO_0.1).2.2 x5_1 p1044 q1044
     cases e1044
     replace p1044 := eq_true p1044
     replace q1044 := eq_true q1044
     have p1045 : 0 <= (x5_1 : Int) := OD
     have q1045 : x5_1 < (l0.length : Int) := OD
     obtain ⟨ad1045, e1045, hx1045_0⟩ := Kd.at_int (R_reads' HO_0.1).2.2 x5_1 p1045 q1045
     obtain rfl : ad1044 = ad1045 := (by injection e1045)
     replace p1045 := eq_true p1045
     replace q1045 := eq_true q1045
     go_wp2
     go_ret
     exact ⟨_, RF, RPE (HO_0.1), BL HB.1, KL HK.1⟩
   have c7b0 := beq_eq_false_iff_ne.mpr c7
   have c7b1 := bne_iff_ne.mpr c7
   replace H := nameB H; obtain ⟨y1046, Ny1046, H⟩ := H
   have c9b0 := eq_true (OD : 0 <= x5_1)
   replace H := ifP H; obtain ⟨c10, H⟩ := H
   have c10b0 := eq_true c10
   have c10b1 := decide_eq_true c10
   clear c10
   replace H := nameB H; obtain ⟨y1049, Ny1049, H⟩ := H
   replace H := ifP H; obtain ⟨c11, H⟩ := H
   have LMc11 := Aside0.mk c11
   clear c11
   replace H := nameB H; obtain ⟨y1053, Ny1053, H⟩ := H
   replace H := ifP H; obtain ⟨c12, H⟩ := H
   have LMc12 := Aside0.mk c12
   clear c12
   replace H := nameB H; obtain ⟨y1056, Ny1056, H⟩ := H
   have c13b0 := eq_true (OD : 0 <= x5_1)
   have c14b0 := eq_true (OD : x5_1 <= (l0.length : Int))
   replace H := nameB H; obtain ⟨y1059, Ny1059, H⟩ := H
   replace H := ifP H; obtain ⟨c15, H⟩ := H
   have LMc15 := Aside0.mk c15
   clear c15
   generalize hy1063 : ((y1056 ++ y1059) : List Int) = y1063 at H
   have Ny1063 := Aside0.mk hy1063.symm; clear hy1063
   obtain rfl := Option.some.inj H
   obtain ⟨Ao16, co16, eo16⟩ := R_slice HO_0.1
   subst eo16
   have p1044 : 0 <= (x5_1 : Int) := OD
   have q1044 : x5_1 < (l0.length : Int) := OD
   obtain ⟨ad1044, e1044, hx1044_0⟩ := Kd.at_int (R_reads' HO_0.1).2.2 x5_1 p1044 q1044
   cases e1044
   replace p1044 := eq_true p1044
   replace q1044 := eq_true q1044
   have p1045 : 0 <= (x5_1 : Int) := OD
   have q1045 : x5_1 < (l0.length : Int) := OD
   obtain ⟨ad1045, e1045, hx1045_0⟩ := Kd.at_int (R_reads' HO_0.1).2.2 x5_1 p1045 q1045
   obtain rfl : ad1044 = ad1045 := (by injection e1045)
   replace p1045 := eq_true p1045
   replace q1045 := eq_true q1045
   go_wp2_with (first | ((with_reducible refine gate_dst (N := 34) rfl ?_); refine R_lit (Kd.int .i64) _ 3 ?hg (N := 34) ?hd (xs := ([] : List Int)) (inner := []) (ok := fun _ => True) (okp := fun _ => True) ?hr ?hp (fun _ hk => hk) trivial (Below.refl _ _) (Nat.le_refl _) (by simp) ?_; (case hd => rfl); (case hg => rfl); (case hr => first | (go_simp; done) | (go_simp; rfl)); (case hp => exact (Reps.none _ _)); intro v1047 w17 ho18 hb hg_ hnew_; clear hg_ hnew_; (first | rw [<- Ny1046.1] at ho18 | (simp only [Int.reduceToNat] at ho18; rw [<- Ny1046.1] at ho18)); refine E4 (R_elder' (PR HO_0.1) (R_base ho18) hb) (R_lower (R_new' (R_newM (M := fun k_ => (P0_ k_ ∨ w.heap.size <= k_)) ho18 (by first | exact HK.1.1 | exact (show Kept w _ (fun k_ => P0_ k_) from KL HK.1).1) (fun k_ h_ => .inr h_)) (R_lt (PR HO_0.1))) (bZ HB.1)) (Kept.below (S := (fun k_ => P0_ k_)) (KL HK.1) hb) (bS HB.1 hb) ?_; clear HO_0 HK HB; intro HO_0 HO1048 HK HB; clear hb ho18; have q19 : (x5_1 : Int) <= ((l0.length : Int) : Int) := OD; obtain ⟨i019, hi019, _, hsz19, _⟩ := info_parts info3; have hroom19 : l0.length <= co16 := (R_reads' HO_0.1).2.1; have hC19 : Kd.C (Kd.int .i64) _ (some ad1044) l0.length l0 := (R_reads' HO_0.1).2.2; have hcut19 := cut_to (P := Try.prog) 38 3 .i64 Try.underlying38 hi019 (some ad1044) l0.length co16 x5_1 (OD) q19 hroom19; have hr19 := C_take (m := (x5_1 : Int).toNat) hC19 (by omega); have hy19 : y1049.length = (x5_1 : Int).toNat := (by rw [Ny1049.1, List.length_take]; omega); rw [<- Ny1049.1] at hr19; rw [<- hy19] at hcut19; have HR1052 := Aside0.mk hr19; have HC1052 := Aside0.mk (show y1049.length <= co16 from by omega); clear hr19 hC19 hroom19 hi019 hsz19; have KY19 := Aside0.mk hy19; clear hy19; have KL19 := Aside0.mk (show (x5_1 : Int).toNat <= l0.length from by omega); replace q19 := eq_true q19) | ((with_reducible refine gate_builtin (b := .append) (xs := #[.tmp 34, .tmp 37]) rfl ?_); at_builtin; refine R_append_rows (Kd.int .i64) (w0 := w0) w0.heap.size rfl (.tmp 34) (.tmp 37) 38 3 (.int .i64 0) 8 rfl Try.underlying38 info3 rfl (by decide) (by omega) v1047 y1046 y1049 _ _ _ (fun k_ => (P0_ k_ ∨ w.heap.size <= k_) /\ some k_ ≠ (.slice (some ad1044) l0.length co16 : Value).ownBlock) (fun _ => False) rfl rfl ?aO ?aR (fun _ _ h => h) (fun _ h => h.elim) ?aF ?aB ?aS ?aL ?_; (case aR => repeat (first | exact (by repeat (first | (with_reducible exact HR1052.1) | (with_reducible refine C_alloc ?_ _) | (with_reducible refine C_drewN ?_ _) | (with_reducible refine C_drew ?_) | exact HR1052.1)) | (with_reducible refine C_alloc ?_ _) | (with_reducible refine C_drewN ?_ _) | (with_reducible refine C_drew ?_))); (case aB => exact (BL HB.1)); (case aF => exact (fun k_ hk => ⟨(.inr (Nat.le_trans (by first | exact HK.1.1 | exact (show Kept w _ (fun k_ => P0_ k_) from KL HK.1).1) hk)), Kd.fresh' (R_lt (PR HO_0.1)) k_ hk⟩)); (case aO => exact (RPE (R_mono HO1048.1 (fun _ hk => ⟨hk.1.1, hk.2⟩)))); (case aS => exact (bZ HB.1)); (case aL => have := LMc11.1; omega); intro v1054 w20 ho hb hg hat; rw [<- Ny1053.1] at ho; refine E5 (R_after (ok := (fun k_ => (P0_ k_ ∨ w.heap.size <= k_))) (PR HO_0.1) hg hat) (hb) (Kept.of_grown (S := (fun k_ => P0_ k_)) hg (KL HK.1) (fun k_ e_ => (HO1048.1.1 k_ e_).1.1)) ((show Kd.C (Kd.int .i64) w20 (some ad1044) y1049.length y1049 from by rw [Ny1049.1]; exact C_take (m := (x5_1 : Int).toNat) ((R_reads' (R_after (ok := (fun k_ => (P0_ k_ ∨ w.heap.size <= k_))) (PR HO_0.1) hg hat)).2.2) KL19.1)) (ho) ?_; clear HO_0 HB HK HR1052 HO1048; intro HO_0 HB HK HR1052 HO1055; clear ho hb hg hat) | ((with_reducible refine gate_builtin (b := .append) (xs := #[.tmp 39, .tmp 41]) rfl ?_); at_builtin; refine R_append (Kd.int .i64) (w0 := w0) w0.heap.size rfl (.tmp 39) (.tmp 41) 38 3 (.int .i64 0) 8 rfl Try.underlying38 info3 rfl (by decide) (by omega) v1054 y1053 a1 [.int .i64 a1] (fun k_ => (P0_ k_ ∨ w.heap.size <= k_) /\ some k_ ≠ (.slice (some ad1044) l0.length co16 : Value).ownBlock) (fun _ => False) rfl rfl ?aP (fun _ hk => hk.elim) ?aF ?aO ?aB ?aS ?aL ?_; (case aP => exact rfl); (case aB => exact (BL HB.1)); (case aF => exact (fun k_ hk => ⟨(.inr (Nat.le_trans (by first | exact HK.1.1 | exact (show Kept w _ (fun k_ => P0_ k_) from KL HK.1).1) hk)), Kd.fresh' (R_lt (PR HO_0.1)) k_ hk⟩)); (case aO => exact (PR HO1055.1)); (case aS => exact (bZ HB.1)); (case aL => have := LMc12.1; omega); intro v1057 w21 ho hb hg hat; rw [<- Ny1056.1] at ho; refine E5 (R_after (ok := (fun k_ => (P0_ k_ ∨ w.heap.size <= k_))) (PR HO_0.1) hg hat) (hb) (Kept.of_grown (S := (fun k_ => P0_ k_)) hg (KL HK.1) (fun k_ e_ => (HO1055.1.1 k_ e_).1)) ((show Kd.C (Kd.int .i64) w21 (some ad1044) y1049.length y1049 from by rw [Ny1049.1]; exact C_take (m := (x5_1 : Int).toNat) ((R_reads' (R_after (ok := (fun k_ => (P0_ k_ ∨ w.heap.size <= k_))) (PR HO_0.1) hg hat)).2.2) KL19.1)) (ho) ?_; clear HO_0 HB HK HR1052 HO1055; intro HO_0 HB HK HR1052 HO1058; clear ho hb hg hat; have q22 : (x5_1 : Int) <= ((l0.length : Int) : Int) := OD; obtain ⟨i022, hi022, _, hsz22, _⟩ := info_parts info3; have hroom22 : l0.length <= co16 := (R_reads' HO_0.1).2.1; have hC22 : Kd.C (Kd.int .i64) _ (some ad1044) l0.length l0 := (R_reads' HO_0.1).2.2; have q022 : (0 : Int) <= (x5_1 : Int) := OD; have hcut22 := cut_from (P := Try.prog) 38 3 .i64 Try.underlying38 hi022 1 hsz22 (some ad1044) l0.length co16 x5_1 q022 q22; have hr22 := C_drop (m := (x5_1 : Int).toNat) (c := co16) hC22 (by omega) hroom22; obtain ⟨A22, hA22⟩ : ∃ A1, A1 = (if co16 = (x5_1 : Int).toNat then (some ad1044) else ((some ad1044) : Option Addr).map (·.add ((x5_1 : Int).toNat * 1))) := ⟨_, rfl⟩; obtain ⟨c22, hc22⟩ : ∃ c1, c1 = co16 - (x5_1 : Int).toNat := ⟨_, rfl⟩; have hy22 : y1059.length = l0.length - (x5_1 : Int).toNat := (by rw [Ny1059.1, List.length_drop] <;> omega); rw [show (l0).drop (x5_1 : Int).toNat = y1059 from Ny1059.1.symm] at hr22; replace hr22 : Kd.C (Kd.int .i64) _ A22 y1059.length y1059 := (by rw [hA22]; exact hr22); rw [<- hy22, <- hA22, <- hc22] at hcut22; have HR1062 := Aside0.mk hr22; have HC1062 := Aside0.mk (show y1059.length <= c22 from by rw [hy22, hc22]; exact Nat.sub_le_sub_right hroom22 _); clear hr22 hC22 hroom22 hi022 hsz22 hc22; have KY22 := Aside0.mk hy22; have KA22 := Aside0.mk hA22; clear hy22 hA22; have KL22 := Aside0.mk (show (x5_1 : Int).toNat <= l0.length from by omega); replace q22 := eq_true q22) | ((with_reducible refine gate_builtin (b := .append) (xs := #[.tmp 43, .tmp 46]) rfl ?_); at_builtin; refine R_append_rows (Kd.int .i64) (w0 := w0) w0.heap.size rfl (.tmp 43) (.tmp 46) 38 3 (.int .i64 0) 8 rfl Try.underlying38 info3 rfl (by decide) (by omega) v1057 y1056 y1059 _ _ _ (fun k_ => (P0_ k_ ∨ w.heap.size <= k_) /\ some k_ ≠ (.slice (some ad1044) l0.length co16 : Value).ownBlock) (fun _ => False) rfl rfl ?aO ?aR (fun _ _ h => h) (fun _ h => h.elim) ?aF ?aB ?aS ?aL ?_; (case aR => repeat (first | exact (by repeat (first | (with_reducible exact HR1062.1) | (with_reducible refine C_alloc ?_ _) | (with_reducible refine C_drewN ?_ _) | (with_reducible refine C_drew ?_) | exact HR1062.1)) | (with_reducible refine C_alloc ?_ _) | (with_reducible refine C_drewN ?_ _) | (with_reducible refine C_drew ?_))); (case aB => exact (BL HB.1)); (case aF => exact (fun k_ hk => ⟨(.inr (Nat.le_trans (by first | exact HK.1.1 | exact (show Kept w _ (fun k_ => P0_ k_) from KL HK.1).1) hk)), Kd.fresh' (R_lt (PR HO_0.1)) k_ hk⟩)); (case aO => exact (PR HO1058.1)); (case aS => exact (bZ HB.1)); (case aL => have := LMc15.1; omega); intro v1064 w23 ho hb hg hat; rw [<- Ny1063.1] at ho; refine E6 (R_after (ok := (fun k_ => (P0_ k_ ∨ w.heap.size <= k_))) (PR HO_0.1) hg hat) (hb) (Kept.of_grown (S := (fun k_ => P0_ k_)) hg (KL HK.1) (fun k_ e_ => (HO1058.1.1 k_ e_).1)) ((show Kd.C (Kd.int .i64) w23 (some ad1044) y1049.length y1049 from by rw [Ny1049.1]; exact C_take (m := (x5_1 : Int).toNat) ((R_reads' (R_after (ok := (fun k_ => (P0_ k_ ∨ w.heap.size <= k_))) (PR HO_0.1) hg hat)).2.2) KL19.1)) ((show Kd.C (Kd.int .i64) w23 A22 y1059.length y1059 from by rw [Ny1059.1, KA22.1]; exact C_drop (m := (x5_1 : Int).toNat) (c := co16) ((R_reads' (R_after (ok := (fun k_ => (P0_ k_ ∨ w.heap.size <= k_))) (PR HO_0.1) hg hat)).2.2) KL22.1 ((R_reads' (R_after (ok := (fun k_ => (P0_ k_ ∨ w.heap.size <= k_))) (PR HO_0.1) hg hat)).2.1))) (ho) ?_; clear HO_0 HB HK HR1052 HR1062 HO1058; intro HO_0 HB HK HR1052 HR1062 HO1065; clear ho hb hg hat))
   go_ret
   exact ⟨_, RF, RPE (R_mono HO1065.1 (fun _ hk => hk.1)), BL HB.1, KL HK.1⟩
 replace H := nameB H; obtain ⟨y1066, Ny1066, H⟩ := H
 replace H := ifP H; obtain ⟨c24, H⟩ := H
 have c24b0 := eq_true c24
 have c24b1 := decide_eq_true c24
 clear c24
 replace H := ifP H; obtain ⟨c25, H⟩ := H
 have c25b0 := eq_true c25
 have c25b1 := decide_eq_true c25
 clear c25
 replace H := nameB H; obtain ⟨y1069, Ny1069, H⟩ := H
 replace H := ifP H; obtain ⟨c26, H⟩ := H
 have LMc26 := Aside0.mk c26
 clear c26
 replace H := nameB H; obtain ⟨y1073, Ny1073, H⟩ := H
 replace H := ifP H; obtain ⟨c27, H⟩ := H
 have LMc27 := Aside0.mk c27
 clear c27
 replace H := nameB H; obtain ⟨y1076, Ny1076, H⟩ := H
 have c28b0 := eq_true (OD : 0 <= x5_1)
 have c29b0 := eq_true (OD : x5_1 <= (l0.length : Int))
 replace H := nameB H; obtain ⟨y1079, Ny1079, H⟩ := H
 replace H := ifP H; obtain ⟨c30, H⟩ := H
 have LMc30 := Aside0.mk c30
 clear c30
 generalize hy1083 : ((y1076 ++ y1079) : List Int) = y1083 at H
 have Ny1083 := Aside0.mk hy1083.symm; clear hy1083
 obtain rfl := Option.some.inj H
 obtain ⟨Ao31, co31, eo31⟩ := R_slice HO_0.1
 subst eo31
 go_wp2_with (first | ((with_reducible refine gate_dst (N := 34) rfl ?_); refine R_lit (Kd.int .i64) _ 3 ?hg (N := 34) ?hd (xs := ([] : List Int)) (inner := []) (ok := fun _ => True) (okp := fun _ => True) ?hr ?hp (fun _ hk => hk) trivial (Below.refl _ _) (Nat.le_refl _) (by simp) ?_; (case hd => rfl); (case hg => rfl); (case hr => first | (go_simp; done) | (go_simp; rfl)); (case hp => exact (Reps.none _ _)); intro v1067 w32 ho33 hb hg_ hnew_; clear hg_ hnew_; (first | rw [<- Ny1066.1] at ho33 | (simp only [Int.reduceToNat] at ho33; rw [<- Ny1066.1] at ho33)); refine E4 (R_elder' (PR HO_0.1) (R_base ho33) hb) (R_lower (R_new' (R_newM (M := fun k_ => (P0_ k_ ∨ w.heap.size <= k_)) ho33 (by first | exact HK.1.1 | exact (show Kept w _ (fun k_ => P0_ k_) from KL HK.1).1) (fun k_ h_ => .inr h_)) (R_lt (PR HO_0.1))) (bZ HB.1)) (Kept.below (S := (fun k_ => P0_ k_)) (KL HK.1) hb) (bS HB.1 hb) ?_; clear HO_0 HK HB; intro HO_0 HO1068 HK HB; clear hb ho33; have q34 : (x5_1 : Int) <= ((l0.length : Int) : Int) := OD; obtain ⟨i034, hi034, _, hsz34, _⟩ := info_parts info3; have hroom34 : l0.length <= co31 := (R_reads' HO_0.1).2.1; have hC34 : Kd.C (Kd.int .i64) _ Ao31 l0.length l0 := (R_reads' HO_0.1).2.2; have hcut34 := cut_to (P := Try.prog) 38 3 .i64 Try.underlying38 hi034 Ao31 l0.length co31 x5_1 (OD) q34 hroom34; have hr34 := C_take (m := (x5_1 : Int).toNat) hC34 (by omega); have hy34 : y1069.length = (x5_1 : Int).toNat := (by rw [Ny1069.1, List.length_take]; omega); rw [<- Ny1069.1] at hr34; rw [<- hy34] at hcut34; have HR1072 := Aside0.mk hr34; have HC1072 := Aside0.mk (show y1069.length <= co31 from by omega); clear hr34 hC34 hroom34 hi034 hsz34; have KY34 := Aside0.mk hy34; clear hy34; have KL34 := Aside0.mk (show (x5_1 : Int).toNat <= l0.length from by omega); replace q34 := eq_true q34) | ((with_reducible refine gate_builtin (b := .append) (xs := #[.tmp 34, .tmp 37]) rfl ?_); at_builtin; refine R_append_rows (Kd.int .i64) (w0 := w0) w0.heap.size rfl (.tmp 34) (.tmp 37) 38 3 (.int .i64 0) 8 rfl Try.underlying38 info3 rfl (by decide) (by omega) v1067 y1066 y1069 _ _ _ (fun k_ => (P0_ k_ ∨ w.heap.size <= k_) /\ some k_ ≠ (.slice Ao31 l0.length co31 : Value).ownBlock) (fun _ => False) rfl rfl ?aO ?aR (fun _ _ h => h) (fun _ h => h.elim) ?aF ?aB ?aS ?aL ?_; (case aR => repeat (first | exact (by repeat (first | (with_reducible exact HR1072.1) | (with_reducible refine C_alloc ?_ _) | (with_reducible refine C_drewN ?_ _) | (with_reducible refine C_drew ?_) | exact HR1072.1)) | (with_reducible refine C_alloc ?_ _) | (with_reducible refine C_drewN ?_ _) | (with_reducible refine C_drew ?_))); (case aB => exact (BL HB.1)); (case aF => exact (fun k_ hk => ⟨(.inr (Nat.le_trans (by first | exact HK.1.1 | exact (show Kept w _ (fun k_ => P0_ k_) from KL HK.1).1) hk)), Kd.fresh' (R_lt (PR HO_0.1)) k_ hk⟩)); (case aO => exact (RPE (R_mono HO1068.1 (fun _ hk => ⟨hk.1.1, hk.2⟩)))); (case aS => exact (bZ HB.1)); (case aL => have := LMc26.1; omega); intro v1074 w35 ho hb hg hat; rw [<- Ny1073.1] at ho; refine E5 (R_after (ok := (fun k_ => (P0_ k_ ∨ w.heap.size <= k_))) (PR HO_0.1) hg hat) (hb) (Kept.of_grown (S := (fun k_ => P0_ k_)) hg (KL HK.1) (fun k_ e_ => (HO1068.1.1 k_ e_).1.1)) ((show Kd.C (Kd.int .i64) w35 Ao31 y1069.length y1069 from by rw [Ny1069.1]; exact C_take (m := (x5_1 : Int).toNat) ((R_reads' (R_after (ok := (fun k_ => (P0_ k_ ∨ w.heap.size <= k_))) (PR HO_0.1) hg hat)).2.2) KL34.1)) (ho) ?_; clear HO_0 HB HK HR1072 HO1068; intro HO_0 HB HK HR1072 HO1075; clear ho hb hg hat) | ((with_reducible refine gate_builtin (b := .append) (xs := #[.tmp 39, .tmp 41]) rfl ?_); at_builtin; refine R_append (Kd.int .i64) (w0 := w0) w0.heap.size rfl (.tmp 39) (.tmp 41) 38 3 (.int .i64 0) 8 rfl Try.underlying38 info3 rfl (by decide) (by omega) v1074 y1073 a1 [.int .i64 a1] (fun k_ => (P0_ k_ ∨ w.heap.size <= k_) /\ some k_ ≠ (.slice Ao31 l0.length co31 : Value).ownBlock) (fun _ => False) rfl rfl ?aP (fun _ hk => hk.elim) ?aF ?aO ?aB ?aS ?aL ?_; (case aP => exact rfl); (case aB => exact (BL HB.1)); (case aF => exact (fun k_ hk => ⟨(.inr (Nat.le_trans (by first | exact HK.1.1 | exact (show Kept w _ (fun k_ => P0_ k_) from KL HK.1).1) hk)), Kd.fresh' (R_lt (PR HO_0.1)) k_ hk⟩)); (case aO => exact (PR HO1075.1)); (case aS => exact (bZ HB.1)); (case aL => have := LMc27.1; omega); intro v1077 w36 ho hb hg hat; rw [<- Ny1076.1] at ho; refine E5 (R_after (ok := (fun k_ => (P0_ k_ ∨ w.heap.size <= k_))) (PR HO_0.1) hg hat) (hb) (Kept.of_grown (S := (fun k_ => P0_ k_)) hg (KL HK.1) (fun k_ e_ => (HO1075.1.1 k_ e_).1)) ((show Kd.C (Kd.int .i64) w36 Ao31 y1069.length y1069 from by rw [Ny1069.1]; exact C_take (m := (x5_1 : Int).toNat) ((R_reads' (R_after (ok := (fun k_ => (P0_ k_ ∨ w.heap.size <= k_))) (PR HO_0.1) hg hat)).2.2) KL34.1)) (ho) ?_; clear HO_0 HB HK HR1072 HO1075; intro HO_0 HB HK HR1072 HO1078; clear ho hb hg hat; have q37 : (x5_1 : Int) <= ((l0.length : Int) : Int) := OD; obtain ⟨i037, hi037, _, hsz37, _⟩ := info_parts info3; have hroom37 : l0.length <= co31 := (R_reads' HO_0.1).2.1; have hC37 : Kd.C (Kd.int .i64) _ Ao31 l0.length l0 := (R_reads' HO_0.1).2.2; have q037 : (0 : Int) <= (x5_1 : Int) := OD; have hcut37 := cut_from (P := Try.prog) 38 3 .i64 Try.underlying38 hi037 1 hsz37 Ao31 l0.length co31 x5_1 q037 q37; have hr37 := C_drop (m := (x5_1 : Int).toNat) (c := co31) hC37 (by omega) hroom37; obtain ⟨A37, hA37⟩ : ∃ A1, A1 = (if co31 = (x5_1 : Int).toNat then Ao31 else (Ao31 : Option Addr).map (·.add ((x5_1 : Int).toNat * 1))) := ⟨_, rfl⟩; obtain ⟨c37, hc37⟩ : ∃ c1, c1 = co31 - (x5_1 : Int).toNat := ⟨_, rfl⟩; have hy37 : y1079.length = l0.length - (x5_1 : Int).toNat := (by rw [Ny1079.1, List.length_drop] <;> omega); rw [show (l0).drop (x5_1 : Int).toNat = y1079 from Ny1079.1.symm] at hr37; replace hr37 : Kd.C (Kd.int .i64) _ A37 y1079.length y1079 := (by rw [hA37]; exact hr37); rw [<- hy37, <- hA37, <- hc37] at hcut37; have HR1082 := Aside0.mk hr37; have HC1082 := Aside0.mk (show y1079.length <= c37 from by rw [hy37, hc37]; exact Nat.sub_le_sub_right hroom37 _); clear hr37 hC37 hroom37 hi037 hsz37 hc37; have KY37 := Aside0.mk hy37; have KA37 := Aside0.mk hA37; clear hy37 hA37; have KL37 := Aside0.mk (show (x5_1 : Int).toNat <= l0.length from by omega); replace q37 := eq_true q37) | ((with_reducible refine gate_builtin (b := .append) (xs := #[.tmp 43, .tmp 46]) rfl ?_); at_builtin; refine R_append_rows (Kd.int .i64) (w0 := w0) w0.heap.size rfl (.tmp 43) (.tmp 46) 38 3 (.int .i64 0) 8 rfl Try.underlying38 info3 rfl (by decide) (by omega) v1077 y1076 y1079 _ _ _ (fun k_ => (P0_ k_ ∨ w.heap.size <= k_) /\ some k_ ≠ (.slice Ao31 l0.length co31 : Value).ownBlock) (fun _ => False) rfl rfl ?aO ?aR (fun _ _ h => h) (fun _ h => h.elim) ?aF ?aB ?aS ?aL ?_; (case aR => repeat (first | exact (by repeat (first | (with_reducible exact HR1082.1) | (with_reducible refine C_alloc ?_ _) | (with_reducible refine C_drewN ?_ _) | (with_reducible refine C_drew ?_) | exact HR1082.1)) | (with_reducible refine C_alloc ?_ _) | (with_reducible refine C_drewN ?_ _) | (with_reducible refine C_drew ?_))); (case aB => exact (BL HB.1)); (case aF => exact (fun k_ hk => ⟨(.inr (Nat.le_trans (by first | exact HK.1.1 | exact (show Kept w _ (fun k_ => P0_ k_) from KL HK.1).1) hk)), Kd.fresh' (R_lt (PR HO_0.1)) k_ hk⟩)); (case aO => exact (PR HO1078.1)); (case aS => exact (bZ HB.1)); (case aL => have := LMc30.1; omega); intro v1084 w38 ho hb hg hat; rw [<- Ny1083.1] at ho; refine E6 (R_after (ok := (fun k_ => (P0_ k_ ∨ w.heap.size <= k_))) (PR HO_0.1) hg hat) (hb) (Kept.of_grown (S := (fun k_ => P0_ k_)) hg (KL HK.1) (fun k_ e_ => (HO1078.1.1 k_ e_).1)) ((show Kd.C (Kd.int .i64) w38 Ao31 y1069.length y1069 from by rw [Ny1069.1]; exact C_take (m := (x5_1 : Int).toNat) ((R_reads' (R_after (ok := (fun k_ => (P0_ k_ ∨ w.heap.size <= k_))) (PR HO_0.1) hg hat)).2.2) KL34.1)) ((show Kd.C (Kd.int .i64) w38 A37 y1079.length y1079 from by rw [Ny1079.1, KA37.1]; exact C_drop (m := (x5_1 : Int).toNat) (c := co31) ((R_reads' (R_after (ok := (fun k_ => (P0_ k_ ∨ w.heap.size <= k_))) (PR HO_0.1) hg hat)).2.2) KL37.1 ((R_reads' (R_after (ok := (fun k_ => (P0_ k_ ∨ w.heap.size <= k_))) (PR HO_0.1) hg hat)).2.1))) (ho) ?_; clear HO_0 HB HK HR1072 HR1082 HO1078; intro HO_0 HB HK HR1072 HR1082 HO1085; clear ho hb hg hat))
 go_ret
 exact ⟨_, RF, RPE (R_mono HO1085.1 (fun _ hk => hk.1)), BL HB.1, KL HK.1⟩
end Go.Proofs.Ytbpfdbjnnlmdjaa.P
