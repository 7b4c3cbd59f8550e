import Derived.Test.YtbpfdbjnnlmdjaaPx0
import Derived.Test.YtbpfdbjnnlmdjaaPx3
import Derived.Test.YtbpfdbjnnlmdjaaPx4
import Derived.Test.YtbpfdbjnnlmdjaaPx6
namespace Go.Proofs.Ytbpfdbjnnlmdjaa.P
open Go.RowKit Go.Proofs.YtbpfdbjnnlmdjaaW.PrintWords Go.Proofs.YtbpfdbjnnlmdjaaW.PrintLast Go.Proofs.YtbpfdbjnnlmdjaaW.PrintMore
attribute [local go_sem] max2_int min2_int max_two min_two max_three min_three max_four min_four
set_option linter.unusedVariables false
set_option linter.unusedSimpArgs false
open Kd
mutual
def impl_reachedStates.l0 : Nat -> List Int -> List (List Int) -> List Bool -> List Int -> Option (List Bool)
 | 0, _, _, _, _ => none
 | k + 1, x1, x5, x6, x8 => if (x8.length : Int) > 0 then (if 0 < (x8.length : Int) then (if 1 <= (x8.length : Int) then (impl_reachedStates.l1 k x1 x5 x6 (x8.drop (1 : Int).toNat) (rd x8 0) (x1.length : Int) 0) else (none)) else (none)) else (some x6)
def impl_reachedStates.l1 : Nat -> List Int -> List (List Int) -> List Bool -> List Int -> Int -> Int -> Int -> Option (List Bool)
 | 0, _, _, _, _, _, _, _ => none
 | k + 1, x1, x5, x6, x8, x9, x37, x38 => if x38 < x37 then (if 0 <= x38 then (if x38 < (x5.length : Int) then (if 0 <= x9 then (if x9 < ((rd_L3 x5 x38).length : Int) then (if 0 <= (rd (rd_L3 x5 x38) x9) then (if (rd (rd_L3 x5 x38) x9) < (x6.length : Int) then (if (rdOf false x6 (rd (rd_L3 x5 x38) x9) = true) then (impl_reachedStates.l1 k x1 x5 x6 x8 x9 x37 (wrap64 (x38 + 1))) else (if x8.length < 17592186044416 then (impl_reachedStates.l1 k x1 x5 (x6.set ((rd (rd_L3 x5 x38) x9) : Int).toNat true) (x8 ++ [rd (rd_L3 x5 x38) x9]) x9 x37 (wrap64 (x38 + 1))) else (none))) else (none)) else (none)) else (none)) else (none)) else (none)) else (none)) else (impl_reachedStates.l0 k x1 x5 x6 x8)
end
def impl_reachedStates.f (k : Nat) (a0_0 : Int) (a0_1 : Int) (l0_2 : List (S83)) (l1 : List Int) : Option (List Bool) := (impl_numbersAfter.f k a0_0 a0_1 l0_2 l1).bind fun t943 => ((impl_unitsOf.f k a0_0 a0_1 l0_2).bind fun t946 => (if 0 <= (shl .i64 1 (t946.length : Int)) then (if (shl .i64 1 (t946.length : Int) : Int).toNat <= 281474976710656 then ((some (List.replicate (shl .i64 1 (t946.length : Int) : Int).toNat false : List Bool)).bind fun y949 => ((impl_bitsOf.f k a0_0 a0_1 l0_2).bind fun t952 => ((impl_numberOf.f k t952).bind fun t955 => (if 0 <= t955 then (if t955 < (y949.length : Int) then (impl_reachedStates.l0 k l1 t943 (y949.set (t955 : Int).toNat true) (([t955] : List Int))) else (none)) else (none))))) else (none)) else (none)))
theorem impl_reachedStates.mono_l : ∀ k, (∀ y0 y1 y2 y3, LeO (impl_reachedStates.l0 k y0 y1 y2 y3) (impl_reachedStates.l0 (k + 1) y0 y1 y2 y3)) /\ (∀ y0 y1 y2 y3 y4 y5 y6, LeO (impl_reachedStates.l1 k y0 y1 y2 y3 y4 y5 y6) (impl_reachedStates.l1 (k + 1) y0 y1 y2 y3 y4 y5 y6))
 | 0 => by refine ⟨?_, ?_⟩ <;> (intros; intro r h; first | (simp [impl_reachedStates.l0] at h; done) | (simp [impl_reachedStates.l1] at h; done))
 | k + 1 => by
  obtain ⟨ih0, ih1⟩ := impl_reachedStates.mono_l k
  refine ⟨?_, ?_⟩ <;> (
   intros
   first | unfold impl_reachedStates.l0 | unfold impl_reachedStates.l1
   exact LM6 ih0 ih1 impl_bitsOf.mono impl_numberOf.mono impl_numbersAfter.mono impl_unitsOf.mono)
theorem impl_reachedStates.mono : ∀ a0 a1 a2 a3 k, LeO (impl_reachedStates.f k a0 a1 a2 a3) (impl_reachedStates.f (k + 1) a0 a1 a2 a3) := by
 intro a0 a1 a2 a3 k
 obtain ⟨ih0, ih1⟩ := impl_reachedStates.mono_l k
 unfold impl_reachedStates.f
 exact LM6 ih0 ih1 impl_bitsOf.mono impl_numberOf.mono impl_numbersAfter.mono impl_unitsOf.mono
set_option maxHeartbeats 8000000 in
set_option maxRecDepth 100000 in
theorem impl_reachedStates.calls (k : Nat) (a0_0 : Int) (a0_1 : Int) (A0_2 : Option Addr) (c0_2 : Nat) (l0_2 : List (S83)) (A1 : Option Addr) (c1 : Nat) (l1 : List Int) (r : List Bool) (w : World) (hr0_2 : Kd.C k83 w A0_2 l0_2.length l0_2) (hc0_2 : l0_2.length <= c0_2) (hr1 : Kd.C (Kd.int .i64) w A1 l1.length l1) (hc1 : l1.length <= c1) (h : impl_reachedStates.f k a0_0 a0_1 l0_2 l1 = some r) :
 Calls Try.prog 63 #[.agg #[.int .i64 a0_0, .int .i64 a0_1, .slice A0_2 l0_2.length c0_2], .slice A1 l1.length c1] w fun e w' => ∃ v0_ : Value, e = .returned (v0_) /\ Kd.R Kd.bool 4 w' w.heap.size (fun _ => True) v0_ r /\ Below w.heap.size w w' := by
 have hu30 := Try.underlying30
 have HR0_2 := Aside0.mk hr0_2
 have HC0_2 := Aside0.mk hc0_2
 clear hr0_2 hc0_2
 have HR1 := Aside0.mk hr1
 have HC1 := Aside0.mk hc1
 clear hr1 hc1
 have HB := Aside0.mk (Below.refl w.heap.size w)
 have H := h
 clear h
 unfold impl_reachedStates.f at H
 replace H := bindA H; obtain ⟨t943, A3, H⟩ := H
 replace H := bindA H; obtain ⟨t946, A4, H⟩ := H
 obtain ⟨ji5, hji5⟩ : ∃ j_ : Int, (shl .i64 1 (t946.length : Int)) = j_ := ⟨_, rfl⟩
 replace H : (if 0 <= (ji5) then (if (ji5 : Int).toNat <= 281474976710656 then ((some (List.replicate (ji5 : Int).toNat false : List Bool)).bind fun y949 => ((impl_bitsOf.f k a0_0 a0_1 l0_2).bind fun t952 => ((impl_numberOf.f k t952).bind fun t955 => (if 0 <= t955 then (if t955 < (y949.length : Int) then (impl_reachedStates.l0 k l1 t943 (y949.set (t955 : Int).toNat true) (([t955] : List Int))) else (none)) else (none))))) else (none)) else (none)) = some r := by first | (rw [hji5] at H; exact H) | (simp only [hji5] at H ⊢; exact H)
 (try rw [hji5] at A3)
 (try rw [hji5] at A4)
 have hji5_ : (IntKind.i64.wrap (1 * 2 ^ min (t946.length : Int).toNat 64)) = ji5 := hji5
 have hji5z : (t946.length : Int) <= 64 -> (IntKind.i64.wrap (1 * 2 ^ (t946.length : Int).toNat)) = ji5 := shl_small hji5
 have hji5p : (IntKind.i64.wrap (1 * 2 ^ min t946.length 64)) = ji5 := hji5_
 have hji5q : (t946.length : Int) <= 64 -> (IntKind.i64.wrap (1 * 2 ^ t946.length)) = ji5 := hji5z
 have hji5r : (IntKind.i64.wrap (2 ^ min t946.length 64)) = ji5 := by have h_ := hji5p; rw [Int.one_mul] at h_; exact h_
 have hji5s : (t946.length : Int) <= 64 -> (IntKind.i64.wrap (2 ^ t946.length)) = ji5 := fun hle_ => by have h_ := hji5q hle_; rw [Int.one_mul] at h_; exact h_
 have hji5u : (IntKind.i64.wrap (2 ^ min (t946.length : Int).toNat 64)) = ji5 := by have h_ := hji5_; rw [Int.one_mul] at h_; exact h_
 have hji5v : (t946.length : Int) <= 64 -> (IntKind.i64.wrap (2 ^ (t946.length : Int).toNat)) = ji5 := fun hle_ => by have h_ := hji5z hle_; rw [Int.one_mul] at h_; exact h_
 have hji5y : (wrap64 (1 * 2 ^ min (t946.length : Int).toNat 64)) = ji5 := (i64_w _).symm.trans hji5_
 have hji5x : (t946.length : Int) <= 64 -> (wrap64 (1 * 2 ^ (t946.length : Int).toNat)) = ji5 := fun h_ => (i64_w _).symm.trans (hji5z h_)
 replace H := ifP H; obtain ⟨c6, H⟩ := H
 have c6b0 := eq_true c6
 have c6b1 := decide_eq_true c6
 clear c6
 replace H := ifP H; obtain ⟨c7, H⟩ := H
 have c7b0 := eq_true c7
 have c7b1 := decide_eq_true c7
 clear c7
 replace H := nameB H; obtain ⟨y949, Ny949, H⟩ := H
 replace H := bindA H; obtain ⟨t952, A8, H⟩ := H
 replace H := bindA H; obtain ⟨t955, A9, H⟩ := H
 replace H := ifN H; obtain ⟨c10b0, H⟩ := H
 replace H := ifN H; obtain ⟨c11b0, H⟩ := H
 generalize hy956 : ((y949.set (t955 : Int).toNat true) : List Bool) = y956 at H
 have Ny956 := Aside0.mk hy956.symm; clear hy956
 generalize hy957 : ((([t955] : List Int)) : List Int) = y957 at H
 have Ny957 := Aside0.mk hy957.symm; clear hy957
 have H' := Aside0.mk H
 clear H
 go_enter Try.func63, Try.ntmps63
 go_wp2_with (first | ((with_reducible refine gate_dst (N := 2) rfl ?_); refine boxE (cs := #[.int .i64 a0_0, .int .i64 a0_1, .slice A0_2 l0_2.length c0_2]) (t := 30) ?_; intro gb942 hg w13 hbox hb; refine E4b HB.1 hg hbox hb ?_; clear HB; intro HB BK942 GW942 GE942; clear hb hbox hg; obtain ⟨hcz14_0, hcz14_1, hcz14_2, hfz14_0, hfz14_1, hfz14_2⟩ := cz3 BK942.1) | ((with_reducible refine gate_callee (f := 48) rfl ?_); refine goesM (N := (some 14)) #[.agg #[.int .i64 a0_0, .int .i64 a0_1, .slice A0_2 l0_2.length c0_2], .slice A1 l1.length c1] Try.func48 ?_; (with_reducible refine (impl_numbersAfter.calls k a0_0 a0_1 _ _ l0_2 _ _ l1 t943 _ ?side1 ?side2 ?side3 ?side4 A3.1).mono ?_); (case side1 => exact CB (C_below HR0_2.1 HB.1)); (case side2 => exact HC0_2.1); (case side3 => exact CB (C_below HR1.1 HB.1)); (case side4 => exact HC1.1); rintro e w15 ⟨v944, rfl, ho0, hb⟩; refine ⟨_, rfl, ?_⟩; refine E3 (S_lower ho0 (bZ HB.1)) (bB BK942.1 hb) (bS HB.1 hb) ?_; clear BK942 HB; intro HO945 BK942 HB; (try clear hb); (try clear ho0); obtain ⟨hcz16_0, hcz16_1, hcz16_2, hfz16_0, hfz16_1, hfz16_2⟩ := cz3 BK942.1) | ((with_reducible refine gate_callee (f := 61) rfl ?_); refine goesM (N := (some 16)) #[.agg #[.int .i64 a0_0, .int .i64 a0_1, .slice A0_2 l0_2.length c0_2]] Try.func61 ?_; (with_reducible refine (impl_unitsOf.calls k a0_0 a0_1 _ _ l0_2 t946 _ ?side1 ?side2 A4.1).mono ?_); (case side1 => exact CB (C_below HR0_2.1 HB.1)); (case side2 => exact HC0_2.1); rintro e w17 ⟨v947, rfl, ho0, hb⟩; refine ⟨_, rfl, ?_⟩; refine E4 (S_elder' (PS HO945.1) (S_base ho0) hb) (S_lower (S_new' ho0 (S_lt (PS HO945.1))) (bZ HB.1)) (bB BK942.1 hb) (bS HB.1 hb) ?_; clear HO945 BK942 HB; intro HO945 HO948 BK942 HB; (try clear hb); (try clear ho0); obtain ⟨Ao18, co18, eo18⟩ := S_slice HO948.1; subst eo18) | ((with_reducible refine gate_dst (N := 19) rfl ?_); refine R_make Kd.bool _ 4 rfl (N := 19) rfl 67 _ _ rfl ji5 rfl rfl Try.underlying67 (.bool false) 1 info4 rfl (by decide) (by omega) false (ok := fun _ => True) (okp := fun _ => True) rfl (fun _ hk => hk) trivial (OD) (Nat.le_trans (Nat.mul_le_mul_right _ (OD : ji5.toNat <= 281474976710656)) (by omega)) (Below.refl _ _) (Nat.le_refl _) ?_; intro v950 w19 ho20 hb hg_ hnew_; clear hg_ hnew_; (first | rw [<- Ny949.1] at ho20 | (simp only [Int.reduceToNat] at ho20; rw [<- Ny949.1] at ho20)); refine E5 (sB HO945.1 hb) (sB HO948.1 hb) (R_lower ho20 (bZ HB.1)) (bB BK942.1 hb) (bS HB.1 hb) ?_; clear HO945 HO948 BK942 HB; intro HO945 HO948 HO951 BK942 HB; clear hb ho20; obtain ⟨hcz21_0, hcz21_1, hcz21_2, hfz21_0, hfz21_1, hfz21_2⟩ := cz3 BK942.1) | ((with_reducible refine gate_callee (f := 50) rfl ?_); refine goesM (N := (some 21)) #[.agg #[.int .i64 a0_0, .int .i64 a0_1, .slice A0_2 l0_2.length c0_2]] Try.func50 ?_; (with_reducible refine (impl_bitsOf.calls k a0_0 a0_1 _ _ l0_2 t952 _ ?side1 ?side2 A8.1).mono ?_); (case side1 => exact CB (C_below HR0_2.1 HB.1)); (case side2 => exact HC0_2.1); rintro e w22 ⟨v953, rfl, ho0, hb⟩; refine ⟨_, rfl, ?_⟩; refine E6 (S_elder' (PS HO945.1) (R_base ho0) hb) (S_elder' (PS HO948.1) (R_base ho0) hb) (rB HO951.1 hb) (R_lower ho0 (bZ HB.1)) (bB BK942.1 hb) (bS HB.1 hb) ?_; clear HO945 HO948 HO951 BK942 HB; intro HO945 HO948 HO951 HO954 BK942 HB; (try clear hb); (try clear ho0); obtain ⟨Ao23, co23, eo23⟩ := R_slice HO954.1; subst eo23) | ((with_reducible refine gate_callee (f := 49) rfl ?_); refine goesM (N := (some 22)) #[.slice Ao23 t952.length co23] Try.func49 ?_; (with_reducible refine (impl_numberOf.calls k _ _ t952 t955 _ ?side1 ?side2 A9.1).mono ?_); (case side1 => exact CB (R_reads' HO954.1).2.2); (case side2 => exact (R_reads' HO954.1).2.1); rintro e w' ⟨rfl, ⟨nd, rfl⟩⟩; refine ⟨_, rfl, ?_⟩; (try (rw [drewN_self w22]; generalize hq_ : World.drewN w22 _ = w22; have n0_ : Aside0 (Kd.S (Kd.slice 3 (Kd.int .i64)) 38 w22 w.heap.size (fun k_ => some k_ ≠ (.slice Ao18 t946.length co18 : Value).ownBlock /\ some k_ ≠ (.slice Ao23 t952.length co23 : Value).ownBlock) v944 t943) := ⟨by rw [<- hq_]; exact (SPE (S_mono HO945.1 (fun _ hk => ⟨hk.1.2, hk.2⟩)))⟩; have n1_ : Aside0 (Kd.S (Kd.slice 3 (Kd.int .i64)) 38 w22 w.heap.size (fun k_ => some k_ ≠ (v944 : Value).ownBlock /\ some k_ ≠ (.slice Ao23 t952.length co23 : Value).ownBlock) (.slice Ao18 t946.length co18) t946) := ⟨by rw [<- hq_]; exact (SPE (S_mono HO948.1 (fun _ hk => ⟨hk.1.2, hk.2⟩)))⟩; have n2_ : Aside0 (Kd.R Kd.bool 4 w22 w.heap.size (fun _ => True) v950 y949) := ⟨by rw [<- hq_]; exact (PR HO951.1)⟩; have n3_ : Aside0 (Kd.R (Kd.int .i64) 3 w22 w.heap.size (fun _ => True) (.slice Ao23 t952.length co23) t952) := ⟨by rw [<- hq_]; exact (PR HO954.1)⟩; have n4_ : Aside0 (w22.heap[gb942]? = some (.cells #[.int .i64 a0_0, .int .i64 a0_1, .slice A0_2 l0_2.length c0_2] 30 (0, 0))) := ⟨by rw [<- hq_]; exact (PB BK942.1)⟩; have n5_ : Aside0 (Below w.heap.size w w22) := ⟨by rw [<- hq_]; exact (BL HB.1)⟩; clear HO945 HO948 HO951 HO954 BK942 HB hq_; have HO945 := n0_; have HO948 := n1_; have HO951 := n2_; have HO954 := n3_; have BK942 := n4_; have HB := n5_; clear n0_ n1_ n2_ n3_ n4_ n5_)); have p12 : 0 <= (t955 : Int) := OD; have q12 : (t955 : Int) < ((y949.length : Int) : Int) := OD; obtain ⟨go12, co12, eo12, gb12, gl12, cl12, HG12⟩ := R_form HO951.1 (by omega); (first | cases eo12 | (injection eo12 with ea_ en_ ec_; (first | subst ea_ | (injection ea_ with ea_; subst ea_)); subst ec_; clear en_)); have GB12 := Aside0.mk gb12; have GG12 := Aside0.mk HG12; clear gb12 gl12 HG12; obtain ⟨hx12_0, hf12_0⟩ := R_celln false HO951.1 (t955 : Int) p12 q12; replace p12 := eq_true p12; replace q12 := eq_true q12; obtain ⟨hy24_, hz24_⟩ := R_celln false HO951.1 (t955 : Int) (OD) (OD); have HP24 := R_putg HO951.1 (t955 : Int) true) | ((with_reducible refine gate_store (t := 4) (p := 25) rfl ?_); refine storeE (t := 4) (p := 25) (w1 := (w22.setCell ⟨go12, (t955 : Int).toNat, none⟩ (.bool true))) ?_; intro w25 hw; have hg : w22.grownBy w25 (some go12) := (by rw [hw]; exact HP24.2); have hp_ : Kd.R Kd.bool 4 w25 w.heap.size (fun _ => True) (.slice (some ⟨go12, 0, none⟩) y949.length co12) y956 := (by rw [hw, Ny956.1]; exact HP24.1); clear HP24; refine E6 (bG BK942.1 hg (R_ne HO951.1 BK942.1 (by decide))) (S_over' (v := (.slice (some ⟨go12, 0, none⟩) y949.length co12)) (PS HO945.1) (R_typed HO951.1) (by decide) hg) (S_over' (v := (.slice (some ⟨go12, 0, none⟩) y949.length co12)) (PS HO948.1) (R_typed HO951.1) (by decide) hg) (hp_) (R_over' (v := (.slice (some ⟨go12, 0, none⟩) y949.length co12)) (PR HO954.1) (R_typed HO951.1) (by decide) hg) ((by rw [hw]; exact below_set (HB.1) GB12.1 : Below w.heap.size w w25)) ?_; clear BK942 HO945 HO948 HO951 HO954 HB; intro BK942 HO945 HO948 HO951 HO954 HB; clear hg hw hp_) | ((with_reducible refine gate_dst (N := 27) rfl ?_); refine R_lit (Kd.int .i64) _ 3 ?hg (N := 27) ?hd (xs := ([t955] : List Int)) (inner := [.int .i64 t955]) (ok := fun _ => True) (okp := fun _ => True) ?hr ?hp (fun _ hk => hk) trivial (Below.refl _ _) (Nat.le_refl _) (by simp) ?_; (case hd => rfl); (case hg => rfl); (case hr => first | (go_simp; done) | (go_simp; rfl)); (case hp => exact (Reps.one (show Kd.M (Kd.int .i64) _ _ _ t955 [.int .i64 t955] from rfl) (Reps.none _ _))); intro v958 w26 ho27 hb hg_ hnew_; clear hg_ hnew_; (first | rw [<- Ny957.1] at ho27 | (simp only [Int.reduceToNat] at ho27; rw [<- Ny957.1] at ho27)); refine E7 (S_elder' (PS HO945.1) (R_base ho27) hb) (S_elder' (PS HO948.1) (R_base ho27) hb) (rB HO951.1 hb) (R_elder' (PR HO954.1) (R_base ho27) hb) (R_lower (R_new' ho27 (R_lt (PR HO954.1))) (bZ HB.1)) (bB BK942.1 hb) (bS HB.1 hb) ?_; clear HO945 HO948 HO951 HO954 BK942 HB; intro HO945 HO948 HO951 HO954 HO959 BK942 HB; clear hb ho27))
 go_loopg [8] k (fun kq v8 w' => ∃ (x6_1 : List Bool) (x8_1 : List Int), Aside0 (impl_reachedStates.l0 kq l1 t943 x6_1 x8_1 = some r) /\ Aside0 (kq <= k) /\ Aside0 (Kd.S (Kd.slice 3 (Kd.int .i64)) 38 w' w.heap.size (fun k_ => some k_ ≠ (v8 : Value).ownBlock) v944 t943) /\ Aside0 (Kd.R Kd.bool 4 w' w.heap.size (fun _ => True) (.slice (some ⟨go12, 0, none⟩) y949.length co12) x6_1) /\ Aside0 (Kd.Q (Kd.int .i64) 3 w' w.heap.size (fun _ => True) v8 x8_1) /\ Aside0 (w'.heap[gb942]? = some (.cells #[.int .i64 a0_0, .int .i64 a0_1, (.slice A0_2 l0_2.length c0_2)] 30 (0, 0))) /\ Aside0 (Below w.heap.size w w'))
 case atStart => exact ⟨(y956), (y957), H', ⟨Nat.le_refl _⟩, ⟨SPE (S_mono HO945.1 (fun _ hk => hk.2))⟩, ⟨PR HO951.1⟩, ⟨Q_of_R (RPE (R_mono HO959.1 (fun _ hk => trivial)))⟩, ⟨PB BK942.1⟩, ⟨BL HB.1⟩⟩
 clear H'
 try clear c1; try clear p12; try clear q12; try clear hx12_0; clear c6b0 c6b1 c7b0 c7b1 c10b0 c11b0 hcz14_0 hcz14_1 hcz14_2 hcz16_0 hcz16_1 hcz16_2 hcz21_0 hcz21_1 hcz21_2 hfz14_0 hfz14_1 hfz14_2 hfz16_0 hfz16_1 hfz16_2 hfz21_0 hfz21_1 hfz21_2
 obtain ⟨x6_1, x8_1, HA, HK1, HO_5, HO_6, HO_8, BK942, HB⟩ := hrel
 have hl6_1 := (R_reads' HO_6.1).1
 rw [hl6_1] at HO_6
 (try simp only [hl6_1])
 (try simp only [hl6_1] at BK942)
 (try simp only [hl6_1] at HO_5)
 (try simp only [hl6_1] at HO_8)
 cases gk with
 | zero => exact absurd HA.1 (by simp [impl_reachedStates.l0])
 | succ k1 => ?_
 have H := HA.1
 clear HA
 simp only [impl_reachedStates.l0] at H
 replace H := ifQ H; rcases H with ⟨c28, H⟩ | ⟨c28, H⟩
 · have c28b0 : decide (0 < (x8_1.length : Int)) = true := decide_eq_true c28
   have c28b1 : decide (0 < x8_1.length) = true := decide_eq_true (by omega)
   clear c28
   replace H := ifP H; obtain ⟨c29, H⟩ := H
   have c29b0 := decide_eq_true c29
   have c29b1 : decide (0 < x8_1.length) = true := decide_eq_true (by omega)
   clear c29
   replace H := ifP H; obtain ⟨c30, H⟩ := H
   have c30b0 := eq_true c30
   have c30b1 := decide_eq_true c30
   clear c30
   generalize hy961 : ((x8_1.drop (1 : Int).toNat) : List Int) = y961 at H
   have Ny961 := Aside0.mk hy961.symm; clear hy961
   have H' := Aside0.mk H
   clear H
   obtain ⟨Ao31, co31, eo31, _⟩ := Q_slice HO_8.1
   subst eo31
   have p960 : 0 <= (0 : Int) := (by omega)
   have q960 : 0 < (x8_1.length : Int) := OD
   obtain ⟨ad960, e960, hx960_0⟩ := Kd.at_int (Q_reads' HO_8.1).2.2 0 p960 q960
   cases e960
   have qi960 : (0 < x8_1.length) = True := eq_true (by omega)
   (try rw [show ((0 : Int)).toNat = 0 from rfl] at hx960_0)
   (try rw [Addr.add_zero'] at hx960_0)
   replace p960 := eq_true p960
   replace q960 := eq_true q960
   have q32 : (1 : Int) <= ((x8_1.length : Int) : Int) := OD
   obtain ⟨i032, hi032, _, hsz32, _⟩ := info_parts info3
   have hcut32 := cut_from (P := Try.prog) 38 3 .i64 Try.underlying38 hi032 1 hsz32 (some ad960) x8_1.length co31 1 (by omega) q32
   have hr32 := Q_drop (k := (1 : Int).toNat) HO_8.1 (by omega)
   obtain ⟨A32, hA32⟩ : ∃ A1, A1 = (if co31 = (1 : Int).toNat then (some ad960) else ((some ad960) : Option Addr).map (·.add ((1 : Int).toNat * 1))) := ⟨_, rfl⟩
   obtain ⟨c32, hc32⟩ : ∃ c1, c1 = co31 - (1 : Int).toNat := ⟨_, rfl⟩
   have hy32 : y961.length = x8_1.length - (1 : Int).toNat := (by rw [Ny961.1, List.length_drop])
   rw [<- Ny961.1] at hr32
   rw [<- hy32, <- hA32, <- hc32] at hcut32
   replace hr32 : Kd.Q (Kd.int .i64) 3 wr w.heap.size (fun _ => True) (.slice A32 y961.length c32) y961 := (by rw [hA32, hc32, hy32]; exact hr32)
   have HE32 : Aside0 ((Value.slice A32 y961.length c32).ownBlock = (.slice (some ad960) x8_1.length co31 : Value).ownBlock) := ⟨by rw [hA32]; split <;> (cases ((some ad960) : Option Addr) <;> rfl)⟩
   clear hy32 hi032 hsz32 HO_8 hA32 hc32
   have HO963 := Aside0.mk hr32
   clear hr32
   replace q32 := eq_true q32
   have n_ := Aside0.mk (S_mono (ok' := fun k_ => some k_ ≠ (.slice A32 y961.length c32 : Value).ownBlock) HO_5.1 (fun k_ hk => (by rw [HE32.1]; exact hk)))
   clear HO_5
   have HO_5 := n_
   clear n_
   go_wp2
   go_loopg [8, 38] k1 (fun kq v8 v38 w' => ∃ (x6_2 : List Bool) (x8_2 : List Int) (x38_2 : Int), v38 = .int .i64 x38_2 /\ Aside0 (impl_reachedStates.l1 kq l1 t943 x6_2 x8_2 (rd x8_1 0) (l1.length : Int) x38_2 = some r) /\ Aside0 (kq <= k1) /\ Aside0 (Kd.S (Kd.slice 3 (Kd.int .i64)) 38 w' w.heap.size (fun k_ => some k_ ≠ (v8 : Value).ownBlock) v944 t943) /\ Aside0 (Kd.R Kd.bool 4 w' w.heap.size (fun _ => True) (.slice (some ⟨go12, 0, none⟩) x6_1.length co12) x6_2) /\ Aside0 (Kd.Q (Kd.int .i64) 3 w' w.heap.size (fun _ => True) v8 x8_2) /\ Aside0 (w'.heap[gb942]? = some (.cells #[.int .i64 a0_0, .int .i64 a0_1, (.slice A0_2 l0_2.length c0_2)] 30 (0, 0))) /\ Aside0 (Below w.heap.size w w'))
   case atStart => exact ⟨(x6_1), (y961), (0), RG, H', ⟨Nat.le_refl _⟩, ⟨PS1 HO_5.1 hl6_1⟩, ⟨PR1 HO_6.1 hl6_1⟩, ⟨by (try simp only [hl6_1]); (with_reducible repeat (first | apply Q_alloc | apply Q_drewN | apply Q_drew)); exact HO963.1⟩, ⟨PB1 BK942.1 hl6_1⟩, ⟨BL HB.1⟩⟩
   clear H'
   try clear c1; try clear c32; try clear q32; try clear hx960_0; try clear p960; try clear q960; clear c28b0 c28b1 c29b0 c29b1 c30b0 c30b1
   obtain ⟨x6_2, x8_2, x38_2, rfl, HA, HK2, HO_5, HO_6, HO_8, BK942, HB⟩ := hrel
   have hl6_2 := (R_reads' HO_6.1).1
   rw [hl6_2] at HO_6
   (try simp only [hl6_2])
   (try simp only [hl6_2] at BK942)
   (try simp only [hl6_2] at HO_5)
   (try simp only [hl6_2] at HO_8)
   cases gk with
   | zero => exact absurd HA.1 (by simp [impl_reachedStates.l1])
   | succ k2 => ?_
   have H := HA.1
   clear HA
   simp only [impl_reachedStates.l1] at H
   replace H := ifB H; rcases H with ⟨c33b0, H⟩ | ⟨c33b0, H⟩
   · replace H := ifN H; obtain ⟨c34b0, H⟩ := H
     replace H := ifN H; obtain ⟨c35b0, H⟩ := H
     replace H := ifN H; obtain ⟨c36b0, H⟩ := H
     replace H := ifN H; obtain ⟨c37b0, H⟩ := H
     replace H := ifN H; obtain ⟨c38b0, H⟩ := H
     replace H := ifN H; obtain ⟨c39b0, H⟩ := H
     obtain ⟨bq40, hbq40⟩ : ∃ b_ : Bool, b_ = (rdOf false x6_2 (rd (rd_L3 t943 x38_2) (rd x8_1 0))) := ⟨_, rfl⟩
     replace H : (if (bq40 = true) then (impl_reachedStates.l1 k2 l1 t943 x6_2 x8_2 (rd x8_1 0) (l1.length : Int) (wrap64 (x38_2 + 1))) else (if x8_2.length < 17592186044416 then (impl_reachedStates.l1 k2 l1 t943 (x6_2.set ((rd (rd_L3 t943 x38_2) (rd x8_1 0)) : Int).toNat true) (x8_2 ++ [rd (rd_L3 t943 x38_2) (rd x8_1 0)]) (rd x8_1 0) (l1.length : Int) (wrap64 (x38_2 + 1))) else (none))) = some r := by rw [<- hbq40] at H; exact H
     have Nbq40 := Aside0.mk hbq40
     clear hbq40
     by_cases c41 : (bq40 = true)
     · subst c41
       have H1 : (impl_reachedStates.l1 k2 l1 t943 x6_2 x8_2 (rd x8_1 0) (l1.length : Int) (wrap64 (x38_2 + 1))) = some r := by rw [if_pos rfl] at H; exact H
       clear H
       have H := H1
       clear H1
       have H' := Aside0.mk H
       clear H
       obtain ⟨Ao42, co42, eo42⟩ := S_slice HO_5.1
       subst eo42
       have p964 : 0 <= (x38_2 : Int) := OD
       have q964 : x38_2 < (t943.length : Int) := OD
       obtain ⟨ad964, A964_0, c964_0, e964, hx964_0, hl964_0, hi964_0⟩ := at_L3 (S_reads' HO_5.1).2.2 x38_2 p964 q964
       cases e964
       obtain ⟨ce964, hce964, hMe964, hcc964⟩ := S_get HO_5.1 [] x38_2 p964 (by first | exact q964 | exact OD | (have e_ := (S_reads' HO_5.1).1; omega))
       obtain ⟨ve964_0, rfl, ge964_0⟩ := hMe964
       have hv964_0 := hcc964 0 _ rfl
       rw [Nat.add_zero, show ((Kd.slice 3 (Kd.int .i64))).sz = 1 from rfl, Nat.mul_one] at hv964_0
       replace hv964_0 := Option.some.inj (hv964_0.symm.trans hx964_0)
       rw [hv964_0] at ge964_0
       have HL964_0 := Aside0.mk (show Kd.R (Kd.int .i64) 3 _ _ _ _ (rd_L3 t943 x38_2) from ge964_0)
       clear hv964_0 ge964_0
       clear hcc964 hce964
       have HR964_0 := Aside0.mk hi964_0
       have HC964_0 := Aside0.mk hl964_0
       clear hi964_0 hl964_0
       replace p964 := eq_true p964
       replace q964 := eq_true q964
       have p965 : 0 <= ((rd x8_1 0) : Int) := OD
       have q965 : (rd x8_1 0) < ((rd_L3 t943 x38_2).length : Int) := OD
       obtain ⟨ad965, e965, hx965_0⟩ := Kd.at_int (by repeat (first | (with_reducible exact HR964_0.1) | (with_reducible refine C_alloc ?_ _) | (with_reducible refine C_drewN ?_ _) | (with_reducible refine C_drew ?_) | exact HR964_0.1)) (rd x8_1 0) p965 q965
       cases e965
       replace p965 := eq_true p965
       replace q965 := eq_true q965
       have p966 : 0 <= ((rd (rd_L3 t943 x38_2) (rd x8_1 0)) : Int) := OD
       have q966 : (rd (rd_L3 t943 x38_2) (rd x8_1 0)) < (x6_2.length : Int) := OD
       obtain ⟨ad966, e966, hx966_0⟩ := Kd.at_bool (R_reads' HO_6.1).2.2 (rd (rd_L3 t943 x38_2) (rd x8_1 0)) p966 q966
       (try rw [<- Nbq40.1] at hx966_0)
       obtain rfl : (⟨go12, 0, none⟩ : Addr) = ad966 := (by injection e966)
       (first | simp only [add_plain] at hx966_0 | simp only [add_at] at hx966_0 | simp only [Addr.add, Nat.zero_add] at hx966_0 | skip)
       replace p966 := eq_true p966
       replace q966 := eq_true q966
       go_wp2
       (try simp only [<- hl6_2])
       go_roundg k2
       case measure => have := HK1.1; have := HK2.1; omega
       case rel => exact ⟨(x6_2), (x8_2), (wrap64 (x38_2 + 1)), RG, H', ⟨by have := HK1.1; have := HK2.1; omega⟩, ⟨PS2 HO_5.1 hl6_1 hl6_2⟩, ⟨PR2 HO_6.1 hl6_1 hl6_2⟩, ⟨by (try simp only [hl6_1]); (try simp only [hl6_2]); (with_reducible repeat (first | apply Q_alloc | apply Q_drewN | apply Q_drew)); exact HO_8.1⟩, ⟨PB2 BK942.1 hl6_1 hl6_2⟩, ⟨BL HB.1⟩⟩
     replace c41 := Bool.eq_false_iff.mpr c41
     subst c41
     have H1 : (if x8_2.length < 17592186044416 then (impl_reachedStates.l1 k2 l1 t943 (x6_2.set ((rd (rd_L3 t943 x38_2) (rd x8_1 0)) : Int).toNat true) (x8_2 ++ [rd (rd_L3 t943 x38_2) (rd x8_1 0)]) (rd x8_1 0) (l1.length : Int) (wrap64 (x38_2 + 1))) else (none)) = some r := by rw [if_neg (show ¬ (false = true) by decide)] at H; exact H
     clear H
     have H := H1
     clear H1
     generalize hy967 : ((x6_2.set ((rd (rd_L3 t943 x38_2) (rd x8_1 0)) : Int).toNat true) : List Bool) = y967 at H
     have Ny967 := Aside0.mk hy967.symm; clear hy967
     replace H := ifP H; obtain ⟨c44, H⟩ := H
     have LMc44 := Aside0.mk c44
     clear c44
     generalize hy968 : ((x8_2 ++ [rd (rd_L3 t943 x38_2) (rd x8_1 0)]) : List Int) = y968 at H
     have Ny968 := Aside0.mk hy968.symm; clear hy968
     have H' := Aside0.mk H
     clear H
     obtain ⟨Ao45, co45, eo45⟩ := S_slice HO_5.1
     subst eo45
     have p964 : 0 <= (x38_2 : Int) := OD
     have q964 : x38_2 < (t943.length : Int) := OD
     obtain ⟨ad964, A964_0, c964_0, e964, hx964_0, hl964_0, hi964_0⟩ := at_L3 (S_reads' HO_5.1).2.2 x38_2 p964 q964
     cases e964
     obtain ⟨ce964, hce964, hMe964, hcc964⟩ := S_get HO_5.1 [] x38_2 p964 (by first | exact q964 | exact OD | (have e_ := (S_reads' HO_5.1).1; omega))
     obtain ⟨ve964_0, rfl, ge964_0⟩ := hMe964
     have hv964_0 := hcc964 0 _ rfl
     rw [Nat.add_zero, show ((Kd.slice 3 (Kd.int .i64))).sz = 1 from rfl, Nat.mul_one] at hv964_0
     replace hv964_0 := Option.some.inj (hv964_0.symm.trans hx964_0)
     rw [hv964_0] at ge964_0
     have HL964_0 := Aside0.mk (show Kd.R (Kd.int .i64) 3 _ _ _ _ (rd_L3 t943 x38_2) from ge964_0)
     clear hv964_0 ge964_0
     clear hcc964 hce964
     have HR964_0 := Aside0.mk hi964_0
     have HC964_0 := Aside0.mk hl964_0
     clear hi964_0 hl964_0
     replace p964 := eq_true p964
     replace q964 := eq_true q964
     have p965 : 0 <= ((rd x8_1 0) : Int) := OD
     have q965 : (rd x8_1 0) < ((rd_L3 t943 x38_2).length : Int) := OD
     obtain ⟨ad965, e965, hx965_0⟩ := Kd.at_int (by repeat (first | (with_reducible exact HR964_0.1) | (with_reducible refine C_alloc ?_ _) | (with_reducible refine C_drewN ?_ _) | (with_reducible refine C_drew ?_) | exact HR964_0.1)) (rd x8_1 0) p965 q965
     cases e965
     replace p965 := eq_true p965
     replace q965 := eq_true q965
     have p966 : 0 <= ((rd (rd_L3 t943 x38_2) (rd x8_1 0)) : Int) := OD
     have q966 : (rd (rd_L3 t943 x38_2) (rd x8_1 0)) < (x6_2.length : Int) := OD
     obtain ⟨ad966, e966, hx966_0⟩ := Kd.at_bool (R_reads' HO_6.1).2.2 (rd (rd_L3 t943 x38_2) (rd x8_1 0)) p966 q966
     (try rw [<- Nbq40.1] at hx966_0)
     obtain rfl : (⟨go12, 0, none⟩ : Addr) = ad966 := (by injection e966)
     (first | simp only [add_plain] at hx966_0 | simp only [add_at] at hx966_0 | simp only [Addr.add, Nat.zero_add] at hx966_0 | skip)
     replace p966 := eq_true p966
     replace q966 := eq_true q966
     have p43 : 0 <= ((rd (rd_L3 t943 x38_2) (rd x8_1 0)) : Int) := OD
     have q43 : ((rd (rd_L3 t943 x38_2) (rd x8_1 0)) : Int) < ((x6_2.length : Int) : Int) := OD
     obtain ⟨hx43_0, hf43_0⟩ := R_celln false HO_6.1 ((rd (rd_L3 t943 x38_2) (rd x8_1 0)) : Int) p43 q43
     replace p43 := eq_true p43
     replace q43 := eq_true q43
     have HP46 := R_putg HO_6.1 ((rd (rd_L3 t943 x38_2) (rd x8_1 0)) : Int) true
     go_wp2_with (first | ((with_reducible refine gate_store (t := 4) (p := 55) rfl ?_); refine storeE (t := 4) (p := 55) (w1 := (wr.setCell ⟨go12, ((rd (rd_L3 t943 x38_2) (rd x8_1 0)) : Int).toNat, none⟩ (.bool true))) ?_; intro w47 hw; have hg : wr.grownBy w47 (some go12) := (by rw [hw]; exact HP46.2); have hp_ : Kd.R Kd.bool 4 w47 w.heap.size (fun _ => True) (.slice (some ⟨go12, 0, none⟩) x6_2.length co12) y967 := (by rw [hw, Ny967.1]; exact HP46.1); clear HP46; refine E6 (S_over' (v := (.slice (some ⟨go12, 0, none⟩) x6_2.length co12)) (PS HO_5.1) (R_typed HO_6.1) (by decide) hg) (hp_) (Q_over' (v := (.slice (some ⟨go12, 0, none⟩) x6_2.length co12)) (by (with_reducible repeat (first | apply Q_alloc | apply Q_drewN | apply Q_drew)); exact HO_8.1) (R_typed HO_6.1) (by decide) hg) (bG BK942.1 hg (R_ne HO_6.1 BK942.1 (by decide))) (R_over' (v := (.slice (some ⟨go12, 0, none⟩) x6_2.length co12)) (PR HL964_0.1) (R_typed HO_6.1) (by decide) hg) ((by rw [hw]; exact below_set (HB.1) GB12.1 : Below w.heap.size w w47)) ?_; clear HO_5 HO_6 HO_8 BK942 HL964_0 HB; intro HO_5 HO_6 HO_8 BK942 HL964_0 HB; clear hg hw hp_) | ((with_reducible refine gate_builtin (b := .append) (xs := #[.tmp 56, .tmp 58]) rfl ?_); at_builtin; refine Q_append (Kd.int .i64) (w0 := w) w.heap.size rfl (.tmp 56) (.tmp 58) 38 3 (.int .i64 0) 8 rfl Try.underlying38 info3 rfl (by decide) (by omega) u8 x8_2 (rd (rd_L3 t943 x38_2) (rd x8_1 0)) [.int .i64 (rd (rd_L3 t943 x38_2) (rd x8_1 0))] (fun _ => True) (fun _ => False) rfl rfl ?aP (fun _ hk => hk.elim) ?aF ?aO ?aB ?aS ?aL ?_; (case aP => exact rfl); (case aB => exact (BL HB.1)); (case aF => exact (fun _ _ => trivial)); (case aO => exact (by (with_reducible repeat (first | apply Q_alloc | apply Q_drewN | apply Q_drew)); exact HO_8.1)); (case aS => exact (bZ HB.1)); (case aL => have := LMc44.1; omega); intro v969 w48 ho hb hg hat; rw [<- Ny968.1] at ho; refine E6 (S_after (ok := (fun _ => True)) (SPE (S_mono HO_5.1 (fun _ hk => ⟨trivial, hk⟩))) hg hat) (R_over' (PR HO_6.1) (Q_typed (by (with_reducible repeat (first | apply Q_alloc | apply Q_drewN | apply Q_drew)); exact HO_8.1)) (by decide) hg) (bG BK942.1 hg (Q_ne HO_8.1 BK942.1 (by decide))) (R_after (ok := (fun k_ => some k_ ≠ (.slice (some ad964) t943.length co45 : Value).ownBlock)) (RPE (R_mono HL964_0.1 (fun _ hk => ⟨hk.2, hk.1⟩))) hg hat) (hb) (ho) ?_; clear HO_5 HO_6 BK942 HL964_0 HB HO_8; intro HO_5 HO_6 BK942 HL964_0 HB HO970; clear ho hb hg hat))
     (try simp only [<- hl6_2])
     go_roundg k2
     case measure => have := HK1.1; have := HK2.1; omega
     case rel => exact ⟨(y967), (y968), (wrap64 (x38_2 + 1)), RG, H', ⟨by have := HK1.1; have := HK2.1; omega⟩, ⟨by (try simp only [hl6_1]); (try simp only [hl6_2]); (with_reducible repeat (first | apply S_alloc | apply S_drewN | apply S_drew)); exact S_mono HO_5.1 (fun _ hk => hk.2)⟩, ⟨PR2 HO_6.1 hl6_1 hl6_2⟩, ⟨by (try simp only [hl6_1]); (try simp only [hl6_2]); (with_reducible repeat (first | apply Q_alloc | apply Q_drewN | apply Q_drew)); exact HO970.1⟩, ⟨PB2 BK942.1 hl6_1 hl6_2⟩, ⟨BL HB.1⟩⟩
   have H' := Aside0.mk H
   clear H
   go_wp2
   (try simp only [<- hl6_1, <- hl6_2])
   go_roundg k2
   case measure => have := HK1.1; have := HK2.1; omega
   case rel => exact ⟨(x6_2), (x8_2), H', ⟨by have := HK1.1; have := HK2.1; omega⟩, ⟨PS2 HO_5.1 hl6_1 hl6_2⟩, ⟨PR2 HO_6.1 hl6_1 hl6_2⟩, ⟨by (try simp only [hl6_1]); (try simp only [hl6_2]); (with_reducible repeat (first | apply Q_alloc | apply Q_drewN | apply Q_drew)); exact HO_8.1⟩, ⟨PB2 BK942.1 hl6_1 hl6_2⟩, ⟨BL HB.1⟩⟩
 have c28b0 : decide (0 < (x8_1.length : Int)) = false := decide_eq_false c28
 have c28b1 : decide (0 < x8_1.length) = false := decide_eq_false (by omega)
 clear c28
 obtain rfl := Option.some.inj H
 obtain ⟨Ao49, co49, eo49, _⟩ := Q_slice HO_8.1
 subst eo49
 go_wp2
 go_ret
 exact ⟨_, by first | rfl | (simp [errW_none, errW_some] <;> rfl) | (simp only [<- hji5]; first | rfl | (simp [errW_none, errW_some] <;> rfl)) | (simp [*, errW_none, errW_some] <;> rfl), RPE (HO_6.1), BL HB.1⟩
end Go.Proofs.Ytbpfdbjnnlmdjaa.P
