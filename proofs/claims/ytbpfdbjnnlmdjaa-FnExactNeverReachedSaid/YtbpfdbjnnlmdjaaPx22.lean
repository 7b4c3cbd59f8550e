import Derived.Test.YtbpfdbjnnlmdjaaPx0
import Derived.Test.YtbpfdbjnnlmdjaaPx1
import Derived.Test.YtbpfdbjnnlmdjaaPx3
import Derived.Test.YtbpfdbjnnlmdjaaPx5
import Derived.Test.YtbpfdbjnnlmdjaaPx7
import Derived.Test.YtbpfdbjnnlmdjaaPx8
import Derived.Test.YtbpfdbjnnlmdjaaPx10
import Derived.Test.YtbpfdbjnnlmdjaaPx11
import Derived.Test.YtbpfdbjnnlmdjaaPx12
namespace Go.Proofs.Ytbpfdbjnnlmdjaa.P
open Go.RowKit Go.Proofs.YtbpfdbjnnlmdjaaW.PrintWords Go.Proofs.YtbpfdbjnnlmdjaaW.PrintLast Go.Proofs.YtbpfdbjnnlmdjaaW.PrintMore
attribute [local go_sem] max2_int min2_int max_two min_two max_three min_three max_four min_four
set_option linter.unusedVariables false
set_option linter.unusedSimpArgs false
open Kd
def spec_NeverReached.l0 : Nat -> List Int -> List Int -> Int -> Int -> Int -> List (S83) -> Option (List Int × Bool)
 | 0, _, _, _, _, _, _ => none
 | k + 1, x6, x8, x9, x855000, x855001, x855002 => (spec_saUnits.f k x855000 x855001 x855002).bind fun t862 => (if 0 <= (IntKind.u64.wrap ((t862.length : Int))) then (if x9 < (shl .i64 1 (IntKind.u64.wrap ((t862.length : Int)))) then ((spec_l1Has.f k x6 x9).bind fun t865 => (if t865 = true then (spec_NeverReached.l0 k x6 x8 (wrap64 (x9 + 1)) x855000 x855001 x855002) else (if x8.length < 17592186044416 then (spec_NeverReached.l0 k x6 (x8 ++ [x9]) (wrap64 (x9 + 1)) x855000 x855001 x855002) else (none)))) else (some (x8, true))) else (none))
def spec_NeverReached.f (k : Nat) (a0_0 : Int) (a0_1 : Int) (l0_2 : List (S83)) (l1 : List Int) : Option (List Int × Bool) := (spec_reAsked.f k a0_0 a0_1 l0_2 l1).bind fun t855 => (if t855 = true then ((spec_reAll.f k a0_0 a0_1 l0_2 l1).bind fun bt856 => (spec_NeverReached.l0 k bt856.1 ([] : List Int) 0 a0_0 a0_1 l0_2)) else (some (([] : List Int), false)))
theorem spec_NeverReached.mono_l : ∀ k, (∀ y0 y1 y2 y3 y4 y5, LeO (spec_NeverReached.l0 k y0 y1 y2 y3 y4 y5) (spec_NeverReached.l0 (k + 1) y0 y1 y2 y3 y4 y5))
 | 0 => fun _ _ _ _ _ _ r h => by simp [spec_NeverReached.l0] at h
 | k + 1 => by
  have ih0 := spec_NeverReached.mono_l k
  intros
  first | unfold spec_NeverReached.l0
  repeat' first | (with_reducible first | apply ih0 | apply spec_l1Has.mono | apply spec_reAll.mono | apply spec_reAsked.mono | apply spec_saUnits.mono | exact LeO.refl _ | exact LeO.none _ | refine LeO.ite ?_ ?_ | refine LeO.bind ?_ (fun _ => ?_)) | exact LeO.none _ | refine LeO.ite ?_ ?_ | refine LeO.bind ?_ (fun _ => ?_)
theorem spec_NeverReached.mono : ∀ a0 a1 a2 a3 k, LeO (spec_NeverReached.f k a0 a1 a2 a3) (spec_NeverReached.f (k + 1) a0 a1 a2 a3) := by
 intro a0 a1 a2 a3 k
 have ih0 := spec_NeverReached.mono_l k
 unfold spec_NeverReached.f
 repeat' first | (with_reducible first | apply ih0 | apply spec_l1Has.mono | apply spec_reAll.mono | apply spec_reAsked.mono | apply spec_saUnits.mono | exact LeO.refl _ | exact LeO.none _ | refine LeO.ite ?_ ?_ | refine LeO.bind ?_ (fun _ => ?_)) | exact LeO.none _ | refine LeO.ite ?_ ?_ | refine LeO.bind ?_ (fun _ => ?_)
set_option maxHeartbeats 8000000 in
set_option maxRecDepth 100000 in
theorem spec_NeverReached.calls (k : Nat) (a0_0 : Int) (a0_1 : Int) (A0_2 : Option Addr) (c0_2 : Nat) (l0_2 : List (S83)) (A1 : Option Addr) (c1 : Nat) (l1 : List Int) (r1 : List Int) (r2 : Bool) (w : World) (hr0_2 : Kd.C k83 w A0_2 l0_2.length l0_2) (hc0_2 : l0_2.length <= c0_2) (hr1 : Kd.C (Kd.int .i64) w A1 l1.length l1) (hc1 : l1.length <= c1) (h : spec_NeverReached.f k a0_0 a0_1 l0_2 l1 = some (r1, r2)) :
 Calls Try.prog 33 #[.agg #[.int .i64 a0_0, .int .i64 a0_1, .slice A0_2 l0_2.length c0_2], .slice A1 l1.length c1] w fun e w' => ∃ v0_ : Value, e = .returned (.tuple #[v0_, .bool r2]) /\ Kd.R (Kd.int .i64) 3 w' w.heap.size (fun _ => True) v0_ r1 /\ Below w.heap.size w w' := by
 have hu30 := Try.underlying30
 have HR0_2 := Aside0.mk hr0_2
 have HC0_2 := Aside0.mk hc0_2
 clear hr0_2 hc0_2
 have HR1 := Aside0.mk hr1
 have HC1 := Aside0.mk hc1
 clear hr1 hc1
 have HB := Aside0.mk (Below.refl w.heap.size w)
 have H := h
 clear h
 unfold spec_NeverReached.f at H
 replace H := bindA H; obtain ⟨t855, A3, H⟩ := H
 replace H := ifX H; rcases H with ⟨rfl, H⟩ | ⟨rfl, H⟩
 · replace H := bindA H; obtain ⟨⟨t856, t859⟩, A5, H⟩ := H
   dsimp only at H
   have H' := Aside0.mk H
   clear H
   go_enter Try.func33, Try.ntmps33
   go_wp2_with (first | ((with_reducible refine gate_dst (N := 2) rfl ?_); refine boxE (cs := #[.int .i64 a0_0, .int .i64 a0_1, .slice A0_2 l0_2.length c0_2]) (t := 30) ?_; intro gb854 hg w6 hbox hb; refine E4b HB.1 hg hbox hb ?_; clear HB; intro HB BK854 GW854 GE854; clear hb hbox hg; obtain ⟨hcz7_0, hcz7_1, hcz7_2, hfz7_0, hfz7_1, hfz7_2⟩ := cz3 BK854.1) | ((with_reducible refine gate_callee (f := 57) rfl ?_); refine goesM (N := (some 12)) #[.agg #[.int .i64 a0_0, .int .i64 a0_1, .slice A0_2 l0_2.length c0_2], .slice A1 l1.length c1] Try.func57 ?_; (with_reducible refine (spec_reAsked.calls k a0_0 a0_1 _ _ l0_2 _ _ l1 true _ ?side1 ?side2 ?side3 ?side4 A3.1).mono ?_); (case side1 => exact CB (C_below HR0_2.1 HB.1)); (case side2 => exact HC0_2.1); (case side3 => exact CB (C_below HR1.1 HB.1)); (case side4 => exact HC1.1); rintro e w8 ⟨rfl, hb⟩; refine ⟨_, rfl, ?_⟩; refine E2 (bB BK854.1 hb) (bS HB.1 hb) ?_; clear BK854 HB; intro BK854 HB; (try clear hb); obtain ⟨hcz9_0, hcz9_1, hcz9_2, hfz9_0, hfz9_1, hfz9_2⟩ := cz3 BK854.1) | ((with_reducible refine gate_callee (f := 58) rfl ?_); refine goesM (N := (some 17)) #[.agg #[.int .i64 a0_0, .int .i64 a0_1, .slice A0_2 l0_2.length c0_2], .slice A1 l1.length c1] Try.func58 ?_; (with_reducible refine (spec_reAll.calls k a0_0 a0_1 _ _ l0_2 _ _ l1 t856 t859 _ ?side1 ?side2 ?side3 ?side4 A5.1).mono ?_); (case side1 => exact CB (C_below HR0_2.1 HB.1)); (case side2 => exact HC0_2.1); (case side3 => exact CB (C_below HR1.1 HB.1)); (case side4 => exact HC1.1); rintro e w10 ⟨v857, v860, rfl, ho0, ho1, hb⟩; refine ⟨_, rfl, ?_⟩; refine E4 (R_lower ho0 (bZ HB.1)) (S_lower ho1 (bZ HB.1)) (bB BK854.1 hb) (bS HB.1 hb) ?_; clear BK854 HB; intro HO858 HO861 BK854 HB; (try clear hb); (try clear ho0); (try clear ho1)))
   go_loopg [8, 9] k (fun kq v8 v9 w' => ∃ (x8_1 : List Int) (x9_1 : Int), v9 = .int .i64 x9_1 /\ Aside0 (spec_NeverReached.l0 kq t856 x8_1 x9_1 a0_0 a0_1 l0_2 = some (r1, r2)) /\ Aside0 (kq <= k) /\ Aside0 (Kd.R (Kd.int .i64) 3 w' w.heap.size (fun k_ => some k_ ≠ (v8 : Value).ownBlock) v857 t856) /\ Aside0 (Kd.R (Kd.int .i64) 3 w' w.heap.size (fun k_ => some k_ ≠ (v857 : Value).ownBlock) v8 x8_1) /\ Aside0 (w'.heap[gb854]? = some (.cells #[.int .i64 a0_0, .int .i64 a0_1, (.slice A0_2 l0_2.length c0_2)] 30 (0, 0))) /\ Aside0 (Below w.heap.size w w'))
   case atStart => exact ⟨(([] : List Int)), (0), RG, H', ⟨Nat.le_refl _⟩, ⟨RPE (R_mono HO858.1 (fun _ hk => (by simp [Value.ownBlock])))⟩, ⟨by first | exact R_nil _ _ _ _ _ | exact N_nil _ _ _ _ _ | exact V_nil _ _ _ _ _ | exact Q_nil _ _ _ _ _ | exact S_nil _ _ _ _ _⟩, ⟨PB BK854.1⟩, ⟨BL HB.1⟩⟩
   clear H'
   try clear c1; clear hcz7_0 hcz7_1 hcz7_2 hcz9_0 hcz9_1 hcz9_2 hfz7_0 hfz7_1 hfz7_2 hfz9_0 hfz9_1 hfz9_2
   obtain ⟨x8_1, x9_1, rfl, HA, HK1, HO_6, HO_8, BK854, HB⟩ := hrel
   cases gk with
   | zero => exact absurd HA.1 (by simp [spec_NeverReached.l0])
   | succ k1 => ?_
   have H := HA.1
   clear HA
   simp only [spec_NeverReached.l0] at H
   replace H := bindA H; obtain ⟨t862, A11, H⟩ := H
   obtain ⟨ji12, hji12⟩ : ∃ j_ : Int, (IntKind.u64.wrap ((t862.length : Int))) = j_ := ⟨_, rfl⟩
   replace H : (if 0 <= (ji12) then (if x9_1 < (shl .i64 1 (ji12)) then ((spec_l1Has.f k1 t856 x9_1).bind fun t865 => (if t865 = true then (spec_NeverReached.l0 k1 t856 x8_1 (wrap64 (x9_1 + 1)) a0_0 a0_1 l0_2) else (if x8_1.length < 17592186044416 then (spec_NeverReached.l0 k1 t856 (x8_1 ++ [x9_1]) (wrap64 (x9_1 + 1)) a0_0 a0_1 l0_2) else (none)))) else (some (x8_1, true))) else (none)) = some (r1, r2) := by first | (rw [hji12] at H; exact H) | (simp only [hji12] at H ⊢; exact H)
   (try rw [hji12] at A11)
   replace H := ifP H; obtain ⟨c13, H⟩ := H
   have c13b0 := eq_true c13
   have c13b1 := decide_eq_true c13
   clear c13
   obtain ⟨ji14, hji14⟩ : ∃ j_ : Int, (shl .i64 1 (ji12)) = j_ := ⟨_, rfl⟩
   replace H : (if x9_1 < (ji14) then ((spec_l1Has.f k1 t856 x9_1).bind fun t865 => (if t865 = true then (spec_NeverReached.l0 k1 t856 x8_1 (wrap64 (x9_1 + 1)) a0_0 a0_1 l0_2) else (if x8_1.length < 17592186044416 then (spec_NeverReached.l0 k1 t856 (x8_1 ++ [x9_1]) (wrap64 (x9_1 + 1)) a0_0 a0_1 l0_2) else (none)))) else (some (x8_1, true))) = some (r1, r2) := by first | (rw [hji14] at H; exact H) | (simp only [hji14] at H ⊢; exact H)
   (try rw [hji14] at A11)
   have hji14_ : (IntKind.i64.wrap (1 * 2 ^ min (ji12).toNat 64)) = ji14 := hji14
   have hji14z : (ji12) <= 64 -> (IntKind.i64.wrap (1 * 2 ^ (ji12).toNat)) = ji14 := shl_small hji14
   have hji14u : (IntKind.i64.wrap (2 ^ min (ji12).toNat 64)) = ji14 := by have h_ := hji14_; rw [Int.one_mul] at h_; exact h_
   have hji14v : (ji12) <= 64 -> (IntKind.i64.wrap (2 ^ (ji12).toNat)) = ji14 := fun hle_ => by have h_ := hji14z hle_; rw [Int.one_mul] at h_; exact h_
   have hji14y : (wrap64 (1 * 2 ^ min (ji12).toNat 64)) = ji14 := (i64_w _).symm.trans hji14_
   have hji14x : (ji12) <= 64 -> (wrap64 (1 * 2 ^ (ji12).toNat)) = ji14 := fun h_ => (i64_w _).symm.trans (hji14z h_)
   replace H := ifB H; rcases H with ⟨c15b0, H⟩ | ⟨c15b0, H⟩
   · replace H := bindA H; obtain ⟨t865, A16, H⟩ := H
     replace H := ifX H; rcases H with ⟨rfl, H⟩ | ⟨rfl, H⟩
     · have H' := Aside0.mk H
       clear H
       obtain ⟨hcz18_0, hcz18_1, hcz18_2, hfz18_0, hfz18_1, hfz18_2⟩ := cz3 BK854.1
       go_wp2_with (first | ((with_reducible refine gate_callee (f := 52) rfl ?_); refine goesM (N := (some 22)) #[.agg #[.int .i64 a0_0, .int .i64 a0_1, .slice A0_2 l0_2.length c0_2]] Try.func52 ?_; (with_reducible refine (spec_saUnits.calls k1 a0_0 a0_1 _ _ l0_2 t862 _ ?side1 ?side2 A11.1).mono ?_); (case side1 => exact CB (C_below HR0_2.1 HB.1)); (case side2 => exact HC0_2.1); rintro e w19 ⟨v863, rfl, ho0, hb⟩; refine ⟨_, rfl, ?_⟩; refine E5 (rB HO_6.1 hb) (rB HO_8.1 hb) (S_lower (S_new' (S_new' ho0 (R_lt (PR HO_6.1))) (R_lt (PR HO_8.1))) (bZ HB.1)) (bB BK854.1 hb) (bS HB.1 hb) ?_; clear HO_6 HO_8 BK854 HB; intro HO_6 HO_8 HO864 BK854 HB; (try clear hb); (try clear ho0); obtain ⟨Ao20, co20, eo20⟩ := S_slice HO864.1; subst eo20; obtain ⟨Ao21, co21, eo21⟩ := R_slice HO_6.1; subst eo21) | ((with_reducible refine gate_callee (f := 62) rfl ?_); refine goesM (N := (some 31)) #[.slice Ao21 t856.length co21, .int .i64 x9_1] Try.func62 ?_; (with_reducible refine (spec_l1Has.calls k1 _ _ t856 x9_1 true _ ?side1 ?side2 A16.1).mono ?_); (case side1 => exact CB (R_reads' HO_6.1).2.2); (case side2 => exact (R_reads' HO_6.1).2.1); rintro e w' ⟨rfl, ⟨nd, rfl⟩⟩; refine ⟨_, rfl, ?_⟩))
       go_roundg k1
       case measure => have := HK1.1; omega
       case rel => exact ⟨(x8_1), (wrap64 (x9_1 + 1)), RG, H', ⟨by have := HK1.1; omega⟩, ⟨PR HO_6.1⟩, ⟨PR HO_8.1⟩, ⟨PB BK854.1⟩, ⟨BL HB.1⟩⟩
     replace H := ifP H; obtain ⟨c22, H⟩ := H
     have LMc22 := Aside0.mk c22
     clear c22
     generalize hy866 : ((x8_1 ++ [x9_1]) : List Int) = y866 at H
     have Ny866 := Aside0.mk hy866.symm; clear hy866
     have H' := Aside0.mk H
     clear H
     obtain ⟨hcz23_0, hcz23_1, hcz23_2, hfz23_0, hfz23_1, hfz23_2⟩ := cz3 BK854.1
     go_wp2_with (first | ((with_reducible refine gate_callee (f := 52) rfl ?_); refine goesM (N := (some 22)) #[.agg #[.int .i64 a0_0, .int .i64 a0_1, .slice A0_2 l0_2.length c0_2]] Try.func52 ?_; (with_reducible refine (spec_saUnits.calls k1 a0_0 a0_1 _ _ l0_2 t862 _ ?side1 ?side2 A11.1).mono ?_); (case side1 => exact CB (C_below HR0_2.1 HB.1)); (case side2 => exact HC0_2.1); rintro e w24 ⟨v863, rfl, ho0, hb⟩; refine ⟨_, rfl, ?_⟩; refine E5 (rB HO_6.1 hb) (rB HO_8.1 hb) (S_lower (S_new' (S_new' ho0 (R_lt (PR HO_6.1))) (R_lt (PR HO_8.1))) (bZ HB.1)) (bB BK854.1 hb) (bS HB.1 hb) ?_; clear HO_6 HO_8 BK854 HB; intro HO_6 HO_8 HO864 BK854 HB; (try clear hb); (try clear ho0); obtain ⟨Ao25, co25, eo25⟩ := S_slice HO864.1; subst eo25; obtain ⟨Ao26, co26, eo26⟩ := R_slice HO_6.1; subst eo26) | ((with_reducible refine gate_callee (f := 62) rfl ?_); refine goesM (N := (some 31)) #[.slice Ao26 t856.length co26, .int .i64 x9_1] Try.func62 ?_; (with_reducible refine (spec_l1Has.calls k1 _ _ t856 x9_1 false _ ?side1 ?side2 A16.1).mono ?_); (case side1 => exact CB (R_reads' HO_6.1).2.2); (case side2 => exact (R_reads' HO_6.1).2.1); rintro e w' ⟨rfl, ⟨nd, rfl⟩⟩; refine ⟨_, rfl, ?_⟩) | ((with_reducible refine gate_builtin (b := .append) (xs := #[.tmp 33, .tmp 35]) rfl ?_); at_builtin; refine R_append (Kd.int .i64) (w0 := w) w.heap.size rfl (.tmp 33) (.tmp 35) 38 3 (.int .i64 0) 8 rfl Try.underlying38 info3 rfl (by decide) (by omega) u8 x8_1 x9_1 [.int .i64 x9_1] (fun k_ => some k_ ≠ (.slice Ao26 t856.length co26 : Value).ownBlock) (fun _ => False) rfl rfl ?aP (fun _ hk => hk.elim) ?aF ?aO ?aB ?aS ?aL ?_; (case aP => exact rfl); (case aB => exact (BL HB.1)); (case aF => exact (fun k_ hk => Kd.fresh' (R_lt (PR HO_6.1)) k_ hk)); (case aO => exact (PR HO_8.1)); (case aS => exact (bZ HB.1)); (case aL => have := LMc22.1; omega); intro v867 w27 ho hb hg hat; rw [<- Ny866.1] at ho; refine E5 (R_after (ok := (fun _ => True)) (RPE (R_mono HO_6.1 (fun _ hk => ⟨trivial, hk⟩))) hg hat) (bG BK854.1 hg (R_ne HO_8.1 BK854.1 (by decide))) (S_after (ok := (fun k_ => some k_ ≠ (.slice Ao26 t856.length co26 : Value).ownBlock)) (SPE (S_mono HO864.1 (fun _ hk => ⟨hk.1.2, hk.2⟩))) hg hat) (hb) (ho) ?_; clear HO_6 BK854 HO864 HB HO_8; intro HO_6 BK854 HO864 HB HO868; clear ho hb hg hat))
     go_roundg k1
     case measure => have := HK1.1; omega
     case rel => exact ⟨(y866), (wrap64 (x9_1 + 1)), RG, H', ⟨by have := HK1.1; omega⟩, ⟨RPE (R_mono HO_6.1 (fun _ hk => hk.2))⟩, ⟨PR HO868.1⟩, ⟨PB BK854.1⟩, ⟨BL HB.1⟩⟩
   simp only [Option.some.injEq, Prod.mk.injEq] at H
   obtain ⟨rfl, rfl⟩ := H
   obtain ⟨hcz28_0, hcz28_1, hcz28_2, hfz28_0, hfz28_1, hfz28_2⟩ := cz3 BK854.1
   go_wp2_with (first | ((with_reducible refine gate_callee (f := 52) rfl ?_); refine goesM (N := (some 22)) #[.agg #[.int .i64 a0_0, .int .i64 a0_1, .slice A0_2 l0_2.length c0_2]] Try.func52 ?_; (with_reducible refine (spec_saUnits.calls k1 a0_0 a0_1 _ _ l0_2 t862 _ ?side1 ?side2 A11.1).mono ?_); (case side1 => exact CB (C_below HR0_2.1 HB.1)); (case side2 => exact HC0_2.1); rintro e w29 ⟨v863, rfl, ho0, hb⟩; refine ⟨_, rfl, ?_⟩; refine E5 (rB HO_6.1 hb) (rB HO_8.1 hb) (S_lower (S_new' (S_new' ho0 (R_lt (PR HO_6.1))) (R_lt (PR HO_8.1))) (bZ HB.1)) (bB BK854.1 hb) (bS HB.1 hb) ?_; clear HO_6 HO_8 BK854 HB; intro HO_6 HO_8 HO864 BK854 HB; (try clear hb); (try clear ho0); obtain ⟨Ao30, co30, eo30⟩ := S_slice HO864.1; subst eo30))
   go_ret2
   exact ⟨_, by first | rfl | (simp [errW_none, errW_some] <;> rfl) | (simp only [<- hji12, <- hji14]; first | rfl | (simp [errW_none, errW_some] <;> rfl)) | (simp [*, errW_none, errW_some] <;> rfl), RPE (R_mono HO_8.1 (fun _ hk => trivial)), BL HB.1⟩
 simp only [Option.some.injEq, Prod.mk.injEq] at H
 obtain ⟨rfl, rfl⟩ := H
 go_enter Try.func33, Try.ntmps33
 go_wp2_with (first | ((with_reducible refine gate_dst (N := 2) rfl ?_); refine boxE (cs := #[.int .i64 a0_0, .int .i64 a0_1, .slice A0_2 l0_2.length c0_2]) (t := 30) ?_; intro gb854 hg w31 hbox hb; refine E4b HB.1 hg hbox hb ?_; clear HB; intro HB BK854 GW854 GE854; clear hb hbox hg; obtain ⟨hcz32_0, hcz32_1, hcz32_2, hfz32_0, hfz32_1, hfz32_2⟩ := cz3 BK854.1) | ((with_reducible refine gate_callee (f := 57) rfl ?_); refine goesM (N := (some 12)) #[.agg #[.int .i64 a0_0, .int .i64 a0_1, .slice A0_2 l0_2.length c0_2], .slice A1 l1.length c1] Try.func57 ?_; (with_reducible refine (spec_reAsked.calls k a0_0 a0_1 _ _ l0_2 _ _ l1 false _ ?side1 ?side2 ?side3 ?side4 A3.1).mono ?_); (case side1 => exact CB (C_below HR0_2.1 HB.1)); (case side2 => exact HC0_2.1); (case side3 => exact CB (C_below HR1.1 HB.1)); (case side4 => exact HC1.1); rintro e w33 ⟨rfl, hb⟩; refine ⟨_, rfl, ?_⟩; refine E2 (bB BK854.1 hb) (bS HB.1 hb) ?_; clear BK854 HB; intro BK854 HB; (try clear hb)))
 go_ret2
 exact ⟨_, RF, by first | exact R_nil _ _ _ _ _ | exact N_nil _ _ _ _ _ | exact V_nil _ _ _ _ _ | exact Q_nil _ _ _ _ _ | exact S_nil _ _ _ _ _, BL HB.1⟩
open Kd
mutual
def impl_NeverReached.j0 : Nat -> List Int -> Bool -> Int -> Int -> List (S83) -> Option (List Int × Bool)
 | 0, _, _, _, _, _ => none
 | k + 1, x1, x18, x899000, x899001, x899002 => if x18 = true then (some (([] : List Int), false)) else ((impl_reachedStates.f k x899000 x899001 x899002 x1).bind fun t901 => (impl_NeverReached.l0 k (([] : List Int)) t901 (t901.length : Int) 0))
def impl_NeverReached.l0 : Nat -> List Int -> List Bool -> Int -> Int -> Option (List Int × Bool)
 | 0, _, _, _, _ => none
 | k + 1, x7, x23, x24, x25 => if x25 < x24 then (if 0 <= x25 then (if x25 < (x23.length : Int) then (if rdOf false x23 x25 = true then (impl_NeverReached.l0 k x7 x23 x24 (wrap64 (x25 + 1))) else (if x7.length < 17592186044416 then (impl_NeverReached.l0 k (x7 ++ [x25]) x23 x24 (wrap64 (x25 + 1))) else (none))) else (none)) else (none)) else (some (x7, true))
end
def impl_NeverReached.f (k : Nat) (a0_0 : Int) (a0_1 : Int) (l0_2 : List (S83)) (l1 : List Int) : Option (List Int × Bool) := (impl_fewUnits.f k a0_0 a0_1 l0_2).bind fun t899 => (if t899 = true then ((impl_validEntriesUp.f k a0_0 a0_1 l0_2 l1).bind fun t900 => (impl_NeverReached.j0 k l1 (!t900) a0_0 a0_1 l0_2)) else (impl_NeverReached.j0 k l1 true a0_0 a0_1 l0_2))
theorem impl_NeverReached.mono_l : ∀ k, (∀ y0 y1 y2 y3 y4, LeO (impl_NeverReached.j0 k y0 y1 y2 y3 y4) (impl_NeverReached.j0 (k + 1) y0 y1 y2 y3 y4)) /\ (∀ y0 y1 y2 y3, LeO (impl_NeverReached.l0 k y0 y1 y2 y3) (impl_NeverReached.l0 (k + 1) y0 y1 y2 y3))
 | 0 => by refine ⟨?_, ?_⟩ <;> (intros; intro r h; first | (simp [impl_NeverReached.j0] at h; done) | (simp [impl_NeverReached.l0] at h; done))
 | k + 1 => by
  obtain ⟨ih0, ih1⟩ := impl_NeverReached.mono_l k
  refine ⟨?_, ?_⟩ <;> (
   intros
   first | unfold impl_NeverReached.j0 | unfold impl_NeverReached.l0
   repeat' first | (with_reducible first | apply ih0 | apply ih1 | apply impl_fewUnits.mono | apply impl_reachedStates.mono | apply impl_validEntriesUp.mono | exact LeO.refl _ | exact LeO.none _ | refine LeO.ite ?_ ?_ | refine LeO.bind ?_ (fun _ => ?_)) | exact LeO.none _ | refine LeO.ite ?_ ?_ | refine LeO.bind ?_ (fun _ => ?_))
theorem impl_NeverReached.mono : ∀ a0 a1 a2 a3 k, LeO (impl_NeverReached.f k a0 a1 a2 a3) (impl_NeverReached.f (k + 1) a0 a1 a2 a3) := by
 intro a0 a1 a2 a3 k
 obtain ⟨ih0, ih1⟩ := impl_NeverReached.mono_l k
 unfold impl_NeverReached.f
 repeat' first | (with_reducible first | apply ih0 | apply ih1 | apply impl_fewUnits.mono | apply impl_reachedStates.mono | apply impl_validEntriesUp.mono | exact LeO.refl _ | exact LeO.none _ | refine LeO.ite ?_ ?_ | refine LeO.bind ?_ (fun _ => ?_)) | exact LeO.none _ | refine LeO.ite ?_ ?_ | refine LeO.bind ?_ (fun _ => ?_)
set_option maxHeartbeats 8000000 in
set_option maxRecDepth 100000 in
theorem impl_NeverReached.calls (k : Nat) (a0_0 : Int) (a0_1 : Int) (A0_2 : Option Addr) (c0_2 : Nat) (l0_2 : List (S83)) (A1 : Option Addr) (c1 : Nat) (l1 : List Int) (r1 : List Int) (r2 : Bool) (w : World) (hr0_2 : Kd.C k83 w A0_2 l0_2.length l0_2) (hc0_2 : l0_2.length <= c0_2) (hr1 : Kd.C (Kd.int .i64) w A1 l1.length l1) (hc1 : l1.length <= c1) (h : impl_NeverReached.f k a0_0 a0_1 l0_2 l1 = some (r1, r2)) :
 Calls Try.prog 34 #[.agg #[.int .i64 a0_0, .int .i64 a0_1, .slice A0_2 l0_2.length c0_2], .slice A1 l1.length c1] w fun e w' => ∃ v0_ : Value, e = .returned (.tuple #[v0_, .bool r2]) /\ Kd.R (Kd.int .i64) 3 w' w.heap.size (fun _ => True) v0_ r1 /\ Below w.heap.size w w' := by
 have hu30 := Try.underlying30
 have HR0_2 := Aside0.mk hr0_2
 have HC0_2 := Aside0.mk hc0_2
 clear hr0_2 hc0_2
 have HR1 := Aside0.mk hr1
 have HC1 := Aside0.mk hc1
 clear hr1 hc1
 have HB := Aside0.mk (Below.refl w.heap.size w)
 have H := h
 clear h
 unfold impl_NeverReached.f at H
 have HC3 := Aside0.mk H
 clear H
 go_enter Try.func34, Try.ntmps34
 go_upto_region 1 with (first | ((with_reducible refine gate_dst (N := 2) rfl ?_); refine boxE (cs := #[.int .i64 a0_0, .int .i64 a0_1, .slice A0_2 l0_2.length c0_2]) (t := 30) ?_; intro gb898 hg w4 hbox hb; refine E4b HB.1 hg hbox hb ?_; clear HB; intro HB BK898 GW898 GE898; clear hb hbox hg))
 (try simp only [Act.put, List.setIfInBounds_toArray, List.set_cons_zero, List.set_cons_succ])
 go_cut [18] (fun v18 wc => ∃ (kq : Nat) (x18_2 : Bool), v18 = .bool x18_2 /\ Aside0 (impl_NeverReached.j0 kq l1 x18_2 a0_0 a0_1 l0_2 = some (r1, r2)) /\ Aside0 (kq <= k) /\ Aside0 (wc.heap[gb898]? = some (.cells #[.int .i64 a0_0, .int .i64 a0_1, (.slice A0_2 l0_2.length c0_2)] 30 (0, 0))) /\ Aside0 (Below w.heap.size w wc))
 case first =>
  have H := HC3.1
  clear HC3
  replace H := bindA H; obtain ⟨t899, A5, H⟩ := H
  replace H := ifX H; rcases H with ⟨rfl, H⟩ | ⟨rfl, H⟩
  · replace H := bindA H; obtain ⟨t900, A7, H⟩ := H
    have H' := Aside0.mk H
    clear H
    obtain ⟨hcz8_0, hcz8_1, hcz8_2, hfz8_0, hfz8_1, hfz8_2⟩ := cz3 BK898.1
    go_wp2_with (first | ((with_reducible refine gate_callee (f := 46) rfl ?_); refine goesM (N := (some 11)) #[.agg #[.int .i64 a0_0, .int .i64 a0_1, .slice A0_2 l0_2.length c0_2]] Try.func46 ?_; (with_reducible refine (impl_fewUnits.calls k a0_0 a0_1 _ _ l0_2 true _ ?side1 ?side2 A5.1).mono ?_); (case side1 => exact CB (C_below HR0_2.1 HB.1)); (case side2 => exact HC0_2.1); rintro e w9 ⟨rfl, hb⟩; refine ⟨_, rfl, ?_⟩; refine E2 (bB BK898.1 hb) (bS HB.1 hb) ?_; clear BK898 HB; intro BK898 HB; (try clear hb); obtain ⟨hcz10_0, hcz10_1, hcz10_2, hfz10_0, hfz10_1, hfz10_2⟩ := cz3 BK898.1) | (go_at_call 60; (with_reducible refine (impl_validEntriesUp.calls k a0_0 a0_1 _ _ l0_2 _ _ l1 t900 _ ?side1 ?side2 ?side3 ?side4 A7.1).mono ?_); (case side1 => exact CB (C_below HR0_2.1 HB.1)); (case side2 => exact HC0_2.1); (case side3 => exact CB (C_below HR1.1 HB.1)); (case side4 => exact HC1.1); rintro e w11 ⟨rfl, hb⟩; refine E2 (bB BK898.1 hb) (bS HB.1 hb) ?_; clear BK898 HB; intro BK898 HB; (try clear hb)))
    go_meet
    case rel => exact ⟨_, (!t900), RG, H', ⟨by first | omega | exact Nat.le_refl _⟩, ⟨PB BK898.1⟩, ⟨BL HB.1⟩⟩
  have H' := Aside0.mk H
  clear H
  obtain ⟨hcz12_0, hcz12_1, hcz12_2, hfz12_0, hfz12_1, hfz12_2⟩ := cz3 BK898.1
  go_wp2_with (first | ((with_reducible refine gate_callee (f := 46) rfl ?_); refine goesM (N := (some 11)) #[.agg #[.int .i64 a0_0, .int .i64 a0_1, .slice A0_2 l0_2.length c0_2]] Try.func46 ?_; (with_reducible refine (impl_fewUnits.calls k a0_0 a0_1 _ _ l0_2 false _ ?side1 ?side2 A5.1).mono ?_); (case side1 => exact CB (C_below HR0_2.1 HB.1)); (case side2 => exact HC0_2.1); rintro e w13 ⟨rfl, hb⟩; refine ⟨_, rfl, ?_⟩; refine E2 (bB BK898.1 hb) (bS HB.1 hb) ?_; clear BK898 HB; intro BK898 HB; (try clear hb)))
  go_meet
  case rel => exact ⟨_, (true), RG, H', ⟨by first | omega | exact Nat.le_refl _⟩, ⟨PB BK898.1⟩, ⟨BL HB.1⟩⟩
 clear HC3
 try clear c1
 obtain ⟨kq, x18_2, rfl, HA, HJ2, BK898, HB⟩ := hcut
 cases kq with
 | zero => exact absurd HA.1 (by simp [impl_NeverReached.j0])
 | succ kj2 => ?_
 have H := HA.1
 clear HA
 simp only [impl_NeverReached.j0] at H
 replace H := ifX H; rcases H with ⟨rfl, H⟩ | ⟨rfl, H⟩
 · simp only [Option.some.injEq, Prod.mk.injEq] at H
   obtain ⟨rfl, rfl⟩ := H
   go_wp2
   go_ret2
   exact ⟨_, RF, by first | exact R_nil _ _ _ _ _ | exact N_nil _ _ _ _ _ | exact V_nil _ _ _ _ _ | exact Q_nil _ _ _ _ _ | exact S_nil _ _ _ _ _, BL HB.1⟩
 replace H := bindA H; obtain ⟨t901, A15, H⟩ := H
 generalize hy904 : ((([] : List Int)) : List Int) = y904 at H
 have Ny904 := Aside0.mk hy904.symm; clear hy904
 have H' := Aside0.mk H
 clear H
 obtain ⟨hcz16_0, hcz16_1, hcz16_2, hfz16_0, hfz16_1, hfz16_2⟩ := cz3 BK898.1
 go_wp2_with (first | ((with_reducible refine gate_callee (f := 63) rfl ?_); refine goesM (N := (some 21)) #[.agg #[.int .i64 a0_0, .int .i64 a0_1, .slice A0_2 l0_2.length c0_2], .slice A1 l1.length c1] Try.func63 ?_; (with_reducible refine (impl_reachedStates.calls kj2 a0_0 a0_1 _ _ l0_2 _ _ l1 t901 _ ?side1 ?side2 ?side3 ?side4 A15.1).mono ?_); (case side1 => exact CB (C_below HR0_2.1 HB.1)); (case side2 => exact HC0_2.1); (case side3 => exact CB (C_below HR1.1 HB.1)); (case side4 => exact HC1.1); rintro e w17 ⟨v902, rfl, ho0, hb⟩; refine ⟨_, rfl, ?_⟩; refine E3 (R_lower ho0 (bZ HB.1)) (bB BK898.1 hb) (bS HB.1 hb) ?_; clear BK898 HB; intro HO903 BK898 HB; (try clear hb); (try clear ho0)) | ((with_reducible refine gate_dst (N := 22) rfl ?_); refine R_lit (Kd.int .i64) _ 3 ?hg (N := 22) ?hd (xs := ([] : List Int)) (inner := []) (ok := fun _ => True) (okp := fun _ => True) ?hr ?hp (fun _ hk => hk) trivial (Below.refl _ _) (Nat.le_refl _) (by simp) ?_; (case hd => rfl); (case hg => rfl); (case hr => first | (go_simp; done) | (go_simp; rfl)); (case hp => exact (Reps.none _ _)); intro v905 w18 ho19 hb hg_ hnew_; clear hg_ hnew_; (first | rw [<- Ny904.1] at ho19 | (simp only [Int.reduceToNat] at ho19; rw [<- Ny904.1] at ho19)); refine E4 (rB HO903.1 hb) (R_lower ho19 (bZ HB.1)) (bB BK898.1 hb) (bS HB.1 hb) ?_; clear HO903 BK898 HB; intro HO903 HO906 BK898 HB; clear hb ho19; obtain ⟨Ao20, co20, eo20⟩ := R_slice HO903.1; subst eo20))
 go_loopg [7, 25] kj2 (fun kq v7 v25 w' => ∃ (x7_2 : List Int) (x25_2 : Int), v25 = .int .i64 x25_2 /\ Aside0 (impl_NeverReached.l0 kq x7_2 t901 (t901.length : Int) x25_2 = some (r1, r2)) /\ Aside0 (kq <= kj2) /\ Aside0 (Kd.R (Kd.int .i64) 3 w' w.heap.size (fun _ => True) v7 x7_2) /\ Aside0 (Kd.R Kd.bool 4 w' w.heap.size (fun _ => True) (.slice Ao20 t901.length co20) t901) /\ Aside0 (w'.heap[gb898]? = some (.cells #[.int .i64 a0_0, .int .i64 a0_1, (.slice A0_2 l0_2.length c0_2)] 30 (0, 0))) /\ Aside0 (Below w.heap.size w w'))
 case atStart => exact ⟨(y904), (0), RG, H', ⟨Nat.le_refl _⟩, ⟨PR HO906.1⟩, ⟨PR HO903.1⟩, ⟨PB BK898.1⟩, ⟨BL HB.1⟩⟩
 clear H'
 try clear c1; clear hcz16_0 hcz16_1 hcz16_2 hfz16_0 hfz16_1 hfz16_2
 obtain ⟨x7_2, x25_2, rfl, HA, HK2, HO_7, HO_23, BK898, HB⟩ := hrel
 cases gk with
 | zero => exact absurd HA.1 (by simp [impl_NeverReached.l0])
 | succ k2 => ?_
 have H := HA.1
 clear HA
 simp only [impl_NeverReached.l0] at H
 replace H := ifB H; rcases H with ⟨c21b0, H⟩ | ⟨c21b0, H⟩
 · replace H := ifN H; obtain ⟨c22b0, H⟩ := H
   replace H := ifN H; obtain ⟨c23b0, H⟩ := H
   obtain ⟨bq24, hbq24⟩ : ∃ b_ : Bool, b_ = (rdOf false t901 x25_2) := ⟨_, rfl⟩
   replace H : (if bq24 = true then (impl_NeverReached.l0 k2 x7_2 t901 (t901.length : Int) (wrap64 (x25_2 + 1))) else (if x7_2.length < 17592186044416 then (impl_NeverReached.l0 k2 (x7_2 ++ [x25_2]) t901 (t901.length : Int) (wrap64 (x25_2 + 1))) else (none))) = some (r1, r2) := by rw [<- hbq24] at H; exact H
   have Nbq24 := Aside0.mk hbq24
   clear hbq24
   replace H := ifX H; rcases H with ⟨rfl, H⟩ | ⟨rfl, H⟩
   · have H' := Aside0.mk H
     clear H
     have p907 : 0 <= (x25_2 : Int) := OD
     have q907 : x25_2 < (t901.length : Int) := OD
     obtain ⟨ad907, e907, hx907_0⟩ := Kd.at_bool (R_reads' HO_23.1).2.2 x25_2 p907 q907
     (try rw [<- Nbq24.1] at hx907_0)
     cases e907
     replace p907 := eq_true p907
     replace q907 := eq_true q907
     go_wp2
     go_roundg k2
     case measure => have := HJ2.1; have := HK2.1; omega
     case rel => exact ⟨(x7_2), (wrap64 (x25_2 + 1)), RG, H', ⟨by have := HJ2.1; have := HK2.1; omega⟩, ⟨PR HO_7.1⟩, ⟨PR HO_23.1⟩, ⟨PB BK898.1⟩, ⟨BL HB.1⟩⟩
   replace H := ifP H; obtain ⟨c26, H⟩ := H
   have LMc26 := Aside0.mk c26
   clear c26
   generalize hy908 : ((x7_2 ++ [x25_2]) : List Int) = y908 at H
   have Ny908 := Aside0.mk hy908.symm; clear hy908
   have H' := Aside0.mk H
   clear H
   have p907 : 0 <= (x25_2 : Int) := OD
   have q907 : x25_2 < (t901.length : Int) := OD
   obtain ⟨ad907, e907, hx907_0⟩ := Kd.at_bool (R_reads' HO_23.1).2.2 x25_2 p907 q907
   (try rw [<- Nbq24.1] at hx907_0)
   cases e907
   replace p907 := eq_true p907
   replace q907 := eq_true q907
   go_wp2_with (first | ((with_reducible refine gate_builtin (b := .append) (xs := #[.tmp 32, .tmp 34]) rfl ?_); at_builtin; refine R_append (Kd.int .i64) (w0 := w) w.heap.size rfl (.tmp 32) (.tmp 34) 38 3 (.int .i64 0) 8 rfl Try.underlying38 info3 rfl (by decide) (by omega) u7 x7_2 x25_2 [.int .i64 x25_2] (fun _ => True) (fun _ => False) rfl rfl ?aP (fun _ hk => hk.elim) ?aF ?aO ?aB ?aS ?aL ?_; (case aP => exact rfl); (case aB => exact (BL HB.1)); (case aF => exact (fun _ _ => trivial)); (case aO => exact (PR HO_7.1)); (case aS => exact (bZ HB.1)); (case aL => have := LMc26.1; omega); intro v909 w27 ho hb hg hat; rw [<- Ny908.1] at ho; refine E4 (R_over' (PR HO_23.1) (R_typed (PR HO_7.1)) (by decide) hg) (bG BK898.1 hg (R_ne HO_7.1 BK898.1 (by decide))) (hb) (ho) ?_; clear HO_23 BK898 HB HO_7; intro HO_23 BK898 HB HO910; clear ho hb hg hat))
   go_roundg k2
   case measure => have := HJ2.1; have := HK2.1; omega
   case rel => exact ⟨(y908), (wrap64 (x25_2 + 1)), RG, H', ⟨by have := HJ2.1; have := HK2.1; omega⟩, ⟨PR HO910.1⟩, ⟨PR HO_23.1⟩, ⟨PB BK898.1⟩, ⟨BL HB.1⟩⟩
 simp only [Option.some.injEq, Prod.mk.injEq] at H
 obtain ⟨rfl, rfl⟩ := H
 go_wp2
 go_ret2
 exact ⟨_, RF, RPE (HO_7.1), BL HB.1⟩
open Kd
mutual
def laws_FnExactNeverReached.j0 : Nat -> List Int -> List Int -> Bool -> List Int -> List Int -> Bool -> Bool -> Int -> Int -> List (S85) -> Int -> Int -> List (S83) -> Option (Bool)
 | 0, _, _, _, _, _, _, _, _, _, _, _, _, _ => none
 | k + 1, x1, x6, x7, x9, x10, x11, x51, x912000, x912001, x912002, x931000, x931001, x931002 => if x51 = true then (some false) else ((laws_toBoard.f k x912000 x912001 x912002).bind fun bt939 => ((laws_eqBoard.f k x931000 x931001 x931002 bt939.1 bt939.2.1 bt939.2.2).bind fun t944 => (if t944 = true then ((laws_toIntS.f k x1).bind fun t945 => ((laws_eqIntS.f k x9 t945).bind fun t948 => (if t948 = true then ((laws_markBoard.f k x931000 x931001 x931002 1).bind fun bt949 => ((laws_markIntS.f k x9 bt949.1).bind fun bt951 => (if bt951.1 < 0 then (laws_FnExactNeverReached.j1 k x1 x6 x7 x10 true x912000 x912001 x912002) else ((laws_eqIntS.f k x10 x6).bind fun t953 => (if t953 = true then (laws_FnExactNeverReached.j1 k x1 x6 x7 x10 (x11 != x7) x912000 x912001 x912002) else (laws_FnExactNeverReached.j1 k x1 x6 x7 x10 true x912000 x912001 x912002)))))) else (some false)))) else (some false))))
def laws_FnExactNeverReached.j1 : Nat -> List Int -> List Int -> Bool -> List Int -> Bool -> Int -> Int -> List (S85) -> Option (Bool)
 | 0, _, _, _, _, _, _, _, _ => none
 | k + 1, x1, x6, x7, x10, x80, x912000, x912001, x912002 => if x80 = true then (some false) else ((laws_markIntS.f k x10 1).bind fun bt954 => ((laws_heldIntS.f k bt954.2 1).bind fun t956 => (if t956 < 0 then (some false) else (if t956 = bt954.1 then ((laws_toBoard.f k x912000 x912001 x912002).bind fun bt957 => ((laws_toIntS.f k x1).bind fun t962 => ((impl_NeverReached.f k bt957.1 bt957.2.1 bt957.2.2 t962).bind fun bt965 => ((laws_eqIntS.f k bt965.1 x6).bind fun t969 => (if t969 = true then (laws_FnExactNeverReached.j2 k bt954.2 bt954.1 (bt965.2 != x7)) else (laws_FnExactNeverReached.j2 k bt954.2 bt954.1 true)))))) else (some false)))))
def laws_FnExactNeverReached.j2 : Nat -> List Int -> Int -> Bool -> Option (Bool)
 | 0, _, _, _ => none
 | k + 1, x10, x13, x108 => if x108 = true then (some false) else ((laws_heldIntS.f k x10 1).bind fun t970 => (if t970 < 0 then (some false) else (if t970 = x13 then (some true) else (some false))))
end
def laws_FnExactNeverReached.f (k : Nat) (a0_0 : Int) (a0_1 : Int) (l0_2 : List (S85)) (l1 : List Int) : Option (Bool) := if (l1.length : Int) > 1048576 then (some true) else ((laws_szBoard.f a0_0 a0_1 l0_2 1048576).bind fun t912 => (if t912 < 0 then (some true) else ((laws_toBoard.f k a0_0 a0_1 l0_2).bind fun bt913 => ((laws_toIntS.f k l1).bind fun t918 => ((spec_NeverReached.f k bt913.1 bt913.2.1 bt913.2.2 t918).bind fun bt921 => ((laws_toBoard.f k a0_0 a0_1 l0_2).bind fun bt925 => ((laws_toIntS.f k l1).bind fun t931 => ((impl_NeverReached.f k bt925.1 bt925.2.1 bt925.2.2 t931).bind fun bt934 => ((laws_eqIntS.f k bt934.1 bt921.1).bind fun t938 => (if t938 = true then (laws_FnExactNeverReached.j0 k l1 bt921.1 bt921.2 t931 bt934.1 bt934.2 (bt934.2 != bt921.2) a0_0 a0_1 l0_2 bt925.1 bt925.2.1 bt925.2.2) else (laws_FnExactNeverReached.j0 k l1 bt921.1 bt921.2 t931 bt934.1 bt934.2 true a0_0 a0_1 l0_2 bt925.1 bt925.2.1 bt925.2.2)))))))))))
theorem laws_FnExactNeverReached.mono_l : ∀ k, (∀ y0 y1 y2 y3 y4 y5 y6 y7 y8 y9 y10 y11 y12, LeO (laws_FnExactNeverReached.j0 k y0 y1 y2 y3 y4 y5 y6 y7 y8 y9 y10 y11 y12) (laws_FnExactNeverReached.j0 (k + 1) y0 y1 y2 y3 y4 y5 y6 y7 y8 y9 y10 y11 y12)) /\ (∀ y0 y1 y2 y3 y4 y5 y6 y7, LeO (laws_FnExactNeverReached.j1 k y0 y1 y2 y3 y4 y5 y6 y7) (laws_FnExactNeverReached.j1 (k + 1) y0 y1 y2 y3 y4 y5 y6 y7)) /\ (∀ y0 y1 y2, LeO (laws_FnExactNeverReached.j2 k y0 y1 y2) (laws_FnExactNeverReached.j2 (k + 1) y0 y1 y2))
 | 0 => by refine ⟨?_, ?_, ?_⟩ <;> (intros; intro r h; first | (simp [laws_FnExactNeverReached.j0] at h; done) | (simp [laws_FnExactNeverReached.j1] at h; done) | (simp [laws_FnExactNeverReached.j2] at h; done))
 | k + 1 => by
  obtain ⟨ih0, ih1, ih2⟩ := laws_FnExactNeverReached.mono_l k
  refine ⟨?_, ?_, ?_⟩ <;> (
   intros
   first | unfold laws_FnExactNeverReached.j0 | unfold laws_FnExactNeverReached.j1 | unfold laws_FnExactNeverReached.j2
   repeat' first | (with_reducible first | apply ih0 | apply ih1 | apply ih2 | apply impl_NeverReached.mono | apply laws_eqBoard.mono | apply laws_eqIntS.mono | apply laws_heldIntS.mono | apply laws_markBoard.mono | apply laws_markIntS.mono | apply laws_toBoard.mono | apply laws_toIntS.mono | apply spec_NeverReached.mono | exact LeO.refl _ | exact LeO.none _ | refine LeO.ite ?_ ?_ | refine LeO.bind ?_ (fun _ => ?_)) | exact LeO.none _ | refine LeO.ite ?_ ?_ | refine LeO.bind ?_ (fun _ => ?_))
theorem laws_FnExactNeverReached.mono : ∀ a0 a1 a2 a3 k, LeO (laws_FnExactNeverReached.f k a0 a1 a2 a3) (laws_FnExactNeverReached.f (k + 1) a0 a1 a2 a3) := by
 intro a0 a1 a2 a3 k
 obtain ⟨ih0, ih1, ih2⟩ := laws_FnExactNeverReached.mono_l k
 unfold laws_FnExactNeverReached.f
 repeat' first | (with_reducible first | apply ih0 | apply ih1 | apply ih2 | apply impl_NeverReached.mono | apply laws_eqBoard.mono | apply laws_eqIntS.mono | apply laws_heldIntS.mono | apply laws_markBoard.mono | apply laws_markIntS.mono | apply laws_toBoard.mono | apply laws_toIntS.mono | apply spec_NeverReached.mono | exact LeO.refl _ | exact LeO.none _ | refine LeO.ite ?_ ?_ | refine LeO.bind ?_ (fun _ => ?_)) | exact LeO.none _ | refine LeO.ite ?_ ?_ | refine LeO.bind ?_ (fun _ => ?_)
set_option maxHeartbeats 8000000 in
set_option maxRecDepth 100000 in
theorem laws_FnExactNeverReached.calls (k : Nat) (a0_0 : Int) (a0_1 : Int) (A0_2 : Option Addr) (c0_2 : Nat) (l0_2 : List (S85)) (A1 : Option Addr) (c1 : Nat) (l1 : List Int) (w : World) (hr0_2 : Kd.C k85 w A0_2 l0_2.length l0_2) (hc0_2 : l0_2.length <= c0_2) (hr1 : Kd.C (Kd.int .i64) w A1 l1.length l1) (hc1 : l1.length <= c1) (h : laws_FnExactNeverReached.f k a0_0 a0_1 l0_2 l1 = some true) :
 Calls Try.prog 9 #[.agg #[.int .i64 a0_0, .int .i64 a0_1, .slice A0_2 l0_2.length c0_2], .slice A1 l1.length c1] w fun e w' => e = .returned (.bool true) /\ Below w.heap.size w w' := by
 have hu24 := Try.underlying24
 have hu30 := Try.underlying30
 have HR0_2 := Aside0.mk hr0_2
 have HC0_2 := Aside0.mk hc0_2
 clear hr0_2 hc0_2
 have HR1 := Aside0.mk hr1
 have HC1 := Aside0.mk hc1
 clear hr1 hc1
 have HB := Aside0.mk (Below.refl w.heap.size w)
 have H := h
 clear h
 unfold laws_FnExactNeverReached.f at H
 replace H := ifQ H; rcases H with ⟨c3, H⟩ | ⟨c3, H⟩
 · have c3b0 : decide (1048576 < (l1.length : Int)) = true := decide_eq_true c3
   have c3b1 : decide (1048576 < l1.length) = true := decide_eq_true (by omega)
   clear c3
   first | (obtain rfl := Option.some.inj H) | clear H
   go_enter Try.func9, Try.ntmps9
   go_wp2_with (first | ((with_reducible refine gate_dst (N := 2) rfl ?_); refine boxE (cs := #[.int .i64 a0_0, .int .i64 a0_1, .slice A0_2 l0_2.length c0_2]) (t := 24) ?_; intro gb911 hg w4 hbox hb; refine E4b HB.1 hg hbox hb ?_; clear HB; intro HB BK911 GW911 GE911; clear hb hbox hg))
   go_ret
   exact ⟨RF, BL HB.1⟩
 have c3b0 : decide (1048576 < (l1.length : Int)) = false := decide_eq_false c3
 have c3b1 : decide (1048576 < l1.length) = false := decide_eq_false (by omega)
 clear c3
 replace H := bindA H; obtain ⟨t912, A5, H⟩ := H
 replace H := ifB H; rcases H with ⟨c6b0, H⟩ | ⟨c6b0, H⟩
 · first | (obtain rfl := Option.some.inj H) | clear H
   go_enter Try.func9, Try.ntmps9
   go_wp2_with (first | ((with_reducible refine gate_dst (N := 2) rfl ?_); refine boxE (cs := #[.int .i64 a0_0, .int .i64 a0_1, .slice A0_2 l0_2.length c0_2]) (t := 24) ?_; intro gb911 hg w7 hbox hb; refine E4b HB.1 hg hbox hb ?_; clear HB; intro HB BK911 GW911 GE911; clear hb hbox hg; obtain ⟨hcz8_0, hcz8_1, hcz8_2, hfz8_0, hfz8_1, hfz8_2⟩ := cz3 BK911.1) | ((with_reducible refine gate_callee (f := 13) rfl ?_); refine goesM (N := (some 22)) #[.agg #[.int .i64 a0_0, .int .i64 a0_1, .slice A0_2 l0_2.length c0_2], .int .i64 1048576] Try.func13 ?_; (with_reducible refine (laws_szBoard.calls a0_0 a0_1 _ _ l0_2 1048576 t912 _ ?side1 ?side2 A5.1).mono ?_); (case side1 => exact CB (C_below HR0_2.1 HB.1)); (case side2 => exact HC0_2.1); rintro e w9 ⟨rfl, hb⟩; refine ⟨_, rfl, ?_⟩; refine E2 (bB BK911.1 hb) (bS HB.1 hb) ?_; clear BK911 HB; intro BK911 HB; (try clear hb)))
   go_ret
   exact ⟨RF, BL HB.1⟩
 replace H := bindA H; obtain ⟨⟨t913, t914, t915⟩, A10, H⟩ := H
 dsimp only at H
 replace H := bindA H; obtain ⟨t918, A11, H⟩ := H
 replace H := bindA H; obtain ⟨⟨t921, t924⟩, A12, H⟩ := H
 dsimp only at H
 replace H := bindA H; obtain ⟨⟨t925, t926, t927⟩, A13, H⟩ := H
 dsimp only at H
 replace H := bindA H; obtain ⟨t931, A14, H⟩ := H
 replace H := bindA H; obtain ⟨⟨t934, t937⟩, A15, H⟩ := H
 dsimp only at H
 have HC16 := Aside0.mk H
 clear H
 go_enter Try.func9, Try.ntmps9
 go_upto_region 11 with (first | ((with_reducible refine gate_dst (N := 2) rfl ?_); refine boxE (cs := #[.int .i64 a0_0, .int .i64 a0_1, .slice A0_2 l0_2.length c0_2]) (t := 24) ?_; intro gb911 hg w17 hbox hb; refine E4b HB.1 hg hbox hb ?_; clear HB; intro HB BK911 GW911 GE911; clear hb hbox hg; obtain ⟨hcz18_0, hcz18_1, hcz18_2, hfz18_0, hfz18_1, hfz18_2⟩ := cz3 BK911.1) | ((with_reducible refine gate_callee (f := 13) rfl ?_); refine goesM (N := (some 22)) #[.agg #[.int .i64 a0_0, .int .i64 a0_1, .slice A0_2 l0_2.length c0_2], .int .i64 1048576] Try.func13 ?_; (with_reducible refine (laws_szBoard.calls a0_0 a0_1 _ _ l0_2 1048576 t912 _ ?side1 ?side2 A5.1).mono ?_); (case side1 => exact CB (C_below HR0_2.1 HB.1)); (case side2 => exact HC0_2.1); rintro e w19 ⟨rfl, hb⟩; refine ⟨_, rfl, ?_⟩; refine E2 (bB BK911.1 hb) (bS HB.1 hb) ?_; clear BK911 HB; intro BK911 HB; (try clear hb); obtain ⟨hcz20_0, hcz20_1, hcz20_2, hfz20_0, hfz20_1, hfz20_2⟩ := cz3 BK911.1) | ((with_reducible refine gate_callee (f := 15) rfl ?_); refine goesM (N := (some 27)) #[.agg #[.int .i64 a0_0, .int .i64 a0_1, .slice A0_2 l0_2.length c0_2]] Try.func15 ?_; (with_reducible refine (laws_toBoard.calls k a0_0 a0_1 _ _ l0_2 t913 t914 t915 _ ?side1 ?side2 A10.1).mono ?_); (case side1 => exact CB (C_below HR0_2.1 HB.1)); (case side2 => exact HC0_2.1); rintro e w21 ⟨v916, rfl, ho0, hb⟩; refine ⟨_, rfl, ?_⟩; refine E3 (R_lower ho0 (bZ HB.1)) (bB BK911.1 hb) (bS HB.1 hb) ?_; clear BK911 HB; intro HO917 BK911 HB; (try clear hb); (try clear ho0)) | ((with_reducible refine gate_callee (f := 31) rfl ?_); refine goesM (N := (some 29)) #[.slice A1 l1.length c1] Try.func31 ?_; (with_reducible refine (laws_toIntS.calls k _ _ l1 t918 _ ?side1 ?side2 A11.1).mono ?_); (case side1 => exact CB (C_below HR1.1 HB.1)); (case side2 => exact HC1.1); rintro e w22 ⟨v919, rfl, ho0, hb⟩; refine ⟨_, rfl, ?_⟩; refine E4 (rB HO917.1 hb) (R_lower ho0 (bZ HB.1)) (bB BK911.1 hb) (bS HB.1 hb) ?_; clear HO917 BK911 HB; intro HO917 HO920 BK911 HB; (try clear hb); (try clear ho0); obtain ⟨Ao23, co23, eo23⟩ := R_slice HO917.1; subst eo23; obtain ⟨Ao24, co24, eo24⟩ := R_slice HO920.1; subst eo24) | ((with_reducible refine gate_callee (f := 33) rfl ?_); refine goesM (N := (some 30)) #[.agg #[.int .i64 t913, .int .i64 t914, .slice Ao23 t915.length co23], .slice Ao24 t918.length co24] Try.func33 ?_; (with_reducible refine (spec_NeverReached.calls k t913 t914 _ _ t915 _ _ t918 t921 t924 _ ?side1 ?side2 ?side3 ?side4 A12.1).mono ?_); (case side1 => exact CB (R_reads' HO917.1).2.2); (case side2 => exact (R_reads' HO917.1).2.1); (case side3 => exact CB (R_reads' HO920.1).2.2); (case side4 => exact (R_reads' HO920.1).2.1); rintro e w25 ⟨v922, rfl, ho0, hb⟩; refine ⟨_, rfl, ?_⟩; refine E5 (rB HO917.1 hb) (R_elder' (PR HO920.1) (R_base ho0) hb) (R_lower (R_new' ho0 (R_lt (PR HO920.1))) (bZ HB.1)) (bB BK911.1 hb) (bS HB.1 hb) ?_; clear HO917 HO920 BK911 HB; intro HO917 HO920 HO923 BK911 HB; (try clear hb); (try clear ho0); obtain ⟨hcz26_0, hcz26_1, hcz26_2, hfz26_0, hfz26_1, hfz26_2⟩ := cz3 BK911.1) | ((with_reducible refine gate_callee (f := 15) rfl ?_); refine goesM (N := (some 34)) #[.agg #[.int .i64 a0_0, .int .i64 a0_1, .slice A0_2 l0_2.length c0_2]] Try.func15 ?_; (with_reducible refine (laws_toBoard.calls k a0_0 a0_1 _ _ l0_2 t925 t926 t927 _ ?side1 ?side2 A13.1).mono ?_); (case side1 => exact CB (C_below HR0_2.1 HB.1)); (case side2 => exact HC0_2.1); rintro e w27 ⟨v928, rfl, ho0, hb⟩; refine ⟨_, rfl, ?_⟩; refine E6 (R_elder' (PR HO917.1) (R_base ho0) hb) (rB HO920.1 hb) (rB HO923.1 hb) (R_lower (R_new' ho0 (R_lt (PR HO917.1))) (bZ HB.1)) (bB BK911.1 hb) (bS HB.1 hb) ?_; clear HO917 HO920 HO923 BK911 HB; intro HO917 HO920 HO923 HO929 BK911 HB; (try clear hb); (try clear ho0)) | ((with_reducible refine gate_dst (N := 8) rfl ?_); refine boxE (cs := #[.int .i64 0, .int .i64 0, .slice none 0 0]) (t := 30) ?_; intro gb930 hg w28 hbox hb; refine E11 (rB HO917.1 hb) (rB HO920.1 hb) (rB HO923.1 hb) (rB HO929.1 hb) (bB BK911.1 hb) (bS HB.1 hb) (hbox) (gX HB.1 hg) (gX HB.1 hg) (nB BK911.1 hg) (nC BK911.1 hg) ?_; clear HO917 HO920 HO923 HO929 BK911 HB; intro HO917 HO920 HO923 HO929 BK911 HB BK930 GW930 GE930 NB911_930 NB930_911; clear hb hbox hg; have hnb29 := NB930_911.1; have hnc29 := NB911_930.1; obtain ⟨hcz30_0, hcz30_1, hcz30_2, hfz30_0, hfz30_1, hfz30_2⟩ := cz3 BK930.1; obtain ⟨Ao31, co31, eo31⟩ := R_slice HO929.1; subst eo31) | ((with_reducible refine gate_callee (f := 31) rfl ?_); refine goesM (N := (some 36)) #[.slice A1 l1.length c1] Try.func31 ?_; (with_reducible refine (laws_toIntS.calls k _ _ l1 t931 _ ?side1 ?side2 A14.1).mono ?_); (case side1 => exact C_below HR1.1 (BL HB.1)); (case side2 => exact HC1.1); rintro e w32 ⟨v932, rfl, ho0, hb⟩; refine ⟨_, rfl, ?_⟩; refine E8 (R_below (by (with_reducible repeat (first | apply R_alloc | apply R_drewN | apply R_drew)); exact (R_mono (RQ gb930 2 (RQ gb930 1 (RQ gb930 0 (R_types HO917.1 BK930.1 (by decide)) _) _) _) (fun _ h_ => h_.1))) hb) (R_elder' (by (with_reducible repeat (first | apply R_alloc | apply R_drewN | apply R_drew)); exact (R_mono (RQ gb930 2 (RQ gb930 1 (RQ gb930 0 (R_types HO920.1 BK930.1 (by decide)) _) _) _) (fun _ h_ => h_.1))) (R_base ho0) hb) (R_elder' (by (with_reducible repeat (first | apply R_alloc | apply R_drewN | apply R_drew)); exact (R_mono (RQ gb930 2 (RQ gb930 1 (RQ gb930 0 (R_types HO923.1 BK930.1 (by decide)) _) _) _) (fun _ h_ => h_.1))) (R_base ho0) hb) (R_below (by (with_reducible repeat (first | apply R_alloc | apply R_drewN | apply R_drew)); exact (R_mono (RQ gb930 2 (RQ gb930 1 (RQ gb930 0 (R_types HO929.1 BK930.1 (by decide)) _) _) _) (fun _ h_ => h_.1))) hb) (R_lower (R_new' (R_new' ho0 (R_lt (by (with_reducible repeat (first | apply R_alloc | apply R_drewN | apply R_drew)); exact (R_mono (RQ gb930 2 (RQ gb930 1 (RQ gb930 0 (R_types HO920.1 BK930.1 (by decide)) _) _) _) (fun _ h_ => h_.1))))) (R_lt (by (with_reducible repeat (first | apply R_alloc | apply R_drewN | apply R_drew)); exact (R_mono (RQ gb930 2 (RQ gb930 1 (RQ gb930 0 (R_types HO923.1 BK930.1 (by decide)) _) _) _) (fun _ h_ => h_.1))))) (bZ HB.1)) (blk_below (g := gb911) (o := .cells #[.int .i64 a0_0, .int .i64 a0_1, .slice A0_2 l0_2.length c0_2] 24 (0, 0)) (PF1 NB911_930.1 BK911.1) hb) (blk_below (g := gb930) (o := .cells #[.int .i64 t925, .int .i64 t926, .slice Ao31 t927.length co31] 30 (0, 0)) (PF0 BK930.1) hb) (bS HB.1 hb) ?_; clear HO917 HO920 HO923 HO929 BK911 BK930 HB; intro HO917 HO920 HO923 HO929 HO933 BK911 BK930 HB; (try clear hb); (try clear ho0); obtain ⟨hcz33_0, hcz33_1, hcz33_2, hfz33_0, hfz33_1, hfz33_2⟩ := cz3 BK930.1; obtain ⟨Ao34, co34, eo34⟩ := R_slice HO933.1; subst eo34) | ((with_reducible refine gate_callee (f := 34) rfl ?_); refine goesM (N := (some 40)) #[.agg #[.int .i64 t925, .int .i64 t926, .slice Ao31 t927.length co31], .slice Ao34 t931.length co34] Try.func34 ?_; (with_reducible refine (impl_NeverReached.calls k t925 t926 _ _ t927 _ _ t931 t934 t937 _ ?side1 ?side2 ?side3 ?side4 A15.1).mono ?_); (case side1 => exact CB (R_reads' HO929.1).2.2); (case side2 => exact (R_reads' HO929.1).2.1); (case side3 => exact CB (R_reads' HO933.1).2.2); (case side4 => exact (R_reads' HO933.1).2.1); rintro e w35 ⟨v935, rfl, ho0, hb⟩; refine ⟨_, rfl, ?_⟩; refine E9 (rB HO917.1 hb) (R_elder' (PR HO920.1) (R_base ho0) hb) (R_elder' (PR HO923.1) (R_base ho0) hb) (rB HO929.1 hb) (R_elder' (PR HO933.1) (R_base ho0) hb) (R_lower (R_new' (R_new' (R_new' ho0 (R_lt (PR HO920.1))) (R_lt (PR HO923.1))) (R_lt (PR HO933.1))) (bZ HB.1)) (bB BK911.1 hb) (bB BK930.1 hb) (bS HB.1 hb) ?_; clear HO917 HO920 HO923 HO929 HO933 BK911 BK930 HB; intro HO917 HO920 HO923 HO929 HO933 HO936 BK911 BK930 HB; (try clear hb); (try clear ho0)))
 (try simp only [Act.put, List.setIfInBounds_toArray, List.set_cons_zero, List.set_cons_succ])
 go_cut [51] (fun v51 wc => ∃ (kq : Nat) (x51_15 : Bool), v51 = .bool x51_15 /\ Aside0 (laws_FnExactNeverReached.j0 kq l1 t921 t924 t931 t934 t937 x51_15 a0_0 a0_1 l0_2 t925 t926 t927 = some true) /\ Aside0 (kq <= k) /\ Aside0 (Kd.R (Kd.int .i64) 3 wc w.heap.size (fun k_ => some k_ ≠ ((.slice Ao34 t931.length co34) : Value).ownBlock /\ some k_ ≠ (v935 : Value).ownBlock) v922 t921) /\ Aside0 (Kd.R (Kd.int .i64) 3 wc w.heap.size (fun k_ => some k_ ≠ (v922 : Value).ownBlock /\ some k_ ≠ (v935 : Value).ownBlock) (.slice Ao34 t931.length co34) t931) /\ Aside0 (Kd.R (Kd.int .i64) 3 wc w.heap.size (fun k_ => some k_ ≠ (v922 : Value).ownBlock /\ some k_ ≠ ((.slice Ao34 t931.length co34) : Value).ownBlock) v935 t934) /\ Aside0 (Kd.R k83 83 wc w.heap.size (fun _ => True) (.slice Ao31 t927.length co31) t927) /\ Aside0 (wc.heap[gb911]? = some (.cells #[.int .i64 a0_0, .int .i64 a0_1, (.slice A0_2 l0_2.length c0_2)] 24 (0, 0))) /\ Aside0 (wc.heap[gb930]? = some (.cells #[.int .i64 t925, .int .i64 t926, (.slice Ao31 t927.length co31)] 30 (0, 0))) /\ Aside0 (Below w.heap.size w wc))
 case first =>
  have H := HC16.1
  clear HC16
  replace H := bindA H; obtain ⟨t938, A36, H⟩ := H
  replace H := ifT H (by cases k <;> simp [laws_FnExactNeverReached.j0]); obtain ⟨rfl, H⟩ := H
  have H' := Aside0.mk H
  clear H
  obtain ⟨Ao38, co38, eo38⟩ := R_slice HO936.1
  subst eo38
  obtain ⟨Ao39, co39, eo39⟩ := R_slice HO923.1
  subst eo39
  go_wp2_with (first | ((with_reducible refine gate_callee (f := 26) rfl ?_); refine goesM (N := (some 45)) #[.slice Ao38 t934.length co38, .slice Ao39 t921.length co39] Try.func26 ?_; (with_reducible refine (laws_eqIntS.calls k _ _ t934 _ _ t921 true _ ?side1 ?side2 ?side3 ?side4 A36.1).mono ?_); (case side1 => exact CB (R_reads' HO936.1).2.2); (case side2 => exact (R_reads' HO936.1).2.1); (case side3 => exact CB (R_reads' HO923.1).2.2); (case side4 => exact (R_reads' HO923.1).2.1); rintro e w' ⟨rfl, ⟨nd, rfl⟩⟩; refine ⟨_, rfl, ?_⟩))
  go_meet
  case rel => exact ⟨_, ((t937 != t924)), RG, H', ⟨by first | omega | exact Nat.le_refl _⟩, ⟨RPE (R_mono HO923.1 (fun _ hk => ⟨hk.1.2, hk.2⟩))⟩, ⟨RPE (R_mono HO933.1 (fun _ hk => ⟨hk.1.2, hk.2⟩))⟩, ⟨RPE (R_mono HO936.1 (fun _ hk => ⟨hk.1.2, hk.2⟩))⟩, ⟨RPE (R_mono HO929.1 (fun _ hk => trivial))⟩, ⟨PB BK911.1⟩, ⟨PB BK930.1⟩, ⟨BL HB.1⟩⟩
 clear HC16
 try clear c1; clear c3b0 c3b1 c6b0 hcz18_0 hcz18_1 hcz18_2 hcz20_0 hcz20_1 hcz20_2 hcz26_0 hcz26_1 hcz26_2 hcz30_0 hcz30_1 hcz30_2 hcz33_0 hcz33_1 hcz33_2 hfz18_0 hfz18_1 hfz18_2 hfz20_0 hfz20_1 hfz20_2 hfz26_0 hfz26_1 hfz26_2 hfz30_0 hfz30_1 hfz30_2 hfz33_0 hfz33_1 hfz33_2
 obtain ⟨kq, x51_15, rfl, HA, HJ15, HO_6, HO_9, HO_10, HO_931002, BK911, BK930, HB⟩ := hcut
 cases kq with
 | zero => exact absurd HA.1 (by simp [laws_FnExactNeverReached.j0])
 | succ kj15 => ?_
 have H := HA.1
 clear HA
 simp only [laws_FnExactNeverReached.j0] at H
 replace H := ifF H (by simp); obtain ⟨rfl, H⟩ := H
 replace H := bindA H; obtain ⟨⟨t939, t940, t941⟩, A43, H⟩ := H
 dsimp only at H
 replace H := bindA H; obtain ⟨t944, A44, H⟩ := H
 replace H := ifT H (by simp); obtain ⟨rfl, H⟩ := H
 replace H := bindA H; obtain ⟨t945, A46, H⟩ := H
 replace H := bindA H; obtain ⟨t948, A47, H⟩ := H
 replace H := ifT H (by simp); obtain ⟨rfl, H⟩ := H
 replace H := bindA H; obtain ⟨⟨t949, t950⟩, A49, H⟩ := H
 dsimp only at H
 replace H := bindA H; obtain ⟨⟨t951, t952⟩, A50, H⟩ := H
 dsimp only at H
 have HC51 := Aside0.mk H
 clear H
 try go_wp2
 refine E7 (R_drew HO_6.1) (R_drew HO_9.1) (R_drew HO_10.1) (R_drew HO_931002.1) (blk_drew BK911.1) (blk_drew BK930.1) (below_drew1 HB.1) ?_
 clear HO_6 HO_9 HO_10 HO_931002 BK911 BK930 HB
 intro HO_6 HO_9 HO_10 HO_931002 BK911 BK930 HB
 refine start_ (n := 5) (S := fun w' => w'.cell? ⟨gb930, 0, none⟩ = some (.int .i64 t925) /\ w'.cell? ⟨gb930, 1, none⟩ = some (.int .i64 t926) /\ w'.cell? ⟨gb930, 2, none⟩ = some (.slice Ao31 t927.length co31) /\ w'.cell? ⟨gb911, 0, none⟩ = some (.int .i64 a0_0) /\ w'.cell? ⟨gb911, 1, none⟩ = some (.int .i64 a0_1) /\ w'.cell? ⟨gb911, 2, none⟩ = some (.slice A0_2 l0_2.length c0_2)) (ds := []) #[Zz,Zz,Zz,Zz,Zz] (by kernel_rfl) rfl rfl ⟨(blk_cell BK930.1 0).trans rfl, (blk_cell BK930.1 1).trans rfl, (blk_cell BK930.1 2).trans rfl, (blk_cell BK911.1 0).trans rfl, (blk_cell BK911.1 1).trans rfl, (blk_cell BK911.1 2).trans rfl⟩ (fun hHeld => ?_)
 generalize wc.drew = w52 at HO_6 HO_9 HO_10 HO_931002 BK911 BK930 HB hHeld ⊢
 refine takeF 0 (N := some 52) hHeld ?_
 refine takeF 1 (N := some 53) hHeld ?_
 refine one_ (i := 2) (N := some 54) #[Yy,Yy,Yy,Zz,Zz] rfl rfl (by kernel_rfl) (by decide) (fun K hK => ?_)
 refine goes_ Try.func15 (by kernel_rfl) rfl #[.agg #[.int .i64 a0_0, .int .i64 a0_1, .slice A0_2 l0_2.length c0_2]] (by rfl) rfl rfl (by (try simp only [List.map_toArray, List.map_cons, List.map_nil]); first | done | rfl | (simp only [List.length_drop, List.length_take]; rfl)) ?_
 with_reducible refine (laws_toBoard.calls kj15 a0_0 a0_1 _ _ l0_2 t939 t940 t941 _ ?side1 ?side2 A43.1).mono ?_
 (case side1 => exact CB (C_below HR0_2.1 HB.1))
 (case side2 => exact HC0_2.1)
 rintro e w53 ⟨v942, rfl, ho0, hb⟩
 refine ⟨_, rfl, ?_⟩
 refine E8 (rB HO_6.1 hb) (rB HO_9.1 hb) (rB HO_10.1 hb) (R_elder' (PR HO_931002.1) (R_base ho0) hb) (R_lower (R_new' ho0 (R_lt (PR HO_931002.1))) (bZ HB.1)) (bB BK911.1 hb) (bB BK930.1 hb) (bS HB.1 hb) ?_
 clear HO_6 HO_9 HO_10 HO_931002 BK911 BK930 HB
 intro HO_6 HO_9 HO_10 HO_931002 HO943 BK911 BK930 HB
 (try clear hb)
 (try clear hb2)
 (try clear hk)
 (try clear hi)
 (try clear ho0)
 obtain ⟨Ao54, co54, eo54⟩ := R_slice HO943.1
 (first | subst eo54 | (injection eo54 with f1_ f2_ f3_; have f4_ := f1_.symm; have f5_ := f3_.symm; clear f1_ f2_ f3_; subst f4_; subst f5_))
 refine hK.out _ _ ⟨(blk_cell BK930.1 0).trans rfl, (blk_cell BK930.1 1).trans rfl, (blk_cell BK930.1 2).trans rfl, (blk_cell BK911.1 0).trans rfl, (blk_cell BK911.1 1).trans rfl, (blk_cell BK911.1 2).trans rfl⟩ (fun hHeld => ?_)
 clear hK K
 refine norm_ (a' := ?_) ?_ ?_
 rotate_left
 · show Act.put _ (some 54) _ = _
   simp only [Act.put, List.setIfInBounds_toArray, List.set_cons_zero, List.set_cons_succ, i64_w, i32_w]
   rfl
 refine one_ (i := 3) (N := some 55) #[Yy,Yy,Yy,Yy,Zz] rfl rfl (by kernel_rfl) (by decide) (fun K hK => ?_)
 refine goes_ Try.func17 (by kernel_rfl) rfl #[.agg #[.int .i64 t925, .int .i64 t926, .slice Ao31 t927.length co31], .agg #[.int .i64 t939, .int .i64 t940, .slice Ao54 t941.length co54]] (by rfl) rfl rfl (by (try simp only [List.map_toArray, List.map_cons, List.map_nil]); first | done | rfl | (simp only [List.length_drop, List.length_take]; rfl)) ?_
 with_reducible refine (laws_eqBoard.calls kj15 t925 t926 _ _ t927 t939 t940 _ _ t941 true _ ?side1 ?side2 ?side3 ?side4 A44.1).mono ?_
 (case side1 => exact CB (R_reads' HO_931002.1).2.2)
 (case side2 => exact (R_reads' HO_931002.1).2.1)
 (case side3 => exact CB (R_reads' HO943.1).2.2)
 (case side4 => exact (R_reads' HO943.1).2.1)
 rintro e w55 ⟨rfl, hb⟩
 refine ⟨_, rfl, ?_⟩
 refine E8 (rB HO_6.1 hb) (rB HO_9.1 hb) (rB HO_10.1 hb) (rB HO_931002.1 hb) (rB HO943.1 hb) (bB BK911.1 hb) (bB BK930.1 hb) (bS HB.1 hb) ?_
 clear HO_6 HO_9 HO_10 HO_931002 HO943 BK911 BK930 HB
 intro HO_6 HO_9 HO_10 HO_931002 HO943 BK911 BK930 HB
 (try clear hb)
 (try clear hb2)
 (try clear hk)
 (try clear hi)
 refine hK.out _ _ ⟨(blk_cell BK930.1 0).trans rfl, (blk_cell BK930.1 1).trans rfl, (blk_cell BK930.1 2).trans rfl, (blk_cell BK911.1 0).trans rfl, (blk_cell BK911.1 1).trans rfl, (blk_cell BK911.1 2).trans rfl⟩ (fun hHeld => ?_)
 clear hK K
 refine norm_ (a' := ?_) ?_ ?_
 rotate_left
 · show Act.put _ (some 55) _ = _
   simp only [Act.put, List.setIfInBounds_toArray, List.set_cons_zero, List.set_cons_succ, i64_w, i32_w]
   rfl
 refine pure_ (i := 4) (N := some 56) (v := ?_) (a' := ?_) #[Yy,Yy,Yy,Yy,Yy] rfl rfl (by kernel_rfl) (fun _ _ _ h => h) (Or.inl ⟨by rfl, ?_⟩) ?_ ?_
 rotate_left
 · intro w'
   go_simp
   with_reducible rfl
 rotate_left
 · simp only [Act.put, List.setIfInBounds_toArray, List.set_cons_zero, List.set_cons_succ, i64_w, i32_w]
   rfl
 refine done_ (by kernel_rfl) ?_
 go_upto_region 20 with (first | ((with_reducible refine gate_callee (f := 31) rfl ?_); refine goesM (N := (some 59)) #[.slice A1 l1.length c1] Try.func31 ?_; (with_reducible refine (laws_toIntS.calls kj15 _ _ l1 t945 _ ?side1 ?side2 A46.1).mono ?_); (case side1 => exact CB (C_below HR1.1 HB.1)); (case side2 => exact HC1.1); rintro e w56 ⟨v946, rfl, ho0, hb⟩; refine ⟨_, rfl, ?_⟩; refine E9 (R_elder' (PR HO_6.1) (R_base ho0) hb) (R_elder' (PR HO_9.1) (R_base ho0) hb) (R_elder' (PR HO_10.1) (R_base ho0) hb) (rB HO_931002.1 hb) (rB HO943.1 hb) (R_lower (R_new' (R_new' (R_new' ho0 (R_lt (PR HO_6.1))) (R_lt (PR HO_9.1))) (R_lt (PR HO_10.1))) (bZ HB.1)) (bB BK911.1 hb) (bB BK930.1 hb) (bS HB.1 hb) ?_; clear HO_6 HO_9 HO_10 HO_931002 HO943 BK911 BK930 HB; intro HO_6 HO_9 HO_10 HO_931002 HO943 HO947 BK911 BK930 HB; (try clear hb); (try clear ho0); obtain ⟨Ao57, co57, eo57⟩ := R_slice HO947.1; subst eo57) | ((with_reducible refine gate_callee (f := 26) rfl ?_); refine goesM (N := (some 60)) #[.slice Ao34 t931.length co34, .slice Ao57 t945.length co57] Try.func26 ?_; (with_reducible refine (laws_eqIntS.calls kj15 _ _ t931 _ _ t945 true _ ?side1 ?side2 ?side3 ?side4 A47.1).mono ?_); (case side1 => exact CB (R_reads' HO_9.1).2.2); (case side2 => exact (R_reads' HO_9.1).2.1); (case side3 => exact CB (R_reads' HO947.1).2.2); (case side4 => exact (R_reads' HO947.1).2.1); rintro e w' ⟨rfl, ⟨nd, rfl⟩⟩; refine ⟨_, rfl, ?_⟩; have hnb58 := NB930_911.1; have hnc58 := NB911_930.1; obtain ⟨hcz59_0, hcz59_1, hcz59_2, hfz59_0, hfz59_1, hfz59_2⟩ := cz3 BK930.1) | ((with_reducible refine gate_callee (f := 27) rfl ?_); refine goesM (N := (some 64)) #[.agg #[.int .i64 t925, .int .i64 t926, .slice Ao31 t927.length co31], .int .i64 1] Try.func27 ?_; (with_reducible refine (laws_markBoard.calls kj15 t925 t926 (fun k_ => some k_ = (.slice Ao31 t927.length co31 : Value).ownBlock) (.slice Ao31 t927.length co31) t927 1 t949 t950 w _ ?side1 ?side2 A49.1).mono ?_); (case side1 => exact BL HB.1); (case side2 => exact R_tight rfl HO_931002.1); rintro e w60 ⟨rfl, hy0, hb, hkp⟩; refine ⟨_, rfl, ?_⟩; refine E9 (R_mono (ok' := fun k_ => some k_ ≠ (.slice Ao34 t931.length co34 : Value).ownBlock /\ some k_ ≠ (v935 : Value).ownBlock /\ some k_ ≠ (.slice Ao57 t945.length co57 : Value).ownBlock) (R_keptB ((R_apart' HO_6.1 (R_typed HO_931002.1) (by decide))) hkp (fun k_ hk_ hs_ => (hk_.2) hs_)) (fun k_ hk_ => ⟨hk_.1.1.1.1, hk_.1.1.1.2, hk_.1.1.2⟩)) (R_mono (ok' := fun k_ => some k_ ≠ (v922 : Value).ownBlock /\ some k_ ≠ (v935 : Value).ownBlock /\ some k_ ≠ (.slice Ao57 t945.length co57 : Value).ownBlock) (R_keptB ((R_apart' HO_9.1 (R_typed HO_931002.1) (by decide))) hkp (fun k_ hk_ hs_ => (hk_.2) hs_)) (fun k_ hk_ => ⟨hk_.1.1.1.1, hk_.1.1.1.2, hk_.1.1.2⟩)) (R_mono (ok' := fun k_ => some k_ ≠ (v922 : Value).ownBlock /\ some k_ ≠ (.slice Ao34 t931.length co34 : Value).ownBlock /\ some k_ ≠ (.slice Ao57 t945.length co57 : Value).ownBlock) (R_keptB ((R_apart' HO_10.1 (R_typed HO_931002.1) (by decide))) hkp (fun k_ hk_ hs_ => (hk_.2) hs_)) (fun k_ hk_ => ⟨hk_.1.1.1.1, hk_.1.1.1.2, hk_.1.1.2⟩)) (R_reok rfl hy0 (fun k_ e_ => HO_931002.1.1 k_ e_)) (blk_kept (PB BK911.1) hkp (fun hs_ => (fun e_ => (R_ne HO_931002.1 BK911.1 (by decide)) e_) hs_)) (blk_kept (PB BK930.1) hkp (fun hs_ => (fun e_ => (R_ne HO_931002.1 BK930.1 (by decide)) e_) hs_)) (R_mono (ok' := fun k_ => some k_ ≠ (.slice Ao31 t927.length co31 : Value).ownBlock) (R_keptB (HO943.1) hkp (fun k_ hk_ hs_ => (hk_.2) hs_)) (fun k_ hk_ => hk_.1.2)) (R_mono (ok' := fun k_ => some k_ ≠ (v922 : Value).ownBlock /\ some k_ ≠ (.slice Ao34 t931.length co34 : Value).ownBlock /\ some k_ ≠ (v935 : Value).ownBlock) (R_keptB ((R_apart' HO947.1 (R_typed HO_931002.1) (by decide))) hkp (fun k_ hk_ hs_ => (hk_.2) hs_)) (fun k_ hk_ => ⟨hk_.1.1.1.1.2, hk_.1.1.1.2, hk_.1.1.2⟩)) (hb) ?_; clear HO_6 HO_9 HO_10 HO_931002 BK911 BK930 HO943 HO947 HB; intro HO_6 HO_9 HO_10 HO_931002 BK911 BK930 HO943 HO947 HB; (try clear hb); (try clear hkp); (try clear hy0)) | ((with_reducible refine gate_callee (f := 28) rfl ?_); refine goesM (N := (some 67)) #[.slice Ao34 t931.length co34, .int .i64 t949] Try.func28 ?_; (with_reducible refine (laws_markIntS.calls kj15 (fun k_ => some k_ = (.slice Ao34 t931.length co34 : Value).ownBlock) (.slice Ao34 t931.length co34) t931 t949 t951 t952 w _ ?side1 ?side2 A50.1).mono ?_); (case side1 => exact BL HB.1); (case side2 => exact R_tight rfl HO_9.1); rintro e w61 ⟨rfl, hy0, hb, hkp⟩; refine ⟨_, rfl, ?_⟩; refine E9 (R_mono (ok' := fun k_ => some k_ ≠ (.slice Ao34 t931.length co34 : Value).ownBlock /\ some k_ ≠ (v935 : Value).ownBlock /\ some k_ ≠ (.slice Ao57 t945.length co57 : Value).ownBlock) (R_keptB (HO_6.1) hkp (fun k_ hk_ hs_ => (hk_.1) hs_)) (fun k_ hk_ => ⟨hk_.1.1, hk_.1.2.1, hk_.1.2.2⟩)) (R_reok rfl hy0 (fun k_ e_ => HO_9.1.1 k_ e_)) (R_mono (ok' := fun k_ => some k_ ≠ (v922 : Value).ownBlock /\ some k_ ≠ (.slice Ao34 t931.length co34 : Value).ownBlock /\ some k_ ≠ (.slice Ao57 t945.length co57 : Value).ownBlock) (R_keptB (HO_10.1) hkp (fun k_ hk_ hs_ => (hk_.2.1) hs_)) (fun k_ hk_ => ⟨hk_.1.1, hk_.1.2.1, hk_.1.2.2⟩)) (R_mono (ok' := fun k_ => some k_ ≠ (.slice Ao54 t941.length co54 : Value).ownBlock) (R_keptB ((R_apart' HO_931002.1 (R_typed HO_9.1) (by decide))) hkp (fun k_ hk_ hs_ => (hk_.2) hs_)) (fun k_ hk_ => hk_.1.1.2)) (blk_kept (PB BK911.1) hkp (fun hs_ => (fun e_ => (R_ne HO_9.1 BK911.1 (by decide)) e_) hs_)) (blk_kept (PB BK930.1) hkp (fun hs_ => (fun e_ => (R_ne HO_9.1 BK930.1 (by decide)) e_) hs_)) (R_mono (ok' := fun k_ => some k_ ≠ (.slice Ao31 t927.length co31 : Value).ownBlock) (R_keptB ((R_apart' HO943.1 (R_typed HO_9.1) (by decide))) hkp (fun k_ hk_ hs_ => (hk_.2) hs_)) (fun k_ hk_ => hk_.1.1)) (R_mono (ok' := fun k_ => some k_ ≠ (v922 : Value).ownBlock /\ some k_ ≠ (.slice Ao34 t931.length co34 : Value).ownBlock /\ some k_ ≠ (v935 : Value).ownBlock) (R_keptB (HO947.1) hkp (fun k_ hk_ hs_ => (hk_.2.1) hs_)) (fun k_ hk_ => ⟨hk_.1.1, hk_.1.2.1, hk_.1.2.2⟩)) (hb) ?_; clear HO_6 HO_9 HO_10 HO_931002 BK911 BK930 HO943 HO947 HB; intro HO_6 HO_9 HO_10 HO_931002 BK911 BK930 HO943 HO947 HB; (try clear hb); (try clear hkp); (try clear hy0)))
 (try simp only [Act.put, List.setIfInBounds_toArray, List.set_cons_zero, List.set_cons_succ])
 go_cut [80] (fun v80 wc => ∃ (kq : Nat) (x80_50 : Bool), v80 = .bool x80_50 /\ Aside0 (laws_FnExactNeverReached.j1 kq l1 t921 t924 t934 x80_50 a0_0 a0_1 l0_2 = some true) /\ Aside0 (kq <= kj15) /\ Aside0 (Kd.R (Kd.int .i64) 3 wc w.heap.size (fun k_ => some k_ ≠ (v935 : Value).ownBlock) v922 t921) /\ Aside0 (Kd.R (Kd.int .i64) 3 wc w.heap.size (fun k_ => some k_ ≠ (v922 : Value).ownBlock) v935 t934) /\ Aside0 (Kd.R k83 83 wc w.heap.size (fun _ => True) (.slice Ao31 t927.length co31) t950) /\ Aside0 (wc.heap[gb911]? = some (.cells #[.int .i64 a0_0, .int .i64 a0_1, (.slice A0_2 l0_2.length c0_2)] 24 (0, 0))) /\ Aside0 (wc.heap[gb930]? = some (.cells #[.int .i64 t925, .int .i64 t926, (.slice Ao31 t927.length co31)] 30 (0, 0))) /\ Aside0 (Below w.heap.size w wc))
 case first =>
  have H := HC51.1
  clear HC51
  replace H := ifQ H; rcases H with ⟨c62, H⟩ | ⟨c62, H⟩
  · exact absurd H (by cases kj15 <;> simp [laws_FnExactNeverReached.j1])
  have c62b0 := decide_eq_false c62
  clear c62
  (first | rw [c62b0] | (simp only [i64_w, i32_w]; rw [c62b0]) | skip)
  replace H := bindA H; obtain ⟨t953, A63, H⟩ := H
  replace H := ifT H (by cases kj15 <;> simp [laws_FnExactNeverReached.j1]); obtain ⟨rfl, H⟩ := H
  have H' := Aside0.mk H
  clear H
  obtain ⟨Ao65, co65, eo65⟩ := R_slice HO_10.1
  subst eo65
  obtain ⟨Ao66, co66, eo66⟩ := R_slice HO_6.1
  subst eo66
  go_wp2_with (first | (go_at_call 26; (with_reducible refine (laws_eqIntS.calls kj15 _ _ t934 _ _ t921 true _ ?side1 ?side2 ?side3 ?side4 A63.1).mono ?_); (case side1 => exact CB (R_reads' HO_10.1).2.2); (case side2 => exact (R_reads' HO_10.1).2.1); (case side3 => exact CB (R_reads' HO_6.1).2.2); (case side4 => exact (R_reads' HO_6.1).2.1); rintro e w' ⟨rfl, ⟨nd, rfl⟩⟩))
  go_meet
  case rel => exact ⟨_, ((t937 != t924)), RG, H', ⟨by have := HJ15.1; first | omega | exact Nat.le_refl _⟩, ⟨RPE (R_mono HO_6.1 (fun _ hk => hk.2.1))⟩, ⟨RPE (R_mono HO_10.1 (fun _ hk => hk.1))⟩, ⟨RPE (R_mono HO_931002.1 (fun _ hk => trivial))⟩, ⟨PB BK911.1⟩, ⟨PB BK930.1⟩, ⟨BL HB.1⟩⟩
 clear HC51
 try clear c1; clear hcz59_0 hcz59_1 hcz59_2 hfz59_0 hfz59_1 hfz59_2
 obtain ⟨kq, x80_50, rfl, HA, HJ50, HO_6, HO_10, HO_931002, BK911, BK930, HB⟩ := hcut
 have hl931002_50 := (R_reads' HO_931002.1).1
 rw [hl931002_50] at HO_931002
 (try simp only [hl931002_50])
 (try simp only [hl931002_50] at BK911)
 (try simp only [hl931002_50] at BK930)
 (try simp only [hl931002_50] at HO_6)
 (try simp only [hl931002_50] at HO_10)
 cases kq with
 | zero => exact absurd HA.1 (by simp [laws_FnExactNeverReached.j1])
 | succ kj50 => ?_
 have H := HA.1
 clear HA
 simp only [laws_FnExactNeverReached.j1] at H
 replace H := ifF H (by simp); obtain ⟨rfl, H⟩ := H
 replace H := bindA H; obtain ⟨⟨t954, t955⟩, A70, H⟩ := H
 dsimp only at H
 replace H := bindA H; obtain ⟨t956, A71, H⟩ := H
 replace H := ifQ H; rcases H with ⟨c72, H⟩ | ⟨c72, H⟩
 · exact absurd H (by simp)
 have c72b0 := decide_eq_false c72
 clear c72
 first | replace H := ifP H | replace H := ifPf H
 obtain ⟨c75, H⟩ := H
 have c75b0 := beq_iff_eq.mpr c75
 have c75b1 := bne_eq_false_iff_eq.mpr c75
 clear c75
 replace H := bindA H; obtain ⟨⟨t957, t958, t959⟩, A76, H⟩ := H
 dsimp only at H
 replace H := bindA H; obtain ⟨t962, A77, H⟩ := H
 replace H := bindA H; obtain ⟨⟨t965, t968⟩, A78, H⟩ := H
 dsimp only at H
 have HC79 := Aside0.mk H
 clear H
 obtain ⟨Ao80, co80, eo80⟩ := R_slice HO_10.1
 subst eo80
 go_upto_region 31 with (first | ((with_reducible refine gate_callee (f := 28) rfl ?_); refine goesM (N := (some 83)) #[.slice Ao80 t934.length co80, .int .i64 1] Try.func28 ?_; (with_reducible refine (laws_markIntS.calls kj50 (fun k_ => some k_ = (.slice Ao80 t934.length co80 : Value).ownBlock) (.slice Ao80 t934.length co80) t934 1 t954 t955 w _ ?side1 ?side2 A70.1).mono ?_); (case side1 => exact BL HB.1); (case side2 => exact R_tight rfl HO_10.1); rintro e w81 ⟨rfl, hy0, hb, hkp⟩; refine ⟨_, rfl, ?_⟩; refine E6 (R_mono (ok' := fun k_ => some k_ ≠ (.slice Ao80 t934.length co80 : Value).ownBlock) (R_keptB (HO_6.1) hkp (fun k_ hk_ hs_ => (hk_) hs_)) (fun k_ hk_ => hk_.1)) (R_reok rfl hy0 (fun k_ e_ => HO_10.1.1 k_ e_)) (R_mono (ok' := fun k_ => True) (R_keptB ((R_apart' HO_931002.1 (R_typed HO_10.1) (by decide))) hkp (fun k_ hk_ hs_ => (hk_.2) hs_)) (fun k_ hk_ => trivial)) (blk_kept (PB BK911.1) hkp (fun hs_ => (fun e_ => (R_ne HO_10.1 BK911.1 (by decide)) e_) hs_)) (blk_kept (PB BK930.1) hkp (fun hs_ => (fun e_ => (R_ne HO_10.1 BK930.1 (by decide)) e_) hs_)) (hb) ?_; clear HO_6 HO_10 HO_931002 BK911 BK930 HB; intro HO_6 HO_10 HO_931002 BK911 BK930 HB; (try clear hb); (try clear hkp); (try clear hy0)) | ((with_reducible refine gate_callee (f := 29) rfl ?_); refine goesL_ (some 86) rfl rfl Try.func29 (by kernel_rfl) rfl #[.slice Ao80 t955.length co80, .int .i64 1] rfl (by (try simp only [List.map_toArray, List.map_cons, List.map_nil]); first | done | (rw [show t955.length = t934.length from (R_reads' HO_10.1).1.symm] <;> rfl) | rfl | (simp only [List.length_drop, List.length_take]; rfl)) ?_; (with_reducible refine (laws_heldIntS.calls kj50 _ _ t955 1 t956 _ ?side1 ?side2 A71.1).mono ?_); (case side1 => exact CB (R_reads' HO_10.1).2.2); (case side2 => rw [show t955.length = t934.length from (R_reads' HO_10.1).1.symm]; exact (R_reads' HO_10.1).2.1); rintro e w' ⟨rfl, ⟨nd, rfl⟩⟩; refine ⟨_, rfl, ?_⟩; have hnb82 := NB911_930.1; have hnc82 := NB930_911.1; obtain ⟨hcz83_0, hcz83_1, hcz83_2, hfz83_0, hfz83_1, hfz83_2⟩ := cz3 BK911.1) | ((with_reducible refine gate_callee (f := 15) rfl ?_); refine goesM (N := (some 94)) #[.agg #[.int .i64 a0_0, .int .i64 a0_1, .slice A0_2 l0_2.length c0_2]] Try.func15 ?_; (with_reducible refine (laws_toBoard.calls kj50 a0_0 a0_1 _ _ l0_2 t957 t958 t959 _ ?side1 ?side2 A76.1).mono ?_); (case side1 => repeat (first | exact (C_below HR0_2.1 (BL HB.1)) | (with_reducible refine C_alloc ?_ _) | (with_reducible refine C_drewN ?_ _) | (with_reducible refine C_drew ?_))); (case side2 => exact HC0_2.1); rintro e w84 ⟨v960, rfl, ho0, hb⟩; refine ⟨_, rfl, ?_⟩; refine E7 (rB HO_6.1 hb) (rB HO_10.1 hb) (R_elder' (PR HO_931002.1) (R_base ho0) hb) (R_lower (R_new' ho0 (R_lt (PR HO_931002.1))) (bZ HB.1)) (bB BK911.1 hb) (bB BK930.1 hb) (bS HB.1 hb) ?_; clear HO_6 HO_10 HO_931002 BK911 BK930 HB; intro HO_6 HO_10 HO_931002 HO961 BK911 BK930 HB; (try clear hb); (try clear ho0)) | ((with_reducible refine gate_callee (f := 31) rfl ?_); refine goesM (N := (some 96)) #[.slice A1 l1.length c1] Try.func31 ?_; (with_reducible refine (laws_toIntS.calls kj50 _ _ l1 t962 _ ?side1 ?side2 A77.1).mono ?_); (case side1 => exact CB (C_below HR1.1 HB.1)); (case side2 => exact HC1.1); rintro e w85 ⟨v963, rfl, ho0, hb⟩; refine ⟨_, rfl, ?_⟩; refine E8 (R_elder' (PR HO_6.1) (R_base ho0) hb) (R_elder' (PR HO_10.1) (R_base ho0) hb) (rB HO_931002.1 hb) (rB HO961.1 hb) (R_lower (R_new' (R_new' ho0 (R_lt (PR HO_6.1))) (R_lt (PR HO_10.1))) (bZ HB.1)) (bB BK911.1 hb) (bB BK930.1 hb) (bS HB.1 hb) ?_; clear HO_6 HO_10 HO_931002 HO961 BK911 BK930 HB; intro HO_6 HO_10 HO_931002 HO961 HO964 BK911 BK930 HB; (try clear hb); (try clear ho0); obtain ⟨Ao86, co86, eo86⟩ := R_slice HO961.1; subst eo86; obtain ⟨Ao87, co87, eo87⟩ := R_slice HO964.1; subst eo87) | ((with_reducible refine gate_callee (f := 34) rfl ?_); refine goesM (N := (some 97)) #[.agg #[.int .i64 t957, .int .i64 t958, .slice Ao86 t959.length co86], .slice Ao87 t962.length co87] Try.func34 ?_; (with_reducible refine (impl_NeverReached.calls kj50 t957 t958 _ _ t959 _ _ t962 t965 t968 _ ?side1 ?side2 ?side3 ?side4 A78.1).mono ?_); (case side1 => exact CB (R_reads' HO961.1).2.2); (case side2 => exact (R_reads' HO961.1).2.1); (case side3 => exact CB (R_reads' HO964.1).2.2); (case side4 => exact (R_reads' HO964.1).2.1); rintro e w88 ⟨v966, rfl, ho0, hb⟩; refine ⟨_, rfl, ?_⟩; refine E9 (R_elder' (PR HO_6.1) (R_base ho0) hb) (R_elder' (PR HO_10.1) (R_base ho0) hb) (rB HO_931002.1 hb) (rB HO961.1 hb) (R_elder' (PR HO964.1) (R_base ho0) hb) (R_lower (R_new' (R_new' (R_new' ho0 (R_lt (PR HO_6.1))) (R_lt (PR HO_10.1))) (R_lt (PR HO964.1))) (bZ HB.1)) (bB BK911.1 hb) (bB BK930.1 hb) (bS HB.1 hb) ?_; clear HO_6 HO_10 HO_931002 HO961 HO964 BK911 BK930 HB; intro HO_6 HO_10 HO_931002 HO961 HO964 HO967 BK911 BK930 HB; (try clear hb); (try clear ho0)))
 (try simp only [Act.put, List.setIfInBounds_toArray, List.set_cons_zero, List.set_cons_succ])
 go_cut [108] (fun v108 wc => ∃ (kq : Nat) (x108_78 : Bool), v108 = .bool x108_78 /\ Aside0 (laws_FnExactNeverReached.j2 kq t955 t954 x108_78 = some true) /\ Aside0 (kq <= kj50) /\ Aside0 (Kd.R (Kd.int .i64) 3 wc w.heap.size (fun _ => True) (.slice Ao80 t934.length co80) t955) /\ Aside0 (Kd.R k83 83 wc w.heap.size (fun _ => True) (.slice Ao31 t950.length co31) t950) /\ Aside0 (wc.heap[gb911]? = some (.cells #[.int .i64 a0_0, .int .i64 a0_1, (.slice A0_2 l0_2.length c0_2)] 24 (0, 0))) /\ Aside0 (wc.heap[gb930]? = some (.cells #[.int .i64 t925, .int .i64 t926, (.slice Ao31 t950.length co31)] 30 (0, 0))) /\ Aside0 (Below w.heap.size w wc))
 case first =>
  have H := HC79.1
  clear HC79
  replace H := bindA H; obtain ⟨t969, A89, H⟩ := H
  replace H := ifT H (by cases kj50 <;> simp [laws_FnExactNeverReached.j2]); obtain ⟨rfl, H⟩ := H
  have H' := Aside0.mk H
  clear H
  obtain ⟨Ao91, co91, eo91⟩ := R_slice HO967.1
  subst eo91
  obtain ⟨Ao92, co92, eo92⟩ := R_slice HO_6.1
  subst eo92
  go_wp2_with (first | ((with_reducible refine gate_callee (f := 26) rfl ?_); refine goesM (N := (some 102)) #[.slice Ao91 t965.length co91, .slice Ao92 t921.length co92] Try.func26 ?_; (with_reducible refine (laws_eqIntS.calls kj50 _ _ t965 _ _ t921 true _ ?side1 ?side2 ?side3 ?side4 A89.1).mono ?_); (case side1 => exact CB (R_reads' HO967.1).2.2); (case side2 => exact (R_reads' HO967.1).2.1); (case side3 => exact CB (R_reads' HO_6.1).2.2); (case side4 => exact (R_reads' HO_6.1).2.1); rintro e w' ⟨rfl, ⟨nd, rfl⟩⟩; refine ⟨_, rfl, ?_⟩))
  go_meet
  case rel => exact ⟨_, ((t968 != t924)), RG, H', ⟨by have := HJ15.1; have := HJ50.1; first | omega | exact Nat.le_refl _⟩, ⟨by (try simp only [hl931002_50]); (with_reducible repeat (first | apply R_alloc | apply R_drewN | apply R_drew)); exact R_mono HO_10.1 (fun _ hk => trivial)⟩, ⟨by (try simp only [hl931002_50]); (with_reducible repeat (first | apply R_alloc | apply R_drewN | apply R_drew)); exact R_mono HO_931002.1 (fun _ hk => trivial)⟩, ⟨PB1 BK911.1 hl931002_50⟩, ⟨PB1 BK930.1 hl931002_50⟩, ⟨BL HB.1⟩⟩
 clear HC79
 try clear c1; clear c72b0 c75b0 c75b1 hcz83_0 hcz83_1 hcz83_2 hfz83_0 hfz83_1 hfz83_2
 obtain ⟨kq, x108_78, rfl, HA, HJ78, HO_10, HO_931002, BK911, BK930, HB⟩ := hcut
 have hl10_78 := (R_reads' HO_10.1).1
 rw [hl10_78] at HO_10
 (try simp only [hl10_78])
 (try simp only [hl10_78] at BK911)
 (try simp only [hl10_78] at BK930)
 (try simp only [hl10_78] at HO_931002)
 cases kq with
 | zero => exact absurd HA.1 (by simp [laws_FnExactNeverReached.j2])
 | succ kj78 => ?_
 have H := HA.1
 clear HA
 simp only [laws_FnExactNeverReached.j2] at H
 replace H := ifF H (by simp); obtain ⟨rfl, H⟩ := H
 replace H := bindA H; obtain ⟨t970, A96, H⟩ := H
 replace H := ifQ H; rcases H with ⟨c97, H⟩ | ⟨c97, H⟩
 · exact absurd H (by simp)
 have c97b0 := decide_eq_false c97
 clear c97
 first | replace H := ifP H | replace H := ifPf H
 obtain ⟨c98, H⟩ := H
 have c98b0 := beq_iff_eq.mpr c98
 have c98b1 := bne_eq_false_iff_eq.mpr c98
 clear c98
 first | (obtain rfl := Option.some.inj H) | clear H
 go_wp2_with (first | ((with_reducible refine gate_callee (f := 29) rfl ?_); refine goesM (N := (some 111)) #[.slice Ao80 t955.length co80, .int .i64 1] Try.func29 ?_; (with_reducible refine (laws_heldIntS.calls kj78 _ _ t955 1 t970 _ ?side1 ?side2 A96.1).mono ?_); (case side1 => exact CB (R_reads' HO_10.1).2.2); (case side2 => exact (R_reads' HO_10.1).2.1); rintro e w' ⟨rfl, ⟨nd, rfl⟩⟩; refine ⟨_, rfl, ?_⟩))
 go_ret
 exact ⟨RF, BL HB.1⟩
end Go.Proofs.Ytbpfdbjnnlmdjaa.P
