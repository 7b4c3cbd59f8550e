-- PRINTED by print.py (a twelfth state) out of the translation. Not trusted: Lean checks it.
import Derived.Test.YtlkmafoihjglcaaPx0
import Derived.Test.YtlkmafoihjglcaaPx1
import Derived.Test.YtlkmafoihjglcaaPx2
import Derived.Test.YtlkmafoihjglcaaPx3
namespace Go.Proofs.Ytlkmafoihjglcaa.P
open Go.RowKit Go.Proofs.YtlkmafoihjglcaaW.PrintWords Go.Proofs.YtlkmafoihjglcaaW.PrintLast Go.Proofs.YtlkmafoihjglcaaW.PrintMore
attribute [local go_sem] max2_int min2_int max_two min_two max_three min_three max_four min_four   -- for this text's walks alone
set_option linter.unusedVariables false
set_option linter.unusedSimpArgs false
set_option maxHeartbeats 8000000
set_option maxRecDepth 100000

/-! ### laws_eqBoard: function 9 -/
open Kd
def laws_eqBoard.f (k : Nat) (a0_0 : Int) (a0_1 : Int) (l0_2 : List (S49)) (a1_0 : Int) (a1_1 : Int) (l1_2 : List (S49)) : Option (Bool) := if a0_0 = a1_0 then (if a0_1 = a1_1 then ((laws_eqCellS.f k l0_2 l1_2).bind fun t314 => (if t314 = true then (some true) else (some false))) else (some false)) else (some false)
theorem laws_eqBoard.mono : ∀ a0 a1 a2 a3 a4 a5 k, LeO (laws_eqBoard.f k a0 a1 a2 a3 a4 a5) (laws_eqBoard.f (k + 1) a0 a1 a2 a3 a4 a5) := by
 intro a0 a1 a2 a3 a4 a5 k
 unfold laws_eqBoard.f
 repeat' first
  | (with_reducible exact laws_eqCellS.mono _ _ _)
  | (with_reducible exact LeO.refl _)
  | (with_reducible exact LeO.none _)
  | (with_reducible refine LeO.ite ?_ ?_)
  | (with_reducible refine LeO.bind ?_ (fun _ => ?_))
  | exact laws_eqCellS.mono _ _ _
  | exact LeO.none _
  | refine LeO.ite ?_ ?_
  | refine LeO.bind ?_ (fun _ => ?_)
theorem laws_eqBoard.calls (k : Nat) (a0_0 : Int) (a0_1 : Int) (A0_2 : Option Addr) (c0_2 : Nat) (l0_2 : List (S49)) (a1_0 : Int) (a1_1 : Int) (A1_2 : Option Addr) (c1_2 : Nat) (l1_2 : List (S49)) (r : Bool) (w : World) (hr0_2 : Kd.C k49 w A0_2 l0_2.length l0_2) (hc0_2 : l0_2.length <= c0_2) (hr1_2 : Kd.C k49 w A1_2 l1_2.length l1_2) (hc1_2 : l1_2.length <= c1_2) (h : laws_eqBoard.f k a0_0 a0_1 l0_2 a1_0 a1_1 l1_2 = some r) :
 Calls Try.prog 9 #[.agg #[.int .i64 a0_0, .int .i64 a0_1, .slice A0_2 l0_2.length c0_2], .agg #[.int .i64 a1_0, .int .i64 a1_1, .slice A1_2 l1_2.length c1_2]] w fun e w' => e = .returned (.bool r) /\ Below w.heap.size w w' := by
 have hu31 := Try.underlying31
 have HR0_2 := Aside0.mk hr0_2
 have HC0_2 := Aside0.mk hc0_2
 clear hr0_2 hc0_2
 have HR1_2 := Aside0.mk hr1_2
 have HC1_2 := Aside0.mk hc1_2
 clear hr1_2 hc1_2
 have HB := Aside0.mk (Below.refl w.heap.size w)
 have H := h
 clear h
 unfold laws_eqBoard.f at H
 replace H := ifQ H; rcases H with ⟨c3, H⟩ | ⟨c3, H⟩
 · have c3b0 := beq_iff_eq.mpr c3
   have c3b1 := bne_eq_false_iff_eq.mpr c3
   clear c3
   replace H := ifQ H; rcases H with ⟨c4, H⟩ | ⟨c4, H⟩
   · have c4b0 := beq_iff_eq.mpr c4
     have c4b1 := bne_eq_false_iff_eq.mpr c4
     clear c4
     replace H := bindA H; obtain ⟨t314, A5, H⟩ := H
     replace H := ifX H; rcases H with ⟨rfl, H⟩ | ⟨rfl, H⟩
     · obtain rfl := Option.some.inj H
       go_enter Try.func9, Try.ntmps9
       go_wp2_with (first | ((with_reducible refine gate_dst (N := 2) rfl ?_); refine boxE (cs := #[.int .i64 a0_0, .int .i64 a0_1, .slice A0_2 l0_2.length c0_2]) (t := 31) ?_; intro gb312 hg w7 hbox hb; refine E4b HB.1 hg hbox hb ?_; clear HB; intro HB BK312 GW312 GE312; clear hb hbox hg) | ((with_reducible refine gate_dst (N := 3) rfl ?_); refine boxE (cs := #[.int .i64 a1_0, .int .i64 a1_1, .slice A1_2 l1_2.length c1_2]) (t := 31) ?_; intro gb313 hg w8 hbox hb; refine E7 (bB BK312.1 hb) (bS HB.1 hb) (hbox) (gX HB.1 hg) (gX HB.1 hg) (nB BK312.1 hg) (nC BK312.1 hg) ?_; clear BK312 HB; intro BK312 HB BK313 GW313 GE313 NB312_313 NB313_312; clear hb hbox hg; have hnb9 := NB312_313.1; have hnc9 := NB313_312.1; obtain ⟨hcz10_0, hcz10_1, hcz10_2, hfz10_0, hfz10_1, hfz10_2⟩ := cz3 BK312.1; obtain ⟨hcz11_0, hcz11_1, hcz11_2, hfz11_0, hfz11_1, hfz11_2⟩ := cz3 BK313.1) | ((with_reducible refine gate_callee (f := 20) rfl ?_); refine goesM (N := (some 19)) #[.slice A0_2 l0_2.length c0_2, .slice A1_2 l1_2.length c1_2] Try.func20 ?_; (with_reducible refine (laws_eqCellS.calls k _ _ l0_2 _ _ l1_2 true _ ?side1 ?side2 ?side3 ?side4 A5.1).mono ?_); (case side1 => exact CB (C_below HR0_2.1 HB.1)); (case side2 => exact HC0_2.1); (case side3 => exact CB (C_below HR1_2.1 HB.1)); (case side4 => exact HC1_2.1); rintro e w12 ⟨rfl, hb⟩; refine ⟨_, rfl, ?_⟩; refine E3 (bB BK312.1 hb) (bB BK313.1 hb) (bS HB.1 hb) ?_; clear BK312 BK313 HB; intro BK312 BK313 HB; (try clear hb)))
       go_ret
       exact ⟨RF, BL HB.1⟩
     obtain rfl := Option.some.inj H
     go_enter Try.func9, Try.ntmps9
     go_wp2_with (first | ((with_reducible refine gate_dst (N := 2) rfl ?_); refine boxE (cs := #[.int .i64 a0_0, .int .i64 a0_1, .slice A0_2 l0_2.length c0_2]) (t := 31) ?_; intro gb312 hg w13 hbox hb; refine E4b HB.1 hg hbox hb ?_; clear HB; intro HB BK312 GW312 GE312; clear hb hbox hg) | ((with_reducible refine gate_dst (N := 3) rfl ?_); refine boxE (cs := #[.int .i64 a1_0, .int .i64 a1_1, .slice A1_2 l1_2.length c1_2]) (t := 31) ?_; intro gb313 hg w14 hbox hb; refine E7 (bB BK312.1 hb) (bS HB.1 hb) (hbox) (gX HB.1 hg) (gX HB.1 hg) (nB BK312.1 hg) (nC BK312.1 hg) ?_; clear BK312 HB; intro BK312 HB BK313 GW313 GE313 NB312_313 NB313_312; clear hb hbox hg; have hnb15 := NB312_313.1; have hnc15 := NB313_312.1; obtain ⟨hcz16_0, hcz16_1, hcz16_2, hfz16_0, hfz16_1, hfz16_2⟩ := cz3 BK312.1; obtain ⟨hcz17_0, hcz17_1, hcz17_2, hfz17_0, hfz17_1, hfz17_2⟩ := cz3 BK313.1) | ((with_reducible refine gate_callee (f := 20) rfl ?_); refine goesM (N := (some 19)) #[.slice A0_2 l0_2.length c0_2, .slice A1_2 l1_2.length c1_2] Try.func20 ?_; (with_reducible refine (laws_eqCellS.calls k _ _ l0_2 _ _ l1_2 false _ ?side1 ?side2 ?side3 ?side4 A5.1).mono ?_); (case side1 => exact CB (C_below HR0_2.1 HB.1)); (case side2 => exact HC0_2.1); (case side3 => exact CB (C_below HR1_2.1 HB.1)); (case side4 => exact HC1_2.1); rintro e w18 ⟨rfl, hb⟩; refine ⟨_, rfl, ?_⟩; refine E3 (bB BK312.1 hb) (bB BK313.1 hb) (bS HB.1 hb) ?_; clear BK312 BK313 HB; intro BK312 BK313 HB; (try clear hb)))
     go_ret
     exact ⟨RF, BL HB.1⟩
   have c4b0 := beq_eq_false_iff_ne.mpr c4
   have c4b1 := bne_iff_ne.mpr c4
   obtain rfl := Option.some.inj H
   go_enter Try.func9, Try.ntmps9
   go_wp2_with (first | ((with_reducible refine gate_dst (N := 2) rfl ?_); refine boxE (cs := #[.int .i64 a0_0, .int .i64 a0_1, .slice A0_2 l0_2.length c0_2]) (t := 31) ?_; intro gb312 hg w19 hbox hb; refine E4b HB.1 hg hbox hb ?_; clear HB; intro HB BK312 GW312 GE312; clear hb hbox hg) | ((with_reducible refine gate_dst (N := 3) rfl ?_); refine boxE (cs := #[.int .i64 a1_0, .int .i64 a1_1, .slice A1_2 l1_2.length c1_2]) (t := 31) ?_; intro gb313 hg w20 hbox hb; refine E7 (bB BK312.1 hb) (bS HB.1 hb) (hbox) (gX HB.1 hg) (gX HB.1 hg) (nB BK312.1 hg) (nC BK312.1 hg) ?_; clear BK312 HB; intro BK312 HB BK313 GW313 GE313 NB312_313 NB313_312; clear hb hbox hg; have hnb21 := NB312_313.1; have hnc21 := NB313_312.1; obtain ⟨hcz22_0, hcz22_1, hcz22_2, hfz22_0, hfz22_1, hfz22_2⟩ := cz3 BK312.1; obtain ⟨hcz23_0, hcz23_1, hcz23_2, hfz23_0, hfz23_1, hfz23_2⟩ := cz3 BK313.1))
   go_ret
   exact ⟨RF, BL HB.1⟩
 have c3b0 := beq_eq_false_iff_ne.mpr c3
 have c3b1 := bne_iff_ne.mpr c3
 obtain rfl := Option.some.inj H
 go_enter Try.func9, Try.ntmps9
 go_wp2_with (first | ((with_reducible refine gate_dst (N := 2) rfl ?_); refine boxE (cs := #[.int .i64 a0_0, .int .i64 a0_1, .slice A0_2 l0_2.length c0_2]) (t := 31) ?_; intro gb312 hg w24 hbox hb; refine E4b HB.1 hg hbox hb ?_; clear HB; intro HB BK312 GW312 GE312; clear hb hbox hg) | ((with_reducible refine gate_dst (N := 3) rfl ?_); refine boxE (cs := #[.int .i64 a1_0, .int .i64 a1_1, .slice A1_2 l1_2.length c1_2]) (t := 31) ?_; intro gb313 hg w25 hbox hb; refine E7 (bB BK312.1 hb) (bS HB.1 hb) (hbox) (gX HB.1 hg) (gX HB.1 hg) (nB BK312.1 hg) (nC BK312.1 hg) ?_; clear BK312 HB; intro BK312 HB BK313 GW313 GE313 NB312_313 NB313_312; clear hb hbox hg; have hnb26 := NB312_313.1; have hnc26 := NB313_312.1; obtain ⟨hcz27_0, hcz27_1, hcz27_2, hfz27_0, hfz27_1, hfz27_2⟩ := cz3 BK312.1; obtain ⟨hcz28_0, hcz28_1, hcz28_2, hfz28_0, hfz28_1, hfz28_2⟩ := cz3 BK313.1))
 go_ret
 exact ⟨RF, BL HB.1⟩
/-! ### laws_markCellS: function 21 -/
open Kd
def laws_markCellS.l0 : Nat -> List (S49) -> Int -> Int -> Option (Int × (List (S49)))
 | 0, _, _, _ => none
 | k + 1, x0, x1, x5 => if x5 < (x0.length : Int) then (if 0 <= x5 then ((some (x0.set (x5 : Int).toNat (⟨x1, (rd_T49 x0 x5).f1⟩ : S49) : List (S49))).bind fun y315 => (laws_markCellS.l0 k (y315.set (x5 : Int).toNat (⟨(rd_T49 y315 x5).f0, wrap64 (x1 + 1)⟩ : S49)) (wrap64 ((wrap64 (x1 + 1)) + 1)) (wrap64 (x5 + 1)))) else (none)) else (some (x1, x0))
def laws_markCellS.f (k : Nat) (l0 : List (S49)) (a1 : Int) : Option (Int × (List (S49))) := laws_markCellS.l0 k l0 a1 0
theorem laws_markCellS.mono_l : ∀ k, (∀ y0 y1 y2, LeO (laws_markCellS.l0 k y0 y1 y2) (laws_markCellS.l0 (k + 1) y0 y1 y2))
 | 0 => fun _ _ _ r h => by simp [laws_markCellS.l0] at h
 | k + 1 => by
  have ih0 := laws_markCellS.mono_l k
  intros
  first | unfold laws_markCellS.l0
  exact LM1 ih0
theorem laws_markCellS.mono : ∀ a0 a1 k, LeO (laws_markCellS.f k a0 a1) (laws_markCellS.f (k + 1) a0 a1) := by
 intro a0 a1 k
 have ih0 := laws_markCellS.mono_l k
 unfold laws_markCellS.f
 exact LM1 ih0
theorem laws_markCellS.calls (k : Nat) (P0_ : Nat -> Prop) (u9000_ : Value) (l0 : List (S49)) (a1 : Int) (r1 : Int) (r2 : List (S49)) (w0 w : World) (hB : Below w0.heap.size w0 w) (ho0 : Kd.R k49 49 w w0.heap.size P0_ u9000_ l0) (h : laws_markCellS.f k l0 a1 = some (r1, r2)) :
 Calls Try.prog 21 #[u9000_, .int .i64 a1] w fun e w' => e = .returned (.int .i64 r1) /\ Kd.R k49 49 w' w0.heap.size (fun k_ => (P0_ k_ ∨ w.heap.size <= k_)) u9000_ r2 /\ Below w0.heap.size w0 w' /\ Kept w w' (fun k_ => P0_ k_) := by
 have HO0 := Aside0.mk (show Kd.R k49 49 w w0.heap.size (fun k_ => (P0_ k_ ∨ w.heap.size <= k_)) u9000_ l0 from R_mono ho0 (fun k_ hk => (.inl hk)))
 have HK := Aside0.mk (Kept.refl w (fun k_ => P0_ k_))
 have HW0 := Aside0.mk hB.size
 have HB := Aside0.mk hB
 clear hB
 have H := h
 clear h
 unfold laws_markCellS.f at H
 have H' := Aside0.mk H
 clear H
 go_enter Try.func21, Try.ntmps21
 go_wp2
 go_loopg [1, 5] k (fun kq v1 v5 w' => ∃ (x0_1 : List (S49)) (x1_1 : Int) (x5_1 : Int), v1 = .int .i64 x1_1 /\ v5 = .int .i64 x5_1 /\ Aside0 (laws_markCellS.l0 kq x0_1 x1_1 x5_1 = some (r1, r2)) /\ Aside0 (kq <= k) /\ Aside0 (Kd.R k49 49 w' w0.heap.size (fun k_ => (P0_ k_ ∨ w.heap.size <= k_)) u9000_ x0_1) /\ Aside0 (Kept w w' (fun k_ => P0_ k_)) /\ Aside0 (Below w0.heap.size w0 w'))
 case atStart => exact ⟨(l0), (a1), (0), RG, RG, H', ⟨Nat.le_refl _⟩, ⟨PR HO0.1⟩, ⟨KL HK.1⟩, ⟨BL HB.1⟩⟩
 clear H'
 obtain ⟨x0_1, x1_1, x5_1, rfl, rfl, HA, HK1, HO_0, HK, HB⟩ := hrel
 cases gk with
 | zero => exact absurd HA.1 (by simp [laws_markCellS.l0])
 | succ k1 => ?_
 have H := HA.1
 clear HA
 simp only [laws_markCellS.l0] at H
 replace H := ifB H; rcases H with ⟨c3b0, H⟩ | ⟨c3b0, H⟩
 · replace H := ifN H; obtain ⟨c4b0, H⟩ := H
   replace H := nameB H; obtain ⟨y315, Ny315, H⟩ := H
   generalize hy316 : ((y315.set (x5_1 : Int).toNat (⟨(rd_T49 y315 x5_1).f0, wrap64 (x1_1 + 1)⟩ : S49)) : List (S49)) = y316 at H
   have Ny316 := Aside0.mk hy316.symm; clear hy316
   have H' := Aside0.mk H
   clear H
   obtain ⟨Ao7, co7, eo7⟩ := R_slice HO_0.1
   subst eo7
   have p5 : 0 <= (x5_1 : Int) := OD
   have q5 : (x5_1 : Int) < ((x0_1.length : Int) : Int) := OD
   obtain ⟨go5, co5, eo5, gb5, gl5, cl5, HG5⟩ := R_form HO_0.1 (by omega)
   (first | cases eo5 | (injection eo5 with ea_ en_ ec_; (first | subst ea_ | (injection ea_ with ea_; subst ea_)); subst ec_; clear en_))
   have GB5 := Aside0.mk gb5
   have GG5 := Aside0.mk HG5
   clear gb5 gl5 HG5
   have HMgo5 := Aside0.mk (show (P0_ go5 ∨ w.heap.size <= go5) from (HO_0.1.1 _ rfl))
   obtain ⟨ce5, hcl5, hM5, hcc5, hfr5⟩ := R_elem HO_0.1 z49 (x5_1 : Int) p5 q5
   obtain rfl := k49_openM hM5
   have hx5_0 : wr.cell? ⟨go5, (x5_1 : Int).toNat * 2, none⟩ = some (.int .i64 ((rd_T49 x0_1 x5_1).f0)) := hcc5 0 _ rfl
   have hx5_1 : wr.cell? ⟨go5, (x5_1 : Int).toNat * 2 + 1, none⟩ = some (.int .i64 ((rd_T49 x0_1 x5_1).f1)) := hcc5 1 _ rfl
   have hf5_0 : wr.frozen? ⟨go5, (x5_1 : Int).toNat * 2, none⟩ = false := hfr5 0
   have hf5_1 : wr.frozen? ⟨go5, (x5_1 : Int).toNat * 2 + 1, none⟩ = false := hfr5 1
   (try clear hM5); clear hcl5 hcc5 hfr5
   replace p5 := eq_true p5
   replace q5 := eq_true q5
   have HX8 := Aside0.mk (show Kd.R k49 49 wr w0.heap.size (fun k_ => (P0_ k_ ∨ w.heap.size <= k_)) (.slice (some ⟨go5, 0, none⟩) x0_1.length co7) x0_1 from (PR HO_0.1))
   obtain ⟨ce8, hcl8, hM8, hcc8, hfr8⟩ := R_elem HX8.1 z49 (x5_1 : Int) (OD) (by have h_ : (x5_1 : Int) < ((x0_1.length : Int) : Int) := OD; first | exact h_ | (have e_ := (R_reads' HO_0.1).1; omega) | simpa using h_)
   obtain rfl := k49_openM hM8
   have HP8 := R_seg HX8.1 (x5_1 : Int) (OD) (by have h_ : (x5_1 : Int) < ((x0_1.length : Int) : Int) := OD; first | exact h_ | (have e_ := (R_reads' HO_0.1).1; omega) | simpa using h_) (seg := [.int .i64 x1_1]) (j := 0) hcl8 hcc8 (show 1 <= 2 from by decide) (x' := (⟨x1_1, (rd_T49 x0_1 x5_1).f1⟩ : S49)) (k49_mkM _ _ _ (⟨x1_1, (rd_T49 x0_1 x5_1).f1⟩ : S49) ) (fun _ hk => hk)
   have hx8_0 := hcc8 0 _ rfl
   (try simp only [show (k49).sz = 2 from rfl, Nat.mul_one, Nat.add_zero] at hx8_0)
   have hf8_0 := hfr8 0
   (try simp only [show (k49).sz = 2 from rfl, Nat.mul_one, Nat.add_zero] at hf8_0)
   (try clear hM8); clear hcl8 hcc8 hfr8
   go_wp2_with (first | ((with_reducible refine gate_store (t := 3) (p := 16) rfl ?_); refine storeE (t := 3) (p := 16) (w1 := (wr.setCell ⟨go5, (x5_1 : Int).toNat * 2, none⟩ (.int .i64 x1_1))) ?_; intro w9 hw; have hg : wr.grownBy w9 (some go5) := (by rw [hw]; exact HP8.2); have hp_ : Kd.R k49 49 w9 w0.heap.size (fun k_ => (P0_ k_ ∨ w.heap.size <= k_)) (.slice (some ⟨go5, 0, none⟩) x0_1.length co7) y315 := (by rw [hw, Ny315.1]; exact HP8.1); clear HP8; refine E3 (hp_) ((by rw [hw]; exact below_set (HB.1) GB5.1 : Below w0.heap.size w0 w9)) (Kept.of_grown (S := (fun k_ => P0_ k_)) hg (KL HK.1) (fun k_ e_ => (HO_0.1.1 k_ e_))) ?_; clear HO_0 HB HK; intro HO_0 HB HK; clear hg hw hp_; have p6 : 0 <= (x5_1 : Int) := OD; have q6 : (x5_1 : Int) < ((x0_1.length : Int) : Int) := OD; obtain ⟨ce6, hcl6, hM6, hcc6, hfr6⟩ := R_elem HO_0.1 z49 (x5_1 : Int) p6 q6; obtain rfl := k49_openM hM6; have hx6_0 : w9.cell? ⟨go5, (x5_1 : Int).toNat * 2, none⟩ = some (.int .i64 ((rd_T49 y315 x5_1).f0)) := hcc6 0 _ rfl; have hx6_1 : w9.cell? ⟨go5, (x5_1 : Int).toNat * 2 + 1, none⟩ = some (.int .i64 ((rd_T49 y315 x5_1).f1)) := hcc6 1 _ rfl; have hf6_0 : w9.frozen? ⟨go5, (x5_1 : Int).toNat * 2, none⟩ = false := hfr6 0; have hf6_1 : w9.frozen? ⟨go5, (x5_1 : Int).toNat * 2 + 1, none⟩ = false := hfr6 1; (try clear hM6); clear hcl6 hcc6 hfr6; replace p6 := eq_true p6; replace q6 := eq_true q6; have HX10 := Aside0.mk (show Kd.R k49 49 w9 w0.heap.size (fun k_ => (P0_ k_ ∨ w.heap.size <= k_)) (.slice (some ⟨go5, 0, none⟩) x0_1.length co7) y315 from (PR HO_0.1)); obtain ⟨ce10, hcl10, hM10, hcc10, hfr10⟩ := R_elem HX10.1 z49 (x5_1 : Int) (OD) (by have h_ : (x5_1 : Int) < ((x0_1.length : Int) : Int) := OD; first | exact h_ | (have e_ := (R_reads' HO_0.1).1; omega) | simpa using h_); obtain rfl := k49_openM hM10; have HP10 := R_seg HX10.1 (x5_1 : Int) (OD) (by have h_ : (x5_1 : Int) < ((x0_1.length : Int) : Int) := OD; first | exact h_ | (have e_ := (R_reads' HO_0.1).1; omega) | simpa using h_) (seg := [.int .i64 (wrap64 (x1_1 + 1))]) (j := 1) hcl10 hcc10 (show 2 <= 2 from by decide) (x' := (⟨(rd_T49 y315 x5_1).f0, wrap64 (x1_1 + 1)⟩ : S49)) (k49_mkM _ _ _ (⟨(rd_T49 y315 x5_1).f0, wrap64 (x1_1 + 1)⟩ : S49) ) (fun _ hk => hk); have hx10_1 := hcc10 1 _ rfl; (try simp only [show (k49).sz = 2 from rfl, Nat.mul_one, Nat.add_zero] at hx10_1); have hf10_1 := hfr10 1; (try simp only [show (k49).sz = 2 from rfl, Nat.mul_one, Nat.add_zero] at hf10_1); clear hcl10 hcc10 hfr10) | ((with_reducible refine gate_store (t := 3) (p := 23) rfl ?_); refine storeE (t := 3) (p := 23) (w1 := (w9.setCell ⟨go5, (x5_1 : Int).toNat * 2 + 1, none⟩ (.int .i64 (wrap64 (x1_1 + 1))))) ?_; intro w11 hw; have hg : w9.grownBy w11 (some go5) := (by rw [hw]; exact HP10.2); have hp_ : Kd.R k49 49 w11 w0.heap.size (fun k_ => (P0_ k_ ∨ w.heap.size <= k_)) (.slice (some ⟨go5, 0, none⟩) x0_1.length co7) y316 := (by rw [hw, Ny316.1]; exact HP10.1); clear HP10; refine E3 (hp_) ((by rw [hw]; exact below_set (HB.1) GB5.1 : Below w0.heap.size w0 w11)) (Kept.of_grown (S := (fun k_ => P0_ k_)) hg (KL HK.1) (fun k_ e_ => (HO_0.1.1 k_ e_))) ?_; clear HO_0 HB HK; intro HO_0 HB HK; clear hg hw hp_))
   go_roundg k1
   case measure => have := HK1.1; omega
   case rel => exact ⟨(y316), (wrap64 ((wrap64 (x1_1 + 1)) + 1)), (wrap64 (x5_1 + 1)), RG, RG, H', ⟨by have := HK1.1; omega⟩, ⟨PR HO_0.1⟩, ⟨KL HK.1⟩, ⟨BL HB.1⟩⟩
 simp only [Option.some.injEq, Prod.mk.injEq] at H
 obtain ⟨rfl, rfl⟩ := H
 obtain ⟨Ao12, co12, eo12⟩ := R_slice HO_0.1
 subst eo12
 go_wp2
 go_ret
 exact ⟨RF, RPE (HO_0.1), BL HB.1, KL HK.1⟩
/-! ### laws_markBoard: function 10 -/
open Kd
def laws_markBoard.f (k : Nat) (a0_0 : Int) (a0_1 : Int) (l0_2 : List (S49)) (a1 : Int) : Option (Int × (List (S49))) := (laws_markCellS.f k l0_2 a1).bind fun bt318 => (some (bt318.1, bt318.2))
theorem laws_markBoard.mono : ∀ a0 a1 a2 a3 k, LeO (laws_markBoard.f k a0 a1 a2 a3) (laws_markBoard.f (k + 1) a0 a1 a2 a3) := by
 intro a0 a1 a2 a3 k
 unfold laws_markBoard.f
 repeat' first
  | (with_reducible exact laws_markCellS.mono _ _ _)
  | (with_reducible exact LeO.refl _)
  | (with_reducible exact LeO.none _)
  | (with_reducible refine LeO.ite ?_ ?_)
  | (with_reducible refine LeO.bind ?_ (fun _ => ?_))
  | exact laws_markCellS.mono _ _ _
  | exact LeO.none _
  | refine LeO.ite ?_ ?_
  | refine LeO.bind ?_ (fun _ => ?_)
theorem laws_markBoard.calls (k : Nat) (a0_0 : Int) (a0_1 : Int) (P0_2_ : Nat -> Prop) (u9000_ : Value) (l0_2 : List (S49)) (a1 : Int) (r1 : Int) (r2 : List (S49)) (w0 w : World) (hB : Below w0.heap.size w0 w) (ho0_2 : Kd.R k49 49 w w0.heap.size P0_2_ u9000_ l0_2) (h : laws_markBoard.f k a0_0 a0_1 l0_2 a1 = some (r1, r2)) :
 Calls Try.prog 10 #[.agg #[.int .i64 a0_0, .int .i64 a0_1, u9000_], .int .i64 a1] w fun e w' => e = .returned (.int .i64 r1) /\ Kd.R k49 49 w' w0.heap.size (fun k_ => (P0_2_ k_ ∨ w.heap.size <= k_)) u9000_ r2 /\ Below w0.heap.size w0 w' /\ Kept w w' (fun k_ => P0_2_ k_) := by
 have hu31 := Try.underlying31
 have HO0_2 := Aside0.mk (show Kd.R k49 49 w w0.heap.size (fun k_ => (P0_2_ k_ ∨ w.heap.size <= k_)) u9000_ l0_2 from R_mono ho0_2 (fun k_ hk => (.inl hk)))
 have HK := Aside0.mk (Kept.refl w (fun k_ => P0_2_ k_))
 have HW0 := Aside0.mk hB.size
 have HB := Aside0.mk hB
 clear hB
 have H := h
 clear h
 unfold laws_markBoard.f at H
 replace H := bindA H; obtain ⟨⟨t318, t319⟩, A3, H⟩ := H
 dsimp only at H
 simp only [Option.some.injEq, Prod.mk.injEq] at H
 obtain ⟨rfl, rfl⟩ := H
 obtain ⟨Ao4, co4, eo4⟩ := R_slice HO0_2.1
 subst eo4
 go_enter Try.func10, Try.ntmps10
 go_wp2_with (first | ((with_reducible refine gate_dst (N := 2) rfl ?_); refine boxE (cs := #[.int .i64 a0_0, .int .i64 a0_1, .slice Ao4 l0_2.length co4]) (t := 31) ?_; intro gb317 hg w5 hbox hb; refine E6 (rB HO0_2.1 hb) (Kept.below (S := (fun k_ => P0_2_ k_)) (KL HK.1) hb) (bS HB.1 hb) (hbox) ((by rw [hg]; exact (by first | exact HK.1.1 | exact (show Kept w _ (fun k_ => P0_2_ k_) from KL HK.1).1) : w.heap.size <= gb317)) (gwM hg (bZ HB.1) : w0.heap.size <= gb317) ?_; clear HO0_2 HK HB; intro HO0_2 HK HB BK317 GW317 GE317; clear hb hbox hg; obtain ⟨hcz6_0, hcz6_1, hcz6_2, hfz6_0, hfz6_1, hfz6_2⟩ := cz3 BK317.1) | ((with_reducible refine gate_callee (f := 21) rfl ?_); refine goesM (N := (some 8)) #[.slice Ao4 l0_2.length co4, .int .i64 a1] Try.func21 ?_; (with_reducible refine (laws_markCellS.calls k (fun k_ => some k_ = (.slice Ao4 l0_2.length co4 : Value).ownBlock) (.slice Ao4 l0_2.length co4) l0_2 a1 t318 t319 w0 _ ?side1 ?side2 A3.1).mono ?_); (case side1 => exact BL HB.1); (case side2 => exact R_tight rfl HO0_2.1); rintro e w7 ⟨rfl, hy0, hb, hkp⟩; refine ⟨_, rfl, ?_⟩; refine E4 (R_reok rfl hy0 (fun k_ e_ => HO0_2.1.1 k_ e_)) (blk_kept (PB BK317.1) hkp (fun hs_ => (fun e_ => (R_ne HO0_2.1 BK317.1 (by decide)) e_) hs_)) (Kept.then_ (S := (fun k_ => P0_2_ k_)) (KL HK.1) hkp (fun k_ hs_ => (fun e_ => (HO0_2.1.1 k_ e_.symm)) hs_)) (hb) ?_; clear HO0_2 BK317 HK HB; intro HO0_2 BK317 HK HB; (try clear hb); (try clear hkp); (try clear hy0)))
 go_ret
 exact ⟨RF, RPE (HO0_2.1), BL HB.1, KL HK.1⟩

/-! ### laws_markIntS: function 22 -/
open Kd
def laws_markIntS.l0 : Nat -> List Int -> Int -> Int -> Option (Int × List Int)
 | 0, _, _, _ => none
 | k + 1, x0, x1, x5 => if x5 < (x0.length : Int) then (if 0 <= x5 then (laws_markIntS.l0 k (x0.set (x5 : Int).toNat x1) (wrap64 (x1 + 1)) (wrap64 (x5 + 1))) else (none)) else (some (x1, x0))
def laws_markIntS.f (k : Nat) (l0 : List Int) (a1 : Int) : Option (Int × List Int) := laws_markIntS.l0 k l0 a1 0
theorem laws_markIntS.mono_l : ∀ k, (∀ y0 y1 y2, LeO (laws_markIntS.l0 k y0 y1 y2) (laws_markIntS.l0 (k + 1) y0 y1 y2))
 | 0 => fun _ _ _ r h => by simp [laws_markIntS.l0] at h
 | k + 1 => by
  have ih0 := laws_markIntS.mono_l k
  intros
  first | unfold laws_markIntS.l0
  exact LM1 ih0
theorem laws_markIntS.mono : ∀ a0 a1 k, LeO (laws_markIntS.f k a0 a1) (laws_markIntS.f (k + 1) a0 a1) := by
 intro a0 a1 k
 have ih0 := laws_markIntS.mono_l k
 unfold laws_markIntS.f
 exact LM1 ih0
theorem laws_markIntS.calls (k : Nat) (P0_ : Nat -> Prop) (u9000_ : Value) (l0 : List Int) (a1 : Int) (r1 : Int) (r2 : List Int) (w0 w : World) (hB : Below w0.heap.size w0 w) (ho0 : Kd.R (Kd.int .i64) 3 w w0.heap.size P0_ u9000_ l0) (h : laws_markIntS.f k l0 a1 = some (r1, r2)) :
 Calls Try.prog 22 #[u9000_, .int .i64 a1] w fun e w' => e = .returned (.int .i64 r1) /\ Kd.R (Kd.int .i64) 3 w' w0.heap.size (fun k_ => (P0_ k_ ∨ w.heap.size <= k_)) u9000_ r2 /\ Below w0.heap.size w0 w' /\ Kept w w' (fun k_ => P0_ k_) := by
 have HO0 := Aside0.mk (show Kd.R (Kd.int .i64) 3 w w0.heap.size (fun k_ => (P0_ k_ ∨ w.heap.size <= k_)) u9000_ l0 from R_mono ho0 (fun k_ hk => (.inl hk)))
 have HK := Aside0.mk (Kept.refl w (fun k_ => P0_ k_))
 have HW0 := Aside0.mk hB.size
 have HB := Aside0.mk hB
 clear hB
 have H := h
 clear h
 unfold laws_markIntS.f at H
 have H' := Aside0.mk H
 clear H
 go_enter Try.func22, Try.ntmps22
 go_wp2
 go_loopg [1, 5] k (fun kq v1 v5 w' => ∃ (x0_1 : List Int) (x1_1 : Int) (x5_1 : Int), v1 = .int .i64 x1_1 /\ v5 = .int .i64 x5_1 /\ Aside0 (laws_markIntS.l0 kq x0_1 x1_1 x5_1 = some (r1, r2)) /\ Aside0 (kq <= k) /\ Aside0 (Kd.R (Kd.int .i64) 3 w' w0.heap.size (fun k_ => (P0_ k_ ∨ w.heap.size <= k_)) u9000_ x0_1) /\ Aside0 (Kept w w' (fun k_ => P0_ k_)) /\ Aside0 (Below w0.heap.size w0 w'))
 case atStart => exact ⟨(l0), (a1), (0), RG, RG, H', ⟨Nat.le_refl _⟩, ⟨PR HO0.1⟩, ⟨KL HK.1⟩, ⟨BL HB.1⟩⟩
 clear H'
 obtain ⟨x0_1, x1_1, x5_1, rfl, rfl, HA, HK1, HO_0, HK, HB⟩ := hrel
 cases gk with
 | zero => exact absurd HA.1 (by simp [laws_markIntS.l0])
 | succ k1 => ?_
 have H := HA.1
 clear HA
 simp only [laws_markIntS.l0] at H
 replace H := ifB H; rcases H with ⟨c3b0, H⟩ | ⟨c3b0, H⟩
 · replace H := ifN H; obtain ⟨c4b0, H⟩ := H
   generalize hy320 : ((x0_1.set (x5_1 : Int).toNat x1_1) : List Int) = y320 at H
   have Ny320 := Aside0.mk hy320.symm; clear hy320
   have H' := Aside0.mk H
   clear H
   obtain ⟨Ao6, co6, eo6⟩ := R_slice HO_0.1
   subst eo6
   have p5 : 0 <= (x5_1 : Int) := OD
   have q5 : (x5_1 : Int) < ((x0_1.length : Int) : Int) := OD
   obtain ⟨go5, co5, eo5, gb5, gl5, cl5, HG5⟩ := R_form HO_0.1 (by omega)
   (first | cases eo5 | (injection eo5 with ea_ en_ ec_; (first | subst ea_ | (injection ea_ with ea_; subst ea_)); subst ec_; clear en_))
   have GB5 := Aside0.mk gb5
   have GG5 := Aside0.mk HG5
   clear gb5 gl5 HG5
   have HMgo5 := Aside0.mk (show (P0_ go5 ∨ w.heap.size <= go5) from (HO_0.1.1 _ rfl))
   obtain ⟨hx5_0, hf5_0⟩ := R_celln 0 HO_0.1 (x5_1 : Int) p5 q5
   replace p5 := eq_true p5
   replace q5 := eq_true q5
   have HP7 := R_putg HO_0.1 (x5_1 : Int) x1_1
   go_wp2_with (first | ((with_reducible refine gate_store (t := 3) (p := 15) rfl ?_); refine storeE (t := 3) (p := 15) (w1 := (wr.setCell ⟨go5, (x5_1 : Int).toNat, none⟩ (.int .i64 x1_1))) ?_; intro w8 hw; have hg : wr.grownBy w8 (some go5) := (by rw [hw]; exact HP7.2); have hp_ : Kd.R (Kd.int .i64) 3 w8 w0.heap.size (fun k_ => (P0_ k_ ∨ w.heap.size <= k_)) (.slice (some ⟨go5, 0, none⟩) x0_1.length co6) y320 := (by rw [hw, Ny320.1]; exact HP7.1); clear HP7; refine E3 (hp_) ((by rw [hw]; exact below_set (HB.1) GB5.1 : Below w0.heap.size w0 w8)) (Kept.of_grown (S := (fun k_ => P0_ k_)) hg (KL HK.1) (fun k_ e_ => (HO_0.1.1 k_ e_))) ?_; clear HO_0 HB HK; intro HO_0 HB HK; clear hg hw hp_))
   go_roundg k1
   case measure => have := HK1.1; omega
   case rel => exact ⟨(y320), (wrap64 (x1_1 + 1)), (wrap64 (x5_1 + 1)), RG, RG, H', ⟨by have := HK1.1; omega⟩, ⟨PR HO_0.1⟩, ⟨KL HK.1⟩, ⟨BL HB.1⟩⟩
 simp only [Option.some.injEq, Prod.mk.injEq] at H
 obtain ⟨rfl, rfl⟩ := H
 obtain ⟨Ao9, co9, eo9⟩ := R_slice HO_0.1
 subst eo9
 go_wp2
 go_ret
 exact ⟨RF, RPE (HO_0.1), BL HB.1, KL HK.1⟩
/-! ### laws_markIntSS: function 11 -/
open Kd
open Kd
def laws_markIntSS.l0 : Nat -> List (List Int) -> Int -> Int -> Option (Int × List (List Int))
 | 0, _, _, _ => none
 | k + 1, x0, x1, x5 => if x5 < (x0.length : Int) then (if 0 <= x5 then ((laws_markIntS.f k (rd_L3 x0 x5) x1).bind fun b => laws_markIntSS.l0 k (x0.set (x5 : Int).toNat b.2) b.1 (wrap64 (x5 + 1))) else none) else some (x1, x0)
def laws_markIntSS.f (k : Nat) (l0 : List (List Int)) (a1 : Int) : Option (Int × List (List Int)) := laws_markIntSS.l0 k l0 a1 0
theorem laws_markIntSS.mono_l : ∀ k x0 x1 x5, LeO (laws_markIntSS.l0 k x0 x1 x5) (laws_markIntSS.l0 (k + 1) x0 x1 x5)
 | 0, _, _, _ => LeO.none _
 | k + 1, x0, x1, x5 => by
  rw [laws_markIntSS.l0, laws_markIntSS.l0]
  exact LeO.ite (LeO.ite (LeO.bind (laws_markIntS.mono _ _ _) fun b => laws_markIntSS.mono_l k _ _ _) (LeO.refl _)) (LeO.refl _)
theorem laws_markIntSS.mono : ∀ a0 a1 k, LeO (laws_markIntSS.f k a0 a1) (laws_markIntSS.f (k + 1) a0 a1) := fun _ _ k => laws_markIntSS.mono_l k _ _ _
theorem laws_markIntSS.calls (k : Nat) (P0_ : Nat -> Prop) (u9000_ : Value) (l0 : List (List Int)) (a1 : Int) (r1 : Int) (r2 : List (List Int)) (w0 w : World) (hB : Below w0.heap.size w0 w) (ho0 : Kd.S (Kd.slice 3 (Kd.int .i64)) 43 w w0.heap.size P0_ u9000_ l0) (h : laws_markIntSS.f k l0 a1 = some (r1, r2)) :
 Calls Try.prog 11 #[u9000_, .int .i64 a1] w fun e w' => e = .returned (.int .i64 r1) /\ Kd.S (Kd.slice 3 (Kd.int .i64)) 43 w' w0.heap.size (fun k_ => (P0_ k_ ∨ w.heap.size <= k_)) u9000_ r2 /\ Below w0.heap.size w0 w' /\ Kept w w' (fun k_ => P0_ k_) := by
 have HO0 := Aside0.mk (S_mono (ok' := fun k_ => (P0_ k_ ∨ w.heap.size <= k_)) ho0 (fun k_ hk => (.inl hk)))
 have HK := Aside0.mk (Kept.refl w (fun k_ => P0_ k_))
 have HB := Aside0.mk hB
 clear hB ho0
 have H := h
 clear h
 unfold laws_markIntSS.f at H
 have H' := Aside0.mk H
 clear H
 go_enter Try.func11, Try.ntmps11
 go_wp2
 go_loopg [1, 5] k (fun kq v1 v5 w' => ∃ (x0_1 : List (List Int)) (x1_1 : Int) (x5_1 : Int), v1 = .int .i64 x1_1 /\ v5 = .int .i64 x5_1 /\ Aside0 (laws_markIntSS.l0 kq x0_1 x1_1 x5_1 = some (r1, r2)) /\ Aside0 (kq <= k) /\ Aside0 (Kd.S (Kd.slice 3 (Kd.int .i64)) 43 w' w0.heap.size (fun k_ => (P0_ k_ ∨ w.heap.size <= k_)) u9000_ x0_1) /\ Aside0 (Kept w w' (fun k_ => P0_ k_)) /\ Aside0 (Below w0.heap.size w0 w'))
 case atStart => exact ⟨l0, a1, 0, rfl, rfl, H', ⟨Nat.le_refl _⟩, HO0, HK, HB⟩
 clear H'
 obtain ⟨x0_1, x1_1, x5_1, rfl, rfl, HA, HK1, HO_0, HK, HB⟩ := hrel
 cases gk with
 | zero => exact absurd HA.1 (by simp [laws_markIntSS.l0])
 | succ k1 => ?_
 have H := HA.1
 clear HA
 simp only [laws_markIntSS.l0] at H
 replace H := ifB H; rcases H with ⟨c3b0, H⟩ | ⟨c3b0, H⟩
 · replace H := ifN H; obtain ⟨c4b0, H⟩ := H
   replace H := bindA H; obtain ⟨⟨t1, t2⟩, A5, H⟩ := H
   dsimp only at H
   have H' := Aside0.mk H
   clear H
   have p5 : 0 <= (x5_1 : Int) := of_decide_eq_true c4b0
   have q5 : x5_1 < (x0_1.length : Int) := of_decide_eq_true c3b0
   obtain ⟨g5, c5, e5, _, _, _⟩ := S_form HO_0.1 (by omega)
   subst e5
   obtain ⟨oki, cc, _, hM, hcc, hoki, hH⟩ := S_lend HO_0.1 [] x5_1 p5 q5
   obtain ⟨vi, rfl, hR⟩ := hM
   have hx5 := hcc 0 _ rfl
   rw [Nat.add_zero, show ((Kd.slice 3 (Kd.int .i64))).sz = 1 from rfl, Nat.mul_one] at hx5
   have HR5 := Aside0.mk (show Kd.R (Kd.int .i64) 3 wr w0.heap.size oki vi (rd_L3 x0_1 x5_1) from hR)
   have HH := Aside0.mk hH
   have HOK := Aside0.mk hoki
   clear hR hH hoki hcc
   have hp5 := eq_true p5
   have hq5 := eq_true q5
   clear p5 q5
   go_wp2_with (first
    | ((with_reducible refine gate_callee (f := 22) rfl ?_); refine goesM (N := some 17) #[vi, .int .i64 x1_1] Try.func22 ?_; refine (laws_markIntS.calls k1 oki vi (rd_L3 x0_1 x5_1) x1_1 t1 t2 w0 _ HB.1 HR5.1 A5.1).mono ?_; rintro e w8 ⟨rfl, hr, hb, hkp⟩; refine ⟨_, rfl, ?_⟩; refine E3 (H_back (x' := t2) (H_step (w1 := w8) (H_widen HH.1) (fun k_ _ hn_ hlt_ => hkp.2 k_ hlt_ (fun h_ => hn_ (.inl h_)))) (okp := fun k_ => oki k_ ∨ (P0_ k_ ∨ w.heap.size <= k_) /\ wr.heap.size <= k_) ⟨vi, rfl, R_mono hr (fun k_ h_ => h_.imp id (fun h2_ => ⟨.inr (Nat.le_trans HK.1.1 h2_), h2_⟩))⟩ (fun _ h_ => h_)) (HK.1.then_ hkp (fun k_ h_ => (HOK.1 k_ h_).1)) (hb) ?_; clear HO_0 HK HB HH HR5 HOK hr hb hkp hx5; intro HO_0 HK HB))
   go_roundg k1
   case measure => have := HK1.1; omega
   case rel => exact ⟨_, t1, (wrap64 (x5_1 + 1)), rfl, rfl, H', ⟨by have := HK1.1; omega⟩, HO_0, HK, HB⟩
 simp only [Option.some.injEq, Prod.mk.injEq] at H
 obtain ⟨rfl, rfl⟩ := H
 obtain ⟨Ao9, co9, eo9⟩ := S_slice HO_0.1
 subst eo9
 go_wp2
 go_ret
 exact ⟨rfl, HO_0.1, HB.1, HK.1⟩

/-! ### laws_heldIntS: function 23 -/
open Kd
def laws_heldIntS.l0 : Nat -> List Int -> Int -> Int -> Option (Int)
 | 0, _, _, _ => none
 | k + 1, x0, x1, x5 => if x5 < (x0.length : Int) then (if 0 <= x5 then (if (rd x0 x5) = x1 then (laws_heldIntS.l0 k x0 (wrap64 (x1 + 1)) (wrap64 (x5 + 1))) else (some (-1))) else (none)) else (some x1)
def laws_heldIntS.f (k : Nat) (l0 : List Int) (a1 : Int) : Option (Int) := laws_heldIntS.l0 k l0 a1 0
theorem laws_heldIntS.mono_l : ∀ k, (∀ y0 y1 y2, LeO (laws_heldIntS.l0 k y0 y1 y2) (laws_heldIntS.l0 (k + 1) y0 y1 y2))
 | 0 => fun _ _ _ r h => by simp [laws_heldIntS.l0] at h
 | k + 1 => by
  have ih0 := laws_heldIntS.mono_l k
  intros
  first | unfold laws_heldIntS.l0
  exact LM1 ih0
theorem laws_heldIntS.mono : ∀ a0 a1 k, LeO (laws_heldIntS.f k a0 a1) (laws_heldIntS.f (k + 1) a0 a1) := by
 intro a0 a1 k
 have ih0 := laws_heldIntS.mono_l k
 unfold laws_heldIntS.f
 exact LM1 ih0
theorem laws_heldIntS.calls (k : Nat) (A0 : Option Addr) (c0 : Nat) (l0 : List Int) (a1 : Int) (r : Int) (w : World) (hr0 : Kd.C (Kd.int .i64) w A0 l0.length l0) (hc0 : l0.length <= c0) (h : laws_heldIntS.f k l0 a1 = some r) :
 Calls Try.prog 23 #[.slice A0 l0.length c0, .int .i64 a1] w fun e w' => e = .returned (.int .i64 r) /\ Drawn0 w w' := by
 have HR0 := Aside0.mk hr0
 have HC0 := Aside0.mk hc0
 clear hr0 hc0
 have H := h
 clear h
 unfold laws_heldIntS.f at H
 have H' := Aside0.mk H
 clear H
 go_enter Try.func23, Try.ntmps23
 go_wp2
 go_loopg [1, 5] k (fun kq v1 v5 w' => ∃ (x1_1 : Int) (x5_1 : Int), v1 = .int .i64 x1_1 /\ v5 = .int .i64 x5_1 /\ Aside0 (laws_heldIntS.l0 kq l0 x1_1 x5_1 = some r) /\ Aside0 (kq <= k) /\ Drawn0 w w')
 case atStart => exact ⟨(a1), (0), RG, RG, H', ⟨Nat.le_refl _⟩, DR⟩
 clear H'
 obtain ⟨x1_1, x5_1, rfl, rfl, HA, HK1, ⟨m1, rfl⟩⟩ := hrel
 cases gk with
 | zero => exact absurd HA.1 (by simp [laws_heldIntS.l0])
 | succ k1 => ?_
 have H := HA.1
 clear HA
 simp only [laws_heldIntS.l0] at H
 replace H := ifB H; rcases H with ⟨c3b0, H⟩ | ⟨c3b0, H⟩
 · replace H := ifN H; obtain ⟨c4b0, H⟩ := H
   replace H := ifQ H; rcases H with ⟨c5, H⟩ | ⟨c5, H⟩
   · have c5b0 := beq_iff_eq.mpr c5
     have c5b1 := bne_eq_false_iff_eq.mpr c5
     clear c5
     have H' := Aside0.mk H
     clear H
     have p321 : 0 <= (x5_1 : Int) := OD
     have q321 : x5_1 < (l0.length : Int) := OD
     obtain ⟨ad321, e321, hx321_0⟩ := Kd.at_int HR0.1 x5_1 p321 q321
     cases e321
     replace p321 := eq_true p321
     replace q321 := eq_true q321
     go_wp2
     go_roundg k1
     case measure => have := HK1.1; omega
     case rel => exact ⟨(wrap64 (x1_1 + 1)), (wrap64 (x5_1 + 1)), RG, RG, H', ⟨by have := HK1.1; omega⟩, DR⟩
   have c5b0 := beq_eq_false_iff_ne.mpr c5
   have c5b1 := bne_iff_ne.mpr c5
   obtain rfl := Option.some.inj H
   have p321 : 0 <= (x5_1 : Int) := OD
   have q321 : x5_1 < (l0.length : Int) := OD
   obtain ⟨ad321, e321, hx321_0⟩ := Kd.at_int HR0.1 x5_1 p321 q321
   cases e321
   replace p321 := eq_true p321
   replace q321 := eq_true q321
   go_wp2
   go_ret
   exact ⟨RG, DR⟩
 obtain rfl := Option.some.inj H
 go_wp2
 go_ret
 exact ⟨RG, DR⟩
/-! ### laws_heldIntSS: function 12 -/
open Kd
def laws_heldIntSS.l0 : Nat -> List (List Int) -> Int -> Int -> Option (Int)
 | 0, _, _, _ => none
 | k + 1, x0, x1, x5 => if x5 < (x0.length : Int) then (if 0 <= x5 then ((laws_heldIntS.f k (rd_L3 x0 x5) x1).bind fun t323 => (if t323 < 0 then (some (-1)) else (laws_heldIntSS.l0 k x0 t323 (wrap64 (x5 + 1))))) else (none)) else (some x1)
def laws_heldIntSS.f (k : Nat) (l0 : List (List Int)) (a1 : Int) : Option (Int) := laws_heldIntSS.l0 k l0 a1 0
theorem laws_heldIntSS.mono_l : ∀ k, (∀ y0 y1 y2, LeO (laws_heldIntSS.l0 k y0 y1 y2) (laws_heldIntSS.l0 (k + 1) y0 y1 y2))
 | 0 => fun _ _ _ r h => by simp [laws_heldIntSS.l0] at h
 | k + 1 => by
  have ih0 := laws_heldIntSS.mono_l k
  intros
  first | unfold laws_heldIntSS.l0
  exact LM2 ih0 laws_heldIntS.mono
theorem laws_heldIntSS.mono : ∀ a0 a1 k, LeO (laws_heldIntSS.f k a0 a1) (laws_heldIntSS.f (k + 1) a0 a1) := by
 intro a0 a1 k
 have ih0 := laws_heldIntSS.mono_l k
 unfold laws_heldIntSS.f
 exact LM2 ih0 laws_heldIntS.mono
theorem laws_heldIntSS.calls (k : Nat) (A0 : Option Addr) (c0 : Nat) (l0 : List (List Int)) (a1 : Int) (r : Int) (w : World) (hr0 : Kd.C (Kd.slice 3 (Kd.int .i64)) w A0 l0.length l0) (hc0 : l0.length <= c0) (h : laws_heldIntSS.f k l0 a1 = some r) :
 Calls Try.prog 12 #[.slice A0 l0.length c0, .int .i64 a1] w fun e w' => e = .returned (.int .i64 r) /\ Drawn0 w w' := by
 have HR0 := Aside0.mk hr0
 have HC0 := Aside0.mk hc0
 clear hr0 hc0
 have H := h
 clear h
 unfold laws_heldIntSS.f at H
 have H' := Aside0.mk H
 clear H
 go_enter Try.func12, Try.ntmps12
 go_wp2
 go_loopg [1, 5] k (fun kq v1 v5 w' => ∃ (x1_1 : Int) (x5_1 : Int), v1 = .int .i64 x1_1 /\ v5 = .int .i64 x5_1 /\ Aside0 (laws_heldIntSS.l0 kq l0 x1_1 x5_1 = some r) /\ Aside0 (kq <= k) /\ Drawn0 w w')
 case atStart => exact ⟨(a1), (0), RG, RG, H', ⟨Nat.le_refl _⟩, DR⟩
 clear H'
 obtain ⟨x1_1, x5_1, rfl, rfl, HA, HK1, ⟨m1, rfl⟩⟩ := hrel
 cases gk with
 | zero => exact absurd HA.1 (by simp [laws_heldIntSS.l0])
 | succ k1 => ?_
 have H := HA.1
 clear HA
 simp only [laws_heldIntSS.l0] at H
 replace H := ifB H; rcases H with ⟨c3b0, H⟩ | ⟨c3b0, H⟩
 · replace H := ifN H; obtain ⟨c4b0, H⟩ := H
   replace H := bindA H; obtain ⟨t323, A5, H⟩ := H
   replace H := ifB H; rcases H with ⟨c6b0, H⟩ | ⟨c6b0, H⟩
   · obtain rfl := Option.some.inj H
     have p322 : 0 <= (x5_1 : Int) := OD
     have q322 : x5_1 < (l0.length : Int) := OD
     obtain ⟨ad322, A322_0, c322_0, e322, hx322_0, hl322_0, hi322_0⟩ := at_L3 HR0.1 x5_1 p322 q322
     cases e322
     have HR322_0 := Aside0.mk hi322_0
     have HC322_0 := Aside0.mk hl322_0
     clear hi322_0 hl322_0
     replace p322 := eq_true p322
     replace q322 := eq_true q322
     go_wp2_with (first | ((with_reducible refine gate_callee (f := 23) rfl ?_); refine goesM (N := (some 17)) #[.slice A322_0 (rd_L3 l0 x5_1).length c322_0, .int .i64 x1_1] Try.func23 ?_; (with_reducible refine (laws_heldIntS.calls k1 _ _ (rd_L3 l0 x5_1) x1_1 t323 _ ?side1 ?side2 A5.1).mono ?_); (case side1 => repeat (first | exact HR322_0.1 | (with_reducible refine C_alloc ?_ _) | (with_reducible refine C_drewN ?_ _) | (with_reducible refine C_drew ?_))); (case side2 => exact HC322_0.1); rintro e w' ⟨rfl, ⟨nd, rfl⟩⟩; refine ⟨_, rfl, ?_⟩))
     go_ret
     exact ⟨RG, DR⟩
   have H' := Aside0.mk H
   clear H
   have p322 : 0 <= (x5_1 : Int) := OD
   have q322 : x5_1 < (l0.length : Int) := OD
   obtain ⟨ad322, A322_0, c322_0, e322, hx322_0, hl322_0, hi322_0⟩ := at_L3 HR0.1 x5_1 p322 q322
   cases e322
   have HR322_0 := Aside0.mk hi322_0
   have HC322_0 := Aside0.mk hl322_0
   clear hi322_0 hl322_0
   replace p322 := eq_true p322
   replace q322 := eq_true q322
   go_wp2_with (first | ((with_reducible refine gate_callee (f := 23) rfl ?_); refine goesM (N := (some 17)) #[.slice A322_0 (rd_L3 l0 x5_1).length c322_0, .int .i64 x1_1] Try.func23 ?_; (with_reducible refine (laws_heldIntS.calls k1 _ _ (rd_L3 l0 x5_1) x1_1 t323 _ ?side1 ?side2 A5.1).mono ?_); (case side1 => repeat (first | exact HR322_0.1 | (with_reducible refine C_alloc ?_ _) | (with_reducible refine C_drewN ?_ _) | (with_reducible refine C_drew ?_))); (case side2 => exact HC322_0.1); rintro e w' ⟨rfl, ⟨nd, rfl⟩⟩; refine ⟨_, rfl, ?_⟩))
   go_roundg k1
   case measure => have := HK1.1; omega
   case rel => exact ⟨(t323), (wrap64 (x5_1 + 1)), RG, RG, H', ⟨by have := HK1.1; omega⟩, DR⟩
 obtain rfl := Option.some.inj H
 go_wp2
 go_ret
 exact ⟨RG, DR⟩
/-! ### laws_FnExactUnitsOf: function 3 -/
open Kd
open Kd
/-- Two rows of rows, one made ahead of the other. -/
def DJ (w : World) (base : Nat) (u v : Value) (xs ys : List (List Int)) : Prop := ∃ T, base <= T /\ Kd.S (Kd.slice 3 (Kd.int .i64)) 43 w base (fun k => k < T) u xs /\ Kd.S (Kd.slice 3 (Kd.int .i64)) 43 w T (fun _ => True) v ys
theorem DJ.below {w w1 : World} {base : Nat} {u v : Value} {xs ys : List (List Int)} (h : DJ w base u v xs ys) (hb : Below w.heap.size w w1) : DJ w1 base u v xs ys := by
 obtain ⟨T, h0, h1, h2⟩ := h
 exact ⟨T, h0, S_below h1 hb, S_below h2 hb⟩
theorem DJ.drew {w : World} {base : Nat} {u v : Value} {xs ys : List (List Int)} (h : DJ w base u v xs ys) : DJ w.drew base u v xs ys := by
 obtain ⟨T, h0, h1, h2⟩ := h
 exact ⟨T, h0, S_drew h1, S_drew h2⟩
theorem DJ.drewN {w : World} {base : Nat} {u v : Value} {xs ys : List (List Int)} (h : DJ w base u v xs ys) (m : Nat) : DJ (w.drewN m) base u v xs ys := by
 obtain ⟨T, h0, h1, h2⟩ := h
 exact ⟨T, h0, S_drewN h1 m, S_drewN h2 m⟩
theorem DJ.kept {w w1 : World} {base : Nat} {u v : Value} {xs ys : List (List Int)} {S : Nat -> Prop} (h : DJ w base u v xs ys) (hk : Kept w w1 S) (hS : ∀ k, S k -> ∃ cells, w.heap[k]? = some (.cells cells 49 (0, 0))) : DJ w1 base u v xs ys := by
 obtain ⟨T, h0, h1, h2⟩ := h
 have ne : ∀ k, (∃ q, q ∈ 43 :: (Kd.slice 3 (Kd.int .i64)).E /\ ∃ cells, w.heap[k]? = some (.cells cells q (0, 0))) -> ¬ S k := by
  rintro k ⟨q, hq, cells, hc⟩ hs
  obtain ⟨c2, hc2⟩ := hS k hs
  rw [hc] at hc2
  injection hc2 with hc2
  injection hc2 with _ hc2 _
  exact (by decide : ∀ q, q ∈ 43 :: (Kd.slice 3 (Kd.int .i64)).E -> q ≠ 49) q hq hc2
 exact ⟨T, h0, S_mono (S_step (S_bound h1) (fun k ho hlt => hk.2 k hlt (ne k ho.2.2.2))) (fun _ ho => ho.1), S_mono (S_step (S_bound h2) (fun k ho hlt => hk.2 k hlt (ne k ho.2.2.2))) (fun _ ho => ho.1)⟩
/-- A block of a row of rows or of one of its rows. -/
def TY (w : World) (k : Nat) : Prop := ∃ q, (q = 43 ∨ q = 3) /\ ∃ cells, w.heap[k]? = some (.cells cells q (0, 0))
theorem TY.of {w : World} {k : Nat} (h : ∃ q, q ∈ 43 :: (Kd.slice 3 (Kd.int .i64)).E /\ ∃ cells, w.heap[k]? = some (.cells cells q (0, 0))) : TY w k := by
 obtain ⟨q, hq, h⟩ := h
 exact ⟨q, (by decide : ∀ q, q ∈ 43 :: (Kd.slice 3 (Kd.int .i64)).E -> q = 43 ∨ q = 3) q hq, h⟩
theorem TY.blk {w w1 : World} {S : Nat -> Prop} {b t : Nat} {cs : Array Value} (h : w.heap[b]? = some (.cells cs t (0, 0))) (hk : Kept w w1 S) (hS : ∀ k, S k -> TY w k) (ht : t ≠ 43 /\ t ≠ 3) : w1.heap[b]? = some (.cells cs t (0, 0)) := by
 refine (hk.2 b (Array.getElem?_eq_some_iff.1 h).1 (fun hs => ?_)).trans h
 obtain ⟨q, hq, cells, hc⟩ := hS b hs
 rw [h] at hc
 injection hc with hc
 injection hc with _ hc _
 subst hc
 exact hq.elim ht.1 ht.2
theorem TY.R {α : Type} {d : Kd α} {e base : Nat} {w w1 : World} {S ok : Nat -> Prop} {v : Value} {xs : List α} (h : d.R e w base ok v xs) (hk : Kept w w1 S) (hS : ∀ k, S k -> TY w k) (ht : ∀ q, q ∈ e :: d.E -> q ≠ 43 /\ q ≠ 3) : d.R e w1 base ok v xs := by
 refine R_mono (R_step (R_bound h) (fun k ho hlt => hk.2 k hlt (fun hs => ?_))) (fun _ ho => ho.1)
 obtain ⟨_, _, _, q, hq, cells, hc⟩ := ho
 obtain ⟨q2, hq2, c2, hc2⟩ := hS k hs
 rw [hc] at hc2
 injection hc2 with hc2
 injection hc2 with _ hc2 _
 subst hc2
 exact hq2.elim (ht q hq).1 (ht q hq).2
theorem heldSS_calls (k : Nat) (A0 : Option Addr) (n c0 : Nat) (l0 : List (List Int)) (a1 : Int) (r : Int) (w : World) (hn : n = l0.length) (hr0 : Kd.C (Kd.slice 3 (Kd.int .i64)) w A0 l0.length l0) (hc0 : n <= c0) (h : laws_heldIntSS.f k l0 a1 = some r) :
 Calls Try.prog 12 #[.slice A0 n c0, .int .i64 a1] w fun e w' => e = .returned (.int .i64 r) /\ Drawn0 w w' := by
 subst hn
 exact laws_heldIntSS.calls k A0 c0 l0 a1 r w hr0 hc0 h
mutual
def laws_FnExactUnitsOf.j0 : Nat -> List (List Int) -> Bool -> List (List Int) -> Bool -> Bool -> Int -> Int -> List (S53) -> Int -> Int -> List (S49) -> Option (Bool)
 | 0, _, _, _, _, _, _, _, _, _, _, _ => none
 | k + 1, x4, x5, x7, x8, x40, x326000, x326001, x326002, x342000, x342001, x342002 => if x40 = true then (some false) else ((laws_toBoard.f k x326000 x326001 x326002).bind fun bt347 => ((laws_eqBoard.f k x342000 x342001 x342002 bt347.1 bt347.2.1 bt347.2.2).bind fun t352 => (if t352 = true then ((laws_markBoard.f k x342000 x342001 x342002 1).bind fun bt353 => (if bt353.1 < 0 then (laws_FnExactUnitsOf.j1 k x4 x5 x7 true x326000 x326001 x326002) else ((laws_eqIntSS.f k x7 x4).bind fun t355 => (if t355 = true then (laws_FnExactUnitsOf.j1 k x4 x5 x7 (x8 != x5) x326000 x326001 x326002) else (laws_FnExactUnitsOf.j1 k x4 x5 x7 true x326000 x326001 x326002))))) else (some false))))
def laws_FnExactUnitsOf.j1 : Nat -> List (List Int) -> Bool -> List (List Int) -> Bool -> Int -> Int -> List (S53) -> Option (Bool)
 | 0, _, _, _, _, _, _, _ => none
 | k + 1, x4, x5, x7, x61, x326000, x326001, x326002 => if x61 = true then (some false) else ((laws_markIntSS.f k x7 1).bind fun bt356 => ((laws_heldIntSS.f k bt356.2 1).bind fun t357 => (if t357 < 0 then (some false) else (if t357 = bt356.1 then ((laws_toBoard.f k x326000 x326001 x326002).bind fun bt358 => ((impl_UnitsOf.f k bt358.1 bt358.2.1 bt358.2.2).bind fun bt363 => ((laws_eqIntSS.f k bt363.1 x4).bind fun t367 => (if t367 = true then (laws_FnExactUnitsOf.j2 k bt356.2 bt356.1 (bt363.2 != x5)) else (laws_FnExactUnitsOf.j2 k bt356.2 bt356.1 true))))) else (some false)))))
def laws_FnExactUnitsOf.j2 : Nat -> List (List Int) -> Int -> Bool -> Option (Bool)
 | 0, _, _, _ => none
 | k + 1, x7, x10, x87 => if x87 = true then (some false) else ((laws_heldIntSS.f k x7 1).bind fun t368 => (if t368 < 0 then (some false) else (if t368 = x10 then (some true) else (some false))))
end
def laws_FnExactUnitsOf.f (k : Nat) (a0_0 : Int) (a0_1 : Int) (l0_2 : List (S53)) : Option (Bool) := (laws_szBoard.f a0_0 a0_1 l0_2 1048576).bind fun t326 => (if t326 < 0 then (some true) else ((laws_toBoard.f k a0_0 a0_1 l0_2).bind fun bt327 => ((spec_UnitsOf.f k bt327.1 bt327.2.1 bt327.2.2).bind fun bt332 => ((laws_toBoard.f k a0_0 a0_1 l0_2).bind fun bt336 => ((impl_UnitsOf.f k bt336.1 bt336.2.1 bt336.2.2).bind fun bt342 => ((laws_eqIntSS.f k bt342.1 bt332.1).bind fun t346 => (if t346 = true then (laws_FnExactUnitsOf.j0 k bt332.1 bt332.2 bt342.1 bt342.2 (bt342.2 != bt332.2) a0_0 a0_1 l0_2 bt336.1 bt336.2.1 bt336.2.2) else (laws_FnExactUnitsOf.j0 k bt332.1 bt332.2 bt342.1 bt342.2 true a0_0 a0_1 l0_2 bt336.1 bt336.2.1 bt336.2.2))))))))
theorem laws_FnExactUnitsOf.mono_l : ∀ k, (∀ y0 y1 y2 y3 y4 y5 y6 y7 y8 y9 y10, LeO (laws_FnExactUnitsOf.j0 k y0 y1 y2 y3 y4 y5 y6 y7 y8 y9 y10) (laws_FnExactUnitsOf.j0 (k + 1) y0 y1 y2 y3 y4 y5 y6 y7 y8 y9 y10)) /\ (∀ y0 y1 y2 y3 y4 y5 y6, LeO (laws_FnExactUnitsOf.j1 k y0 y1 y2 y3 y4 y5 y6) (laws_FnExactUnitsOf.j1 (k + 1) y0 y1 y2 y3 y4 y5 y6)) /\ (∀ y0 y1 y2, LeO (laws_FnExactUnitsOf.j2 k y0 y1 y2) (laws_FnExactUnitsOf.j2 (k + 1) y0 y1 y2))
 | 0 => by refine ⟨?_, ?_, ?_⟩ <;> (intros; intro r h; first | (simp [laws_FnExactUnitsOf.j0] at h; done) | (simp [laws_FnExactUnitsOf.j1] at h; done) | (simp [laws_FnExactUnitsOf.j2] at h; done))
 | k + 1 => by
  obtain ⟨ih0, ih1, ih2⟩ := laws_FnExactUnitsOf.mono_l k
  refine ⟨?_, ?_, ?_⟩ <;> (
   intros
   first | unfold laws_FnExactUnitsOf.j0 | unfold laws_FnExactUnitsOf.j1 | unfold laws_FnExactUnitsOf.j2
   repeat' first | (with_reducible first | apply ih0 | apply ih1 | apply ih2 | apply impl_UnitsOf.mono | apply laws_eqBoard.mono | apply laws_eqIntSS.mono | apply laws_heldIntSS.mono | apply laws_markIntSS.mono | apply laws_markBoard.mono | apply laws_toBoard.mono | apply spec_UnitsOf.mono | exact LeO.refl _ | exact LeO.none _ | refine LeO.ite ?_ ?_ | refine LeO.bind ?_ (fun _ => ?_)) | exact LeO.none _ | refine LeO.ite ?_ ?_ | refine LeO.bind ?_ (fun _ => ?_))
theorem laws_FnExactUnitsOf.mono : ∀ a0 a1 a2 k, LeO (laws_FnExactUnitsOf.f k a0 a1 a2) (laws_FnExactUnitsOf.f (k + 1) a0 a1 a2) := by
 intro a0 a1 a2 k
 obtain ⟨ih0, ih1, ih2⟩ := laws_FnExactUnitsOf.mono_l k
 unfold laws_FnExactUnitsOf.f
 repeat' first | (with_reducible first | apply ih0 | apply ih1 | apply ih2 | apply impl_UnitsOf.mono | apply laws_eqBoard.mono | apply laws_eqIntSS.mono | apply laws_heldIntSS.mono | apply laws_markIntSS.mono | apply laws_markBoard.mono | apply laws_toBoard.mono | apply spec_UnitsOf.mono | exact LeO.refl _ | exact LeO.none _ | refine LeO.ite ?_ ?_ | refine LeO.bind ?_ (fun _ => ?_)) | exact LeO.none _ | refine LeO.ite ?_ ?_ | refine LeO.bind ?_ (fun _ => ?_)
theorem laws_FnExactUnitsOf.calls (k : Nat) (a0_0 : Int) (a0_1 : Int) (A0_2 : Option Addr) (c0_2 : Nat) (l0_2 : List (S53)) (w : World) (hr0_2 : Kd.C k53 w A0_2 l0_2.length l0_2) (hc0_2 : l0_2.length <= c0_2) (h : laws_FnExactUnitsOf.f k a0_0 a0_1 l0_2 = some true) :
 Calls Try.prog 3 #[.agg #[.int .i64 a0_0, .int .i64 a0_1, .slice A0_2 l0_2.length c0_2]] w fun e w' => e = .returned (.bool true) /\ Below w.heap.size w w' := by
 have hu24 := Try.underlying24
 have hu31 := Try.underlying31
 have HR0_2 := Aside0.mk hr0_2
 have HC0_2 := Aside0.mk hc0_2
 clear hr0_2 hc0_2
 have HB := Aside0.mk (Below.refl w.heap.size w)
 have H := h
 clear h
 unfold laws_FnExactUnitsOf.f at H
 replace H := bindA H; obtain ⟨t326, A2, H⟩ := H
 replace H := ifB H; rcases H with ⟨c3b0, H⟩ | ⟨c3b0, H⟩
 · first | (obtain rfl := Option.some.inj H) | clear H
   go_enter Try.func3, Try.ntmps3
   go_wp2_with (first | ((with_reducible refine gate_dst (N := 1) rfl ?_); refine boxE (cs := #[.int .i64 a0_0, .int .i64 a0_1, .slice A0_2 l0_2.length c0_2]) (t := 24) ?_; intro gb325 hg w4 hbox hb; refine E4b HB.1 hg hbox hb ?_; clear HB; intro HB BK325 GW325 GE325; clear hb hbox hg; obtain ⟨hcz5_0, hcz5_1, hcz5_2, hfz5_0, hfz5_1, hfz5_2⟩ := cz3 BK325.1) | ((with_reducible refine gate_callee (f := 4) rfl ?_); refine goesM (N := (some 16)) #[.agg #[.int .i64 a0_0, .int .i64 a0_1, .slice A0_2 l0_2.length c0_2], .int .i64 1048576] Try.func4 ?_; (with_reducible refine (laws_szBoard.calls a0_0 a0_1 _ _ l0_2 1048576 t326 _ ?side1 ?side2 A2.1).mono ?_); (case side1 => exact CB (C_below HR0_2.1 HB.1)); (case side2 => exact HC0_2.1); rintro e w6 ⟨rfl, hb⟩; refine ⟨_, rfl, ?_⟩; refine E2 (bB BK325.1 hb) (bS HB.1 hb) ?_; clear BK325 HB; intro BK325 HB; (try clear hb)))
   go_ret
   exact ⟨RF, BL HB.1⟩
 replace H := bindA H; obtain ⟨⟨t327, t328, t329⟩, A7, H⟩ := H
 dsimp only at H
 replace H := bindA H; obtain ⟨⟨t332, t335⟩, A8, H⟩ := H
 dsimp only at H
 replace H := bindA H; obtain ⟨⟨t336, t337, t338⟩, A9, H⟩ := H
 dsimp only at H
 replace H := bindA H; obtain ⟨⟨t342, t345⟩, A10, H⟩ := H
 dsimp only at H
 have HC11 := Aside0.mk H
 clear H
 go_enter Try.func3, Try.ntmps3
 go_upto_region 8 with (first | ((with_reducible refine gate_dst (N := 1) rfl ?_); refine boxE (cs := #[.int .i64 a0_0, .int .i64 a0_1, .slice A0_2 l0_2.length c0_2]) (t := 24) ?_; intro gb325 hg w12 hbox hb; refine E4b HB.1 hg hbox hb ?_; clear HB; intro HB BK325 GW325 GE325; clear hb hbox hg; obtain ⟨hcz13_0, hcz13_1, hcz13_2, hfz13_0, hfz13_1, hfz13_2⟩ := cz3 BK325.1) | ((with_reducible refine gate_callee (f := 4) rfl ?_); refine goesM (N := (some 16)) #[.agg #[.int .i64 a0_0, .int .i64 a0_1, .slice A0_2 l0_2.length c0_2], .int .i64 1048576] Try.func4 ?_; (with_reducible refine (laws_szBoard.calls a0_0 a0_1 _ _ l0_2 1048576 t326 _ ?side1 ?side2 A2.1).mono ?_); (case side1 => exact CB (C_below HR0_2.1 HB.1)); (case side2 => exact HC0_2.1); rintro e w14 ⟨rfl, hb⟩; refine ⟨_, rfl, ?_⟩; refine E2 (bB BK325.1 hb) (bS HB.1 hb) ?_; clear BK325 HB; intro BK325 HB; (try clear hb); obtain ⟨hcz15_0, hcz15_1, hcz15_2, hfz15_0, hfz15_1, hfz15_2⟩ := cz3 BK325.1) | ((with_reducible refine gate_callee (f := 6) rfl ?_); refine goesM (N := (some 21)) #[.agg #[.int .i64 a0_0, .int .i64 a0_1, .slice A0_2 l0_2.length c0_2]] Try.func6 ?_; (with_reducible refine (laws_toBoard.calls k a0_0 a0_1 _ _ l0_2 t327 t328 t329 _ ?side1 ?side2 A7.1).mono ?_); (case side1 => exact CB (C_below HR0_2.1 HB.1)); (case side2 => exact HC0_2.1); rintro e w16 ⟨v330, rfl, ho0, hb⟩; refine ⟨_, rfl, ?_⟩; refine E3 (R_lower ho0 (bZ HB.1)) (bB BK325.1 hb) (bS HB.1 hb) ?_; clear BK325 HB; intro HO331 BK325 HB; (try clear hb); (try clear ho0); obtain ⟨Ao17, co17, eo17⟩ := R_slice HO331.1; subst eo17) | ((with_reducible refine gate_callee (f := 5) rfl ?_); refine goesM (N := (some 22)) #[.agg #[.int .i64 t327, .int .i64 t328, .slice Ao17 t329.length co17]] Try.func5 ?_; (with_reducible refine (spec_UnitsOf.calls k t327 t328 _ _ t329 t332 t335 _ ?side1 ?side2 A8.1).mono ?_); (case side1 => exact CB (R_reads' HO331.1).2.2); (case side2 => exact (R_reads' HO331.1).2.1); rintro e w18 ⟨v333, rfl, ho0, hb⟩; refine ⟨_, rfl, ?_⟩; refine E4 (rB HO331.1 hb) (S_lower ho0 (bZ HB.1)) (bB BK325.1 hb) (bS HB.1 hb) ?_; clear HO331 BK325 HB; intro HO331 HO334 BK325 HB; (try clear hb); (try clear ho0); obtain ⟨hcz19_0, hcz19_1, hcz19_2, hfz19_0, hfz19_1, hfz19_2⟩ := cz3 BK325.1) | ((with_reducible refine gate_callee (f := 6) rfl ?_); refine goesM (N := (some 26)) #[.agg #[.int .i64 a0_0, .int .i64 a0_1, .slice A0_2 l0_2.length c0_2]] Try.func6 ?_; (with_reducible refine (laws_toBoard.calls k a0_0 a0_1 _ _ l0_2 t336 t337 t338 _ ?side1 ?side2 A9.1).mono ?_); (case side1 => exact CB (C_below HR0_2.1 HB.1)); (case side2 => exact HC0_2.1); rintro e w20 ⟨v339, rfl, ho0, hb⟩; refine ⟨_, rfl, ?_⟩; refine E5 (R_elder' (PR HO331.1) (R_base ho0) hb) (sB HO334.1 hb) (R_lower (R_new' ho0 (R_lt (PR HO331.1))) (bZ HB.1)) (bB BK325.1 hb) (bS HB.1 hb) ?_; clear HO331 HO334 BK325 HB; intro HO331 HO334 HO340 BK325 HB; (try clear hb); (try clear ho0)) | ((with_reducible refine gate_dst (N := 6) rfl ?_); refine boxE (cs := #[.int .i64 0, .int .i64 0, .slice none 0 0]) (t := 31) ?_; intro gb341 hg w21 hbox hb; refine E10 (rB HO331.1 hb) (sB HO334.1 hb) (rB HO340.1 hb) (bB BK325.1 hb) (bS HB.1 hb) (hbox) (gX HB.1 hg) (gX HB.1 hg) (nB BK325.1 hg) (nC BK325.1 hg) ?_; clear HO331 HO334 HO340 BK325 HB; intro HO331 HO334 HO340 BK325 HB BK341 GW341 GE341 NB325_341 NB341_325; clear hb hbox hg; have hnb22 := NB341_325.1; have hnc22 := NB325_341.1; obtain ⟨hcz23_0, hcz23_1, hcz23_2, hfz23_0, hfz23_1, hfz23_2⟩ := cz3 BK341.1; obtain ⟨Ao24, co24, eo24⟩ := R_slice HO340.1; subst eo24) | ((with_reducible refine gate_callee (f := 7) rfl ?_); refine goesM (N := (some 29)) #[.agg #[.int .i64 t336, .int .i64 t337, .slice Ao24 t338.length co24]] Try.func7 ?_; (with_reducible refine (impl_UnitsOf.calls k t336 t337 _ _ t338 t342 t345 _ ?side1 ?side2 A10.1).mono ?_); (case side1 => refine (R_reads' (e := 49) (base := w.heap.size) (ok := fun k_ => (True /\ some k_ ≠ (.slice Ao17 t329.length co17 : Value).ownBlock)) (n := t338.length) (c := co24) ?_).2.2; exact (by (with_reducible repeat (first | apply R_alloc | apply R_drewN | apply R_drew)); exact (R_mono (RQ gb341 2 (RQ gb341 1 (RQ gb341 0 (R_types HO340.1 BK341.1 (by decide)) _) _) _) (fun _ h_ => h_.1)))); (case side2 => exact (R_reads' HO340.1).2.1); rintro e w25 ⟨v343, rfl, ho0, hb⟩; refine ⟨_, rfl, ?_⟩; have HD : Aside0 (DJ w25 w.heap.size v333 v343 t332 t342) := ⟨_, bZ HB.1, S_mono (S_old (by (with_reducible repeat (first | apply S_alloc | apply S_drewN | apply S_drew)); exact (S_mono (SQ gb341 2 (SQ gb341 1 (SQ gb341 0 (S_types HO334.1 BK341.1 (by decide)) _) _) _) (fun _ h_ => h_.1))) hb) (fun _ h_ => h_.2), ho0⟩; refine E7 (R_below (by (with_reducible repeat (first | apply R_alloc | apply R_drewN | apply R_drew)); exact (R_mono (RQ gb341 2 (RQ gb341 1 (RQ gb341 0 (R_types HO331.1 BK341.1 (by decide)) _) _) _) (fun _ h_ => h_.1))) hb) (S_elder' (by (with_reducible repeat (first | apply S_alloc | apply S_drewN | apply S_drew)); exact (S_mono (SQ gb341 2 (SQ gb341 1 (SQ gb341 0 (S_types HO334.1 BK341.1 (by decide)) _) _) _) (fun _ h_ => h_.1))) (S_base ho0) hb) (R_below (by (with_reducible repeat (first | apply R_alloc | apply R_drewN | apply R_drew)); exact (R_mono (RQ gb341 2 (RQ gb341 1 (RQ gb341 0 (R_types HO340.1 BK341.1 (by decide)) _) _) _) (fun _ h_ => h_.1))) hb) (S_lower (S_new' ho0 (S_lt (by (with_reducible repeat (first | apply S_alloc | apply S_drewN | apply S_drew)); exact (S_mono (SQ gb341 2 (SQ gb341 1 (SQ gb341 0 (S_types HO334.1 BK341.1 (by decide)) _) _) _) (fun _ h_ => h_.1))))) (bZ HB.1)) (blk_below (g := gb325) (o := .cells #[.int .i64 a0_0, .int .i64 a0_1, .slice A0_2 l0_2.length c0_2] 24 (0, 0)) (PF1 NB325_341.1 BK325.1) hb) (blk_below (g := gb341) (o := .cells #[.int .i64 t336, .int .i64 t337, .slice Ao24 t338.length co24] 31 (0, 0)) (PF0 BK341.1) hb) (bS HB.1 hb) ?_; clear HO331 HO334 HO340 BK325 BK341 HB; intro HO331 HO334 HO340 HO344 BK325 BK341 HB; (try clear hb); (try clear ho0)))
 (try simp only [Act.put, List.setIfInBounds_toArray, List.set_cons_zero, List.set_cons_succ])
 go_cut [40] (fun v40 wc => ∃ (kq : Nat) (x40_10 : Bool), v40 = .bool x40_10 /\ Aside0 (laws_FnExactUnitsOf.j0 kq t332 t335 t342 t345 x40_10 a0_0 a0_1 l0_2 t336 t337 t338 = some true) /\ Aside0 (kq <= k) /\ Aside0 (Kd.S (Kd.slice 3 (Kd.int .i64)) 43 wc w.heap.size (fun k_ => some k_ ≠ (v343 : Value).ownBlock) v333 t332) /\ Aside0 (Kd.S (Kd.slice 3 (Kd.int .i64)) 43 wc w.heap.size (fun k_ => some k_ ≠ (v333 : Value).ownBlock) v343 t342) /\ Aside0 (Kd.R k49 49 wc w.heap.size (fun _ => True) (.slice Ao24 t338.length co24) t338) /\ Aside0 (wc.heap[gb325]? = some (.cells #[.int .i64 a0_0, .int .i64 a0_1, (.slice A0_2 l0_2.length c0_2)] 24 (0, 0))) /\ Aside0 (wc.heap[gb341]? = some (.cells #[.int .i64 t336, .int .i64 t337, (.slice Ao24 t338.length co24)] 31 (0, 0))) /\ Aside0 (Below w.heap.size w wc) /\ Aside0 (DJ wc w.heap.size v333 v343 t332 t342))
 case first =>
  have H := HC11.1
  clear HC11
  replace H := bindA H; obtain ⟨t346, A26, H⟩ := H
  replace H := ifT H (by cases k <;> simp [laws_FnExactUnitsOf.j0]); obtain ⟨rfl, H⟩ := H
  have H' := Aside0.mk H
  clear H
  obtain ⟨Ao28, co28, eo28⟩ := S_slice HO344.1
  subst eo28
  obtain ⟨Ao29, co29, eo29⟩ := S_slice HO334.1
  subst eo29
  go_wp2_with (first | ((with_reducible refine gate_callee (f := 8) rfl ?_); refine goesM (N := (some 34)) #[.slice Ao28 t342.length co28, .slice Ao29 t332.length co29] Try.func8 ?_; (with_reducible refine (laws_eqIntSS.calls k _ _ t342 _ _ t332 true _ ?side1 ?side2 ?side3 ?side4 A26.1).mono ?_); (case side1 => exact CB (S_reads' HO344.1).2.2); (case side2 => exact (S_reads' HO344.1).2.1); (case side3 => exact CB (S_reads' HO334.1).2.2); (case side4 => exact (S_reads' HO334.1).2.1); rintro e w' ⟨rfl, ⟨nd, rfl⟩⟩; refine ⟨_, rfl, ?_⟩))
  go_meet
  case rel => exact ⟨_, ((t345 != t335)), RG, H', ⟨by first | omega | exact Nat.le_refl _⟩, ⟨SPE (S_mono HO334.1 (fun _ hk => hk.2))⟩, ⟨SPE (S_mono HO344.1 (fun _ hk => hk.2))⟩, ⟨RPE (R_mono HO340.1 (fun _ hk => trivial))⟩, ⟨PB BK325.1⟩, ⟨PB BK341.1⟩, ⟨BL HB.1⟩, ⟨by first | exact HD.1 | exact HD.1.drewN _⟩⟩
 clear HC11
 clear c3b0 hcz13_0 hcz13_1 hcz13_2 hcz15_0 hcz15_1 hcz15_2 hcz19_0 hcz19_1 hcz19_2 hcz23_0 hcz23_1 hcz23_2 hfz13_0 hfz13_1 hfz13_2 hfz15_0 hfz15_1 hfz15_2 hfz19_0 hfz19_1 hfz19_2 hfz23_0 hfz23_1 hfz23_2
 obtain ⟨kq, x40_10, rfl, HA, HJ10, HO_4, HO_7, HO_342002, BK325, BK341, HB, HD⟩ := hcut
 cases kq with
 | zero => exact absurd HA.1 (by simp [laws_FnExactUnitsOf.j0])
 | succ kj10 => ?_
 have H := HA.1
 clear HA
 simp only [laws_FnExactUnitsOf.j0] at H
 replace H := ifF H (by simp); obtain ⟨rfl, H⟩ := H
 replace H := bindA H; obtain ⟨⟨t347, t348, t349⟩, A33, H⟩ := H
 dsimp only at H
 replace H := bindA H; obtain ⟨t352, A34, H⟩ := H
 replace H := ifT H (by simp); obtain ⟨rfl, H⟩ := H
 replace H := bindA H; obtain ⟨⟨t353, t354⟩, A36, H⟩ := H
 dsimp only at H
 have HC37 := Aside0.mk H
 clear H
 try go_wp2
 refine E6 (S_drew HO_4.1) (S_drew HO_7.1) (R_drew HO_342002.1) (blk_drew BK325.1) (blk_drew BK341.1) (below_drew1 HB.1) ?_
 clear HO_4 HO_7 HO_342002 BK325 BK341 HB
 intro HO_4 HO_7 HO_342002 BK325 BK341 HB
 replace HD := Aside0.mk HD.1.drew
 refine start_ (n := 5) (S := fun w' => w'.cell? ⟨gb341, 0, none⟩ = some (.int .i64 t336) /\ w'.cell? ⟨gb341, 1, none⟩ = some (.int .i64 t337) /\ w'.cell? ⟨gb341, 2, none⟩ = some (.slice Ao24 t338.length co24) /\ w'.cell? ⟨gb325, 0, none⟩ = some (.int .i64 a0_0) /\ w'.cell? ⟨gb325, 1, none⟩ = some (.int .i64 a0_1) /\ w'.cell? ⟨gb325, 2, none⟩ = some (.slice A0_2 l0_2.length c0_2)) (ds := []) #[Zz,Zz,Zz,Zz,Zz] (by kernel_rfl) rfl rfl ⟨(blk_cell BK341.1 0).trans rfl, (blk_cell BK341.1 1).trans rfl, (blk_cell BK341.1 2).trans rfl, (blk_cell BK325.1 0).trans rfl, (blk_cell BK325.1 1).trans rfl, (blk_cell BK325.1 2).trans rfl⟩ (fun hHeld => ?_)
 generalize wc.drew = w38 at HO_4 HO_7 HO_342002 BK325 BK341 HB HD hHeld ⊢
 refine takeF 0 (N := some 41) hHeld ?_
 refine takeF 1 (N := some 42) hHeld ?_
 refine one_ (i := 2) (N := some 43) #[Yy,Yy,Yy,Zz,Zz] rfl rfl (by kernel_rfl) (by decide) (fun K hK => ?_)
 refine goes_ Try.func6 (by kernel_rfl) rfl #[.agg #[.int .i64 a0_0, .int .i64 a0_1, .slice A0_2 l0_2.length c0_2]] (by rfl) rfl rfl (by (try simp only [List.map_toArray, List.map_cons, List.map_nil]); first | done | rfl | (simp only [List.length_drop, List.length_take]; rfl)) ?_
 with_reducible refine (laws_toBoard.calls kj10 a0_0 a0_1 _ _ l0_2 t347 t348 t349 _ ?side1 ?side2 A33.1).mono ?_
 (case side1 => exact CB (C_below HR0_2.1 HB.1))
 (case side2 => exact HC0_2.1)
 rintro e w39 ⟨v350, rfl, ho0, hb⟩
 refine ⟨_, rfl, ?_⟩
 replace HD := Aside0.mk (HD.1.below hb)
 refine E7 (sB HO_4.1 hb) (sB HO_7.1 hb) (R_elder' (PR HO_342002.1) (R_base ho0) hb) (R_lower (R_new' ho0 (R_lt (PR HO_342002.1))) (bZ HB.1)) (bB BK325.1 hb) (bB BK341.1 hb) (bS HB.1 hb) ?_
 clear HO_4 HO_7 HO_342002 BK325 BK341 HB
 intro HO_4 HO_7 HO_342002 HO351 BK325 BK341 HB
 (try clear hb)
 (try clear hb2)
 (try clear hk)
 (try clear hi)
 (try clear ho0)
 obtain ⟨Ao40, co40, eo40⟩ := R_slice HO351.1
 (first | subst eo40 | (injection eo40 with f1_ f2_ f3_; have f4_ := f1_.symm; have f5_ := f3_.symm; clear f1_ f2_ f3_; subst f4_; subst f5_))
 refine hK.out _ _ ⟨(blk_cell BK341.1 0).trans rfl, (blk_cell BK341.1 1).trans rfl, (blk_cell BK341.1 2).trans rfl, (blk_cell BK325.1 0).trans rfl, (blk_cell BK325.1 1).trans rfl, (blk_cell BK325.1 2).trans rfl⟩ (fun hHeld => ?_)
 clear hK K
 refine norm_ (a' := ?_) ?_ ?_
 rotate_left
 · show Act.put _ (some 43) _ = _
   simp only [Act.put, List.setIfInBounds_toArray, List.set_cons_zero, List.set_cons_succ, i64_w, i32_w]
   rfl
 refine one_ (i := 3) (N := some 44) #[Yy,Yy,Yy,Yy,Zz] rfl rfl (by kernel_rfl) (by decide) (fun K hK => ?_)
 refine goes_ Try.func9 (by kernel_rfl) rfl #[.agg #[.int .i64 t336, .int .i64 t337, .slice Ao24 t338.length co24], .agg #[.int .i64 t347, .int .i64 t348, .slice Ao40 t349.length co40]] (by rfl) rfl rfl (by (try simp only [List.map_toArray, List.map_cons, List.map_nil]); first | done | rfl | (simp only [List.length_drop, List.length_take]; rfl)) ?_
 with_reducible refine (laws_eqBoard.calls kj10 t336 t337 _ _ t338 t347 t348 _ _ t349 true _ ?side1 ?side2 ?side3 ?side4 A34.1).mono ?_
 (case side1 => exact CB (R_reads' HO_342002.1).2.2)
 (case side2 => exact (R_reads' HO_342002.1).2.1)
 (case side3 => exact CB (R_reads' HO351.1).2.2)
 (case side4 => exact (R_reads' HO351.1).2.1)
 rintro e w41 ⟨rfl, hb⟩
 refine ⟨_, rfl, ?_⟩
 replace HD := Aside0.mk (HD.1.below hb)
 refine E7 (sB HO_4.1 hb) (sB HO_7.1 hb) (rB HO_342002.1 hb) (rB HO351.1 hb) (bB BK325.1 hb) (bB BK341.1 hb) (bS HB.1 hb) ?_
 clear HO_4 HO_7 HO_342002 HO351 BK325 BK341 HB
 intro HO_4 HO_7 HO_342002 HO351 BK325 BK341 HB
 (try clear hb)
 (try clear hb2)
 (try clear hk)
 (try clear hi)
 refine hK.out _ _ ⟨(blk_cell BK341.1 0).trans rfl, (blk_cell BK341.1 1).trans rfl, (blk_cell BK341.1 2).trans rfl, (blk_cell BK325.1 0).trans rfl, (blk_cell BK325.1 1).trans rfl, (blk_cell BK325.1 2).trans rfl⟩ (fun hHeld => ?_)
 clear hK K
 refine norm_ (a' := ?_) ?_ ?_
 rotate_left
 · show Act.put _ (some 44) _ = _
   simp only [Act.put, List.setIfInBounds_toArray, List.set_cons_zero, List.set_cons_succ, i64_w, i32_w]
   rfl
 refine pure_ (i := 4) (N := some 45) (v := ?_) (a' := ?_) #[Yy,Yy,Yy,Yy,Yy] rfl rfl (by kernel_rfl) (fun _ _ _ h => h) (Or.inl ⟨by rfl, ?_⟩) ?_ ?_
 rotate_left
 · intro w'
   go_simp
   with_reducible rfl
 rotate_left
 · simp only [Act.put, List.setIfInBounds_toArray, List.set_cons_zero, List.set_cons_succ, i64_w, i32_w]
   rfl
 refine done_ (by kernel_rfl) ?_
 obtain ⟨hcz43_0, hcz43_1, hcz43_2, hfz43_0, hfz43_1, hfz43_2⟩ := cz3 BK341.1
 go_upto_region 14 with (first | ((with_reducible refine gate_callee (f := 10) rfl ?_); refine goesM (N := (some 48)) #[.agg #[.int .i64 t336, .int .i64 t337, .slice Ao24 t338.length co24], .int .i64 1] Try.func10 ?_; (with_reducible refine (laws_markBoard.calls kj10 t336 t337 (fun k_ => some k_ = (.slice Ao24 t338.length co24 : Value).ownBlock) (.slice Ao24 t338.length co24) t338 1 t353 t354 w _ ?side1 ?side2 A36.1).mono ?_); (case side1 => exact BL HB.1); (case side2 => exact R_tight rfl HO_342002.1); rintro e w44 ⟨rfl, hy0, hb, hkp⟩; refine ⟨_, rfl, ?_⟩; have nD_ := Aside0.mk (HD.1.kept hkp (fun k_ hs_ => R_typed HO_342002.1 k_ hs_.symm)); clear HD; have HD := nD_; clear nD_; refine E7 (S_mono (ok' := fun k_ => some k_ ≠ (v343 : Value).ownBlock) (S_keptB ((S_apart' HO_4.1 (R_typed HO_342002.1) (by decide))) hkp (fun k_ hk_ hs_ => (hk_.2) hs_)) (fun k_ hk_ => hk_.1.1)) (S_mono (ok' := fun k_ => some k_ ≠ (v333 : Value).ownBlock) (S_keptB ((S_apart' HO_7.1 (R_typed HO_342002.1) (by decide))) hkp (fun k_ hk_ hs_ => (hk_.2) hs_)) (fun k_ hk_ => hk_.1.1)) (R_reok rfl hy0 (fun k_ e_ => HO_342002.1.1 k_ e_)) (blk_kept (PB BK325.1) hkp (fun hs_ => (fun e_ => (R_ne HO_342002.1 BK325.1 (by decide)) e_) hs_)) (blk_kept (PB BK341.1) hkp (fun hs_ => (fun e_ => (R_ne HO_342002.1 BK341.1 (by decide)) e_) hs_)) (R_mono (ok' := fun k_ => some k_ ≠ (.slice Ao24 t338.length co24 : Value).ownBlock) (R_keptB (HO351.1) hkp (fun k_ hk_ hs_ => (hk_.2) hs_)) (fun k_ hk_ => hk_.1.2)) (hb) ?_; clear HO_4 HO_7 HO_342002 BK325 BK341 HO351 HB; intro HO_4 HO_7 HO_342002 BK325 BK341 HO351 HB; (try clear hb); (try clear hkp); (try clear hy0)))
 (try simp only [Act.put, List.setIfInBounds_toArray, List.set_cons_zero, List.set_cons_succ])
 go_cut [61] (fun v61 wc => ∃ (kq : Nat) (x61_36 : Bool), v61 = .bool x61_36 /\ Aside0 (laws_FnExactUnitsOf.j1 kq t332 t335 t342 x61_36 a0_0 a0_1 l0_2 = some true) /\ Aside0 (kq <= kj10) /\ Aside0 (Kd.S (Kd.slice 3 (Kd.int .i64)) 43 wc w.heap.size (fun k_ => some k_ ≠ (v343 : Value).ownBlock) v333 t332) /\ Aside0 (Kd.S (Kd.slice 3 (Kd.int .i64)) 43 wc w.heap.size (fun k_ => some k_ ≠ (v333 : Value).ownBlock) v343 t342) /\ Aside0 (Kd.R k49 49 wc w.heap.size (fun _ => True) (.slice Ao24 t338.length co24) t354) /\ Aside0 (wc.heap[gb325]? = some (.cells #[.int .i64 a0_0, .int .i64 a0_1, (.slice A0_2 l0_2.length c0_2)] 24 (0, 0))) /\ Aside0 (wc.heap[gb341]? = some (.cells #[.int .i64 t336, .int .i64 t337, (.slice Ao24 t338.length co24)] 31 (0, 0))) /\ Aside0 (Below w.heap.size w wc) /\ Aside0 (DJ wc w.heap.size v333 v343 t332 t342))
 case first =>
  have H := HC37.1
  clear HC37
  replace H := ifQ H; rcases H with ⟨c45, H⟩ | ⟨c45, H⟩
  · exact absurd H (by cases kj10 <;> simp [laws_FnExactUnitsOf.j1])
  have c45b0 := decide_eq_false c45
  clear c45
  (first | rw [c45b0] | (simp only [i64_w, i32_w]; rw [c45b0]) | skip)
  replace H := bindA H; obtain ⟨t355, A46, H⟩ := H
  replace H := ifT H (by cases kj10 <;> simp [laws_FnExactUnitsOf.j1]); obtain ⟨rfl, H⟩ := H
  have H' := Aside0.mk H
  clear H
  obtain ⟨Ao48, co48, eo48⟩ := S_slice HO_7.1
  subst eo48
  obtain ⟨Ao49, co49, eo49⟩ := S_slice HO_4.1
  subst eo49
  go_wp2_with (first | (go_at_call 8; (with_reducible refine (laws_eqIntSS.calls kj10 _ _ t342 _ _ t332 true _ ?side1 ?side2 ?side3 ?side4 A46.1).mono ?_); (case side1 => exact CB (S_reads' HO_7.1).2.2); (case side2 => exact (S_reads' HO_7.1).2.1); (case side3 => exact CB (S_reads' HO_4.1).2.2); (case side4 => exact (S_reads' HO_4.1).2.1); rintro e w' ⟨rfl, ⟨nd, rfl⟩⟩))
  go_meet
  case rel => exact ⟨_, ((t345 != t335)), RG, H', ⟨by have := HJ10.1; first | omega | exact Nat.le_refl _⟩, ⟨PS HO_4.1⟩, ⟨PS HO_7.1⟩, ⟨RPE (R_mono HO_342002.1 (fun _ hk => trivial))⟩, ⟨PB BK325.1⟩, ⟨PB BK341.1⟩, ⟨BL HB.1⟩, ⟨by first | exact HD.1 | exact HD.1.drewN _⟩⟩
 clear HC37
 clear hcz43_0 hcz43_1 hcz43_2 hfz43_0 hfz43_1 hfz43_2
 obtain ⟨kq, x61_36, rfl, HA, HJ36, HO_4, HO_7, HO_342002, BK325, BK341, HB, HD⟩ := hcut
 have hl342002_36 := (R_reads' HO_342002.1).1
 rw [hl342002_36] at HO_342002
 (try simp only [hl342002_36])
 (try simp only [hl342002_36] at BK325)
 (try simp only [hl342002_36] at BK341)
 (try simp only [hl342002_36] at HO_4)
 (try simp only [hl342002_36] at HO_7)
 cases kq with
 | zero => exact absurd HA.1 (by simp [laws_FnExactUnitsOf.j1])
 | succ kj36 => ?_
 have H := HA.1
 clear HA
 simp only [laws_FnExactUnitsOf.j1] at H
 replace H := ifF H (by simp); obtain ⟨rfl, H⟩ := H
 replace H := bindA H; obtain ⟨⟨t356, g356⟩, A53, H⟩ := H
 dsimp only at H
 replace H := bindA H; obtain ⟨t357, A54, H⟩ := H
 replace H := ifQ H; rcases H with ⟨c55, H⟩ | ⟨c55, H⟩
 · exact absurd H (by simp)
 have c55b0 := decide_eq_false c55
 clear c55
 first | replace H := ifP H | replace H := ifPf H
 obtain ⟨c57, H⟩ := H
 have c57b0 := beq_iff_eq.mpr c57
 have c57b1 := bne_eq_false_iff_eq.mpr c57
 clear c57
 replace H := bindA H; obtain ⟨⟨t358, t359, t360⟩, A58, H⟩ := H
 dsimp only at H
 replace H := bindA H; obtain ⟨⟨t363, t366⟩, A59, H⟩ := H
 dsimp only at H
 have HC60 := Aside0.mk H
 clear H
 obtain ⟨Ao61, co61, eo61⟩ := S_slice HO_7.1
 subst eo61
 go_upto_region 25 with (first | ((with_reducible refine gate_callee (f := 11) rfl ?_); refine goesM (N := (some 64)) #[.slice Ao61 t342.length co61, .int .i64 1] Try.func11 ?_; obtain ⟨T_, hT0_, hT1_, hT2_⟩ := HD.1; refine (laws_markIntSS.calls kj36 (fun k_ => T_ <= k_ /\ TY wc k_) (.slice Ao61 t342.length co61) t342 1 t356 g356 w _ HB.1 (S_lower (S_mono (S_bound hT2_) (fun k_ h_ => ⟨h_.2.1, TY.of h_.2.2.2⟩)) hT0_) A53.1).mono ?_; rintro e w63 ⟨rfl, hs_, hb, hkp⟩; refine ⟨_, rfl, ?_⟩; refine E6 (S_mono (ok' := fun k_ => some k_ ≠ (.slice Ao61 t342.length co61 : Value).ownBlock) (S_kept hT1_ hkp (fun k_ h_ h2_ => by omega)) (fun k_ h_ e_ => by have := S_base hT2_ k_ e_.symm; omega)) (S_mono (ok' := fun _ => True) hs_ (fun _ _ => trivial)) (TY.R HO_342002.1 hkp (fun _ h_ => h_.2) (by decide)) (TY.blk BK325.1 hkp (fun _ h_ => h_.2) (by decide)) (TY.blk BK341.1 hkp (fun _ h_ => h_.2) (by decide)) (hb) ?_; clear HO_4 HO_7 HO_342002 BK325 BK341 HB HD; intro HO_4 HO_7 HO_342002 BK325 BK341 HB; clear hT0_ hT1_ hT2_ hs_ hb hkp) | ((with_reducible refine gate_callee (f := 12) rfl ?_); refine goesM (N := (some 67)) #[.slice Ao61 t342.length co61, .int .i64 1] Try.func12 ?_; (with_reducible refine (heldSS_calls kj36 _ _ _ g356 1 t357 _ ?side0 ?side1 ?side2 A54.1).mono ?_); (case side0 => exact (S_reads' HO_7.1).1); (case side1 => exact CB (S_reads' HO_7.1).2.2); (case side2 => exact (S_reads' HO_7.1).2.1); rintro e w' ⟨rfl, ⟨nd, rfl⟩⟩; refine ⟨_, rfl, ?_⟩; have hnb62 := NB325_341.1; have hnc62 := NB341_325.1; obtain ⟨hcz63_0, hcz63_1, hcz63_2, hfz63_0, hfz63_1, hfz63_2⟩ := cz3 BK325.1) | ((with_reducible refine gate_callee (f := 6) rfl ?_); refine goesM (N := (some 75)) #[.agg #[.int .i64 a0_0, .int .i64 a0_1, .slice A0_2 l0_2.length c0_2]] Try.func6 ?_; (with_reducible refine (laws_toBoard.calls kj36 a0_0 a0_1 _ _ l0_2 t358 t359 t360 _ ?side1 ?side2 A58.1).mono ?_); (case side1 => repeat (first | exact (C_below HR0_2.1 (BL HB.1)) | (with_reducible refine C_alloc ?_ _) | (with_reducible refine C_drewN ?_ _) | (with_reducible refine C_drew ?_))); (case side2 => exact HC0_2.1); rintro e w64 ⟨v361, rfl, ho0, hb⟩; refine ⟨_, rfl, ?_⟩; refine E7 (sB HO_4.1 hb) (sB HO_7.1 hb) (R_elder' (PR HO_342002.1) (R_base ho0) hb) (R_lower (R_new' ho0 (R_lt (PR HO_342002.1))) (bZ HB.1)) (bB BK325.1 hb) (bB BK341.1 hb) (bS HB.1 hb) ?_; clear HO_4 HO_7 HO_342002 BK325 BK341 HB; intro HO_4 HO_7 HO_342002 HO362 BK325 BK341 HB; (try clear hb); (try clear ho0); obtain ⟨Ao65, co65, eo65⟩ := R_slice HO362.1; subst eo65) | ((with_reducible refine gate_callee (f := 7) rfl ?_); refine goesM (N := (some 76)) #[.agg #[.int .i64 t358, .int .i64 t359, .slice Ao65 t360.length co65]] Try.func7 ?_; (with_reducible refine (impl_UnitsOf.calls kj36 t358 t359 _ _ t360 t363 t366 _ ?side1 ?side2 A59.1).mono ?_); (case side1 => exact CB (R_reads' HO362.1).2.2); (case side2 => exact (R_reads' HO362.1).2.1); rintro e w66 ⟨v364, rfl, ho0, hb⟩; refine ⟨_, rfl, ?_⟩; refine E8 (S_elder' (PS HO_4.1) (S_base ho0) hb) (S_elder' (PS HO_7.1) (S_base ho0) hb) (rB HO_342002.1 hb) (rB HO362.1 hb) (S_lower (S_new' (S_new' ho0 (S_lt (PS HO_4.1))) (S_lt (PS HO_7.1))) (bZ HB.1)) (bB BK325.1 hb) (bB BK341.1 hb) (bS HB.1 hb) ?_; clear HO_4 HO_7 HO_342002 HO362 BK325 BK341 HB; intro HO_4 HO_7 HO_342002 HO362 HO365 BK325 BK341 HB; (try clear hb); (try clear ho0)))
 (try simp only [Act.put, List.setIfInBounds_toArray, List.set_cons_zero, List.set_cons_succ])
 go_cut [87] (fun v87 wc => ∃ (kq : Nat) (x87_59 : Bool), v87 = .bool x87_59 /\ Aside0 (laws_FnExactUnitsOf.j2 kq g356 t356 x87_59 = some true) /\ Aside0 (kq <= kj36) /\ Aside0 (Kd.S (Kd.slice 3 (Kd.int .i64)) 43 wc w.heap.size (fun _ => True) (.slice Ao61 t342.length co61) g356) /\ Aside0 (Kd.R k49 49 wc w.heap.size (fun _ => True) (.slice Ao24 t354.length co24) t354) /\ Aside0 (wc.heap[gb325]? = some (.cells #[.int .i64 a0_0, .int .i64 a0_1, (.slice A0_2 l0_2.length c0_2)] 24 (0, 0))) /\ Aside0 (wc.heap[gb341]? = some (.cells #[.int .i64 t336, .int .i64 t337, (.slice Ao24 t354.length co24)] 31 (0, 0))) /\ Aside0 (Below w.heap.size w wc))
 case first =>
  have H := HC60.1
  clear HC60
  replace H := bindA H; obtain ⟨t367, A67, H⟩ := H
  replace H := ifT H (by cases kj36 <;> simp [laws_FnExactUnitsOf.j2]); obtain ⟨rfl, H⟩ := H
  have H' := Aside0.mk H
  clear H
  have HN_7 := HO_7
  obtain ⟨Ao69, co69, eo69⟩ := S_slice HO365.1
  subst eo69
  obtain ⟨Ao70, co70, eo70⟩ := S_slice HO_4.1
  subst eo70
  go_wp2_with (first | ((with_reducible refine gate_callee (f := 8) rfl ?_); refine goesM (N := (some 81)) #[.slice Ao69 t363.length co69, .slice Ao70 t332.length co70] Try.func8 ?_; (with_reducible refine (laws_eqIntSS.calls kj36 _ _ t363 _ _ t332 true _ ?side1 ?side2 ?side3 ?side4 A67.1).mono ?_); (case side1 => exact CB (S_reads' HO365.1).2.2); (case side2 => exact (S_reads' HO365.1).2.1); (case side3 => exact CB (S_reads' HO_4.1).2.2); (case side4 => exact (S_reads' HO_4.1).2.1); rintro e w' ⟨rfl, ⟨nd, rfl⟩⟩; refine ⟨_, rfl, ?_⟩))
  go_meet
  case rel => exact ⟨_, ((t366 != t335)), RG, H', ⟨by have := HJ10.1; have := HJ36.1; first | omega | exact Nat.le_refl _⟩, ⟨by (try simp only [hl342002_36]); (with_reducible repeat (first | apply S_alloc | apply S_drewN | apply S_drew)); exact S_mono HN_7.1 (fun _ hk => trivial)⟩, ⟨by (try simp only [hl342002_36]); (with_reducible repeat (first | apply R_alloc | apply R_drewN | apply R_drew)); exact R_mono HO_342002.1 (fun _ hk => trivial)⟩, ⟨PB1 BK325.1 hl342002_36⟩, ⟨PB1 BK341.1 hl342002_36⟩, ⟨BL HB.1⟩⟩
 clear HC60
 clear c55b0 c57b0 c57b1 hcz63_0 hcz63_1 hcz63_2 hfz63_0 hfz63_1 hfz63_2
 obtain ⟨kq, x87_59, rfl, HA, HJ59, HO_7, HO_342002, BK325, BK341, HB⟩ := hcut
 cases kq with
 | zero => exact absurd HA.1 (by simp [laws_FnExactUnitsOf.j2])
 | succ kj59 => ?_
 have H := HA.1
 clear HA
 simp only [laws_FnExactUnitsOf.j2] at H
 replace H := ifF H (by simp); obtain ⟨rfl, H⟩ := H
 replace H := bindA H; obtain ⟨t368, A74, H⟩ := H
 replace H := ifQ H; rcases H with ⟨c75, H⟩ | ⟨c75, H⟩
 · exact absurd H (by simp)
 have c75b0 := decide_eq_false c75
 clear c75
 first | replace H := ifP H | replace H := ifPf H
 obtain ⟨c76, H⟩ := H
 have c76b0 := beq_iff_eq.mpr c76
 have c76b1 := bne_eq_false_iff_eq.mpr c76
 clear c76
 first | (obtain rfl := Option.some.inj H) | clear H
 go_wp2_with (first | ((with_reducible refine gate_callee (f := 12) rfl ?_); refine goesM (N := (some 90)) #[.slice Ao61 t342.length co61, .int .i64 1] Try.func12 ?_; (with_reducible refine (heldSS_calls kj59 _ _ _ g356 1 t368 _ ?side0 ?side1 ?side2 A74.1).mono ?_); (case side0 => exact (S_reads' HO_7.1).1); (case side1 => exact CB (S_reads' HO_7.1).2.2); (case side2 => exact (S_reads' HO_7.1).2.1); rintro e w' ⟨rfl, ⟨nd, rfl⟩⟩; refine ⟨_, rfl, ?_⟩))
 go_ret
 exact ⟨RF, BL HB.1⟩

end Go.Proofs.Ytlkmafoihjglcaa.P
