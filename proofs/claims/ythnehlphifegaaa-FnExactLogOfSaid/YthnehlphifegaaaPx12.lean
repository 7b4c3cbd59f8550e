-- PRINTED by print.py (a twelfth state) out of the translation. Not trusted: Lean checks it.
import Derived.Test.YthnehlphifegaaaPx0
namespace Go.Proofs.Ythnehlphifegaaa.P
open Go.RowKit Go.Proofs.YthnehlphifegaaaW.PrintWords Go.Proofs.YthnehlphifegaaaW.PrintLast Go.Proofs.YthnehlphifegaaaW.PrintMore
attribute [local go_sem] max2_int min2_int max_two min_two max_three min_three max_four min_four   -- for this text's walks alone
set_option linter.unusedVariables false
set_option linter.unusedSimpArgs false

/-! ### laws_markLogEntryS: function 19 -/
open Kd
def laws_markLogEntryS.l0 : Nat -> List (S66) -> Int -> Int -> Option (Int × (List (S66)))
 | 0, _, _, _ => none
 | k + 1, x0, x1, x5 => if x5 < (x0.length : Int) then (if 0 <= x5 then ((some (x0.set (x5 : Int).toNat (⟨x1, (⟨(rd_T66 x0 x5).f1.f0, (rd_T66 x0 x5).f1.f1, (rd_T66 x0 x5).f1.f2⟩ : S61)⟩ : S66) : List (S66))).bind fun y586 => ((some (y586.set (x5 : Int).toNat (⟨(rd_T66 y586 x5).f0, (⟨wrap64 (x1 + 1), (rd_T66 y586 x5).f1.f1, (rd_T66 y586 x5).f1.f2⟩ : S61)⟩ : S66) : List (S66))).bind fun y587 => ((some (y587.set (x5 : Int).toNat (⟨(rd_T66 y587 x5).f0, (⟨(rd_T66 y587 x5).f1.f0, wrap64 ((wrap64 (x1 + 1)) + 1), (rd_T66 y587 x5).f1.f2⟩ : S61)⟩ : S66) : List (S66))).bind fun y588 => (laws_markLogEntryS.l0 k (y588.set (x5 : Int).toNat (⟨(rd_T66 y588 x5).f0, (⟨(rd_T66 y588 x5).f1.f0, (rd_T66 y588 x5).f1.f1, wrap64 ((wrap64 ((wrap64 (x1 + 1)) + 1)) + 1)⟩ : S61)⟩ : S66)) (wrap64 ((wrap64 ((wrap64 ((wrap64 (x1 + 1)) + 1)) + 1)) + 1)) (wrap64 (x5 + 1)))))) else (none)) else (some (x1, x0))
def laws_markLogEntryS.f (k : Nat) (l0 : List (S66)) (a1 : Int) : Option (Int × (List (S66))) := laws_markLogEntryS.l0 k l0 a1 0
theorem laws_markLogEntryS.mono_l : ∀ k, (∀ y0 y1 y2, LeO (laws_markLogEntryS.l0 k y0 y1 y2) (laws_markLogEntryS.l0 (k + 1) y0 y1 y2))
 | 0 => fun _ _ _ r h => by simp [laws_markLogEntryS.l0] at h
 | k + 1 => by
  have ih0 := laws_markLogEntryS.mono_l k
  intros
  first | unfold laws_markLogEntryS.l0
  exact LM1 ih0
theorem laws_markLogEntryS.mono : ∀ a0 a1 k, LeO (laws_markLogEntryS.f k a0 a1) (laws_markLogEntryS.f (k + 1) a0 a1) := by
 intro a0 a1 k
 have ih0 := laws_markLogEntryS.mono_l k
 unfold laws_markLogEntryS.f
 exact LM1 ih0
set_option maxHeartbeats 8000000 in
set_option maxRecDepth 100000 in
theorem laws_markLogEntryS.calls (k : Nat) (P0_ : Nat -> Prop) (u9000_ : Value) (l0 : List (S66)) (a1 : Int) (r1 : Int) (r2 : List (S66)) (w0 w : World) (hB : Below w0.heap.size w0 w) (ho0 : Kd.R k66 66 w w0.heap.size P0_ u9000_ l0) (h : laws_markLogEntryS.f k l0 a1 = some (r1, r2)) :
 Calls Try.prog 19 #[u9000_, .int .i64 a1] w fun e w' => e = .returned (.int .i64 r1) /\ Kd.R k66 66 w' w0.heap.size (fun k_ => (P0_ k_ ∨ w.heap.size <= k_)) u9000_ r2 /\ Below w0.heap.size w0 w' /\ Kept w w' (fun k_ => P0_ k_) := by
 have HO0 := Aside0.mk (show Kd.R k66 66 w w0.heap.size (fun k_ => (P0_ k_ ∨ w.heap.size <= k_)) u9000_ l0 from R_mono ho0 (fun k_ hk => (.inl hk)))
 have HK := Aside0.mk (Kept.refl w (fun k_ => P0_ k_))
 have HW0 := Aside0.mk hB.size
 have HB := Aside0.mk hB
 clear hB
 have H := h
 clear h
 unfold laws_markLogEntryS.f at H
 have H' := Aside0.mk H
 clear H
 go_enter Try.func19, Try.ntmps19
 go_wp2
 go_loopg [1, 5] k (fun kq v1 v5 w' => ∃ (x0_1 : List (S66)) (x1_1 : Int) (x5_1 : Int), v1 = .int .i64 x1_1 /\ v5 = .int .i64 x5_1 /\ Aside0 (laws_markLogEntryS.l0 kq x0_1 x1_1 x5_1 = some (r1, r2)) /\ Aside0 (kq <= k) /\ Aside0 (Kd.R k66 66 w' w0.heap.size (fun k_ => (P0_ k_ ∨ w.heap.size <= k_)) u9000_ x0_1) /\ Aside0 (Kept w w' (fun k_ => P0_ k_)) /\ Aside0 (Below w0.heap.size w0 w'))
 case atStart => exact ⟨(l0), (a1), (0), RG, RG, H', ⟨Nat.le_refl _⟩, ⟨PR HO0.1⟩, ⟨KL HK.1⟩, ⟨BL HB.1⟩⟩
 clear H'
 obtain ⟨x0_1, x1_1, x5_1, rfl, rfl, HA, HK1, HO_0, HK, HB⟩ := hrel
 cases gk with
 | zero => exact absurd HA.1 (by simp [laws_markLogEntryS.l0])
 | succ k1 => ?_
 have H := HA.1
 clear HA
 simp only [laws_markLogEntryS.l0] at H
 replace H := ifB H; rcases H with ⟨c3b0, H⟩ | ⟨c3b0, H⟩
 · replace H := ifN H; obtain ⟨c4b0, H⟩ := H
   replace H := nameB H; obtain ⟨y586, Ny586, H⟩ := H
   replace H := nameB H; obtain ⟨y587, Ny587, H⟩ := H
   replace H := nameB H; obtain ⟨y588, Ny588, H⟩ := H
   generalize hy589 : ((y588.set (x5_1 : Int).toNat (⟨(rd_T66 y588 x5_1).f0, (⟨(rd_T66 y588 x5_1).f1.f0, (rd_T66 y588 x5_1).f1.f1, wrap64 ((wrap64 ((wrap64 (x1_1 + 1)) + 1)) + 1)⟩ : S61)⟩ : S66)) : List (S66)) = y589 at H
   have Ny589 := Aside0.mk hy589.symm; clear hy589
   have H' := Aside0.mk H
   clear H
   obtain ⟨Ao9, co9, eo9⟩ := R_slice HO_0.1
   subst eo9
   have p5 : 0 <= (x5_1 : Int) := OD
   have q5 : (x5_1 : Int) < ((x0_1.length : Int) : Int) := OD
   obtain ⟨go5, co5, eo5, gb5, gl5, cl5, HG5⟩ := R_form HO_0.1 (by omega)
   (first | cases eo5 | (injection eo5 with ea_ en_ ec_; (first | subst ea_ | (injection ea_ with ea_; subst ea_)); subst ec_; clear en_))
   have GB5 := Aside0.mk gb5
   have GG5 := Aside0.mk HG5
   clear gb5 gl5 HG5
   have HMgo5 := Aside0.mk (show (P0_ go5 ∨ w.heap.size <= go5) from (HO_0.1.1 _ rfl))
   obtain ⟨ce5, hcl5, hM5, hcc5, hfr5⟩ := R_elem HO_0.1 z66 (x5_1 : Int) p5 q5
   obtain rfl := k66_openM hM5
   have hx5_0 : wr.cell? ⟨go5, (x5_1 : Int).toNat * 4, none⟩ = some (.int .i64 ((rd_T66 x0_1 x5_1).f0)) := hcc5 0 _ rfl
   have hx5_1 : wr.cell? ⟨go5, (x5_1 : Int).toNat * 4 + 1, none⟩ = some (.int .i64 ((rd_T66 x0_1 x5_1).f1.f0)) := hcc5 1 _ rfl
   have hx5_2 : wr.cell? ⟨go5, (x5_1 : Int).toNat * 4 + 2, none⟩ = some (.int .i64 ((rd_T66 x0_1 x5_1).f1.f1)) := hcc5 2 _ rfl
   have hx5_3 : wr.cell? ⟨go5, (x5_1 : Int).toNat * 4 + 3, none⟩ = some (.int .i64 ((rd_T66 x0_1 x5_1).f1.f2)) := hcc5 3 _ rfl
   have hf5_0 : wr.frozen? ⟨go5, (x5_1 : Int).toNat * 4, none⟩ = false := hfr5 0
   have hf5_1 : wr.frozen? ⟨go5, (x5_1 : Int).toNat * 4 + 1, none⟩ = false := hfr5 1
   have hf5_2 : wr.frozen? ⟨go5, (x5_1 : Int).toNat * 4 + 2, none⟩ = false := hfr5 2
   have hf5_3 : wr.frozen? ⟨go5, (x5_1 : Int).toNat * 4 + 3, none⟩ = false := hfr5 3
   (try clear hM5); clear hcl5 hcc5 hfr5
   replace p5 := eq_true p5
   replace q5 := eq_true q5
   have HX10 := Aside0.mk (show Kd.R k66 66 wr w0.heap.size (fun k_ => (P0_ k_ ∨ w.heap.size <= k_)) (.slice (some ⟨go5, 0, none⟩) x0_1.length co9) x0_1 from (PR HO_0.1))
   obtain ⟨ce10, hcl10, hM10, hcc10, hfr10⟩ := R_elem HX10.1 z66 (x5_1 : Int) (OD) (by have h_ : (x5_1 : Int) < ((x0_1.length : Int) : Int) := OD; first | exact h_ | (have e_ := (R_reads' HO_0.1).1; omega) | simpa using h_)
   obtain rfl := k66_openM hM10
   have HP10 := R_seg HX10.1 (x5_1 : Int) (OD) (by have h_ : (x5_1 : Int) < ((x0_1.length : Int) : Int) := OD; first | exact h_ | (have e_ := (R_reads' HO_0.1).1; omega) | simpa using h_) (seg := [.int .i64 x1_1]) (j := 0) hcl10 hcc10 (show 1 <= 4 from by decide) (x' := (⟨x1_1, (⟨(rd_T66 x0_1 x5_1).f1.f0, (rd_T66 x0_1 x5_1).f1.f1, (rd_T66 x0_1 x5_1).f1.f2⟩ : S61)⟩ : S66)) (k66_mkM _ _ _ (⟨x1_1, (⟨(rd_T66 x0_1 x5_1).f1.f0, (rd_T66 x0_1 x5_1).f1.f1, (rd_T66 x0_1 x5_1).f1.f2⟩ : S61)⟩ : S66) ) (fun _ hk => hk)
   have hx10_0 := hcc10 0 _ rfl
   (try simp only [show (k66).sz = 4 from rfl, Nat.mul_one, Nat.add_zero] at hx10_0)
   have hf10_0 := hfr10 0
   (try simp only [show (k66).sz = 4 from rfl, Nat.mul_one, Nat.add_zero] at hf10_0)
   (try clear hM10); clear hcl10 hcc10 hfr10
   go_wp2_with (first | ((with_reducible refine gate_store (t := 3) (p := 16) rfl ?_); refine storeE (t := 3) (p := 16) (w1 := (wr.setCell ⟨go5, (x5_1 : Int).toNat * 4, none⟩ (.int .i64 x1_1))) ?_; intro w11 hw; have hg : wr.grownBy w11 (some go5) := (by rw [hw]; exact HP10.2); have hp_ : Kd.R k66 66 w11 w0.heap.size (fun k_ => (P0_ k_ ∨ w.heap.size <= k_)) (.slice (some ⟨go5, 0, none⟩) x0_1.length co9) y586 := (by rw [hw, Ny586.1]; exact HP10.1); clear HP10; refine E3 (hp_) ((by rw [hw]; exact below_set (HB.1) GB5.1 : Below w0.heap.size w0 w11)) (Kept.of_grown (S := (fun k_ => P0_ k_)) hg (KL HK.1) (fun k_ e_ => (HO_0.1.1 k_ e_))) ?_; clear HO_0 HB HK; intro HO_0 HB HK; clear hg hw hp_; have p6 : 0 <= (x5_1 : Int) := OD; have q6 : (x5_1 : Int) < ((x0_1.length : Int) : Int) := OD; obtain ⟨ce6, hcl6, hM6, hcc6, hfr6⟩ := R_elem HO_0.1 z66 (x5_1 : Int) p6 q6; obtain rfl := k66_openM hM6; have hx6_0 : w11.cell? ⟨go5, (x5_1 : Int).toNat * 4, none⟩ = some (.int .i64 ((rd_T66 y586 x5_1).f0)) := hcc6 0 _ rfl; have hx6_1 : w11.cell? ⟨go5, (x5_1 : Int).toNat * 4 + 1, none⟩ = some (.int .i64 ((rd_T66 y586 x5_1).f1.f0)) := hcc6 1 _ rfl; have hx6_2 : w11.cell? ⟨go5, (x5_1 : Int).toNat * 4 + 2, none⟩ = some (.int .i64 ((rd_T66 y586 x5_1).f1.f1)) := hcc6 2 _ rfl; have hx6_3 : w11.cell? ⟨go5, (x5_1 : Int).toNat * 4 + 3, none⟩ = some (.int .i64 ((rd_T66 y586 x5_1).f1.f2)) := hcc6 3 _ rfl; have hf6_0 : w11.frozen? ⟨go5, (x5_1 : Int).toNat * 4, none⟩ = false := hfr6 0; have hf6_1 : w11.frozen? ⟨go5, (x5_1 : Int).toNat * 4 + 1, none⟩ = false := hfr6 1; have hf6_2 : w11.frozen? ⟨go5, (x5_1 : Int).toNat * 4 + 2, none⟩ = false := hfr6 2; have hf6_3 : w11.frozen? ⟨go5, (x5_1 : Int).toNat * 4 + 3, none⟩ = false := hfr6 3; (try clear hM6); clear hcl6 hcc6 hfr6; replace p6 := eq_true p6; replace q6 := eq_true q6; have HX12 := Aside0.mk (show Kd.R k66 66 w11 w0.heap.size (fun k_ => (P0_ k_ ∨ w.heap.size <= k_)) (.slice (some ⟨go5, 0, none⟩) x0_1.length co9) y586 from (PR HO_0.1)); obtain ⟨ce12, hcl12, hM12, hcc12, hfr12⟩ := R_elem HX12.1 z66 (x5_1 : Int) (OD) (by have h_ : (x5_1 : Int) < ((x0_1.length : Int) : Int) := OD; first | exact h_ | (have e_ := (R_reads' HO_0.1).1; omega) | simpa using h_); obtain rfl := k66_openM hM12; have HP12 := R_seg HX12.1 (x5_1 : Int) (OD) (by have h_ : (x5_1 : Int) < ((x0_1.length : Int) : Int) := OD; first | exact h_ | (have e_ := (R_reads' HO_0.1).1; omega) | simpa using h_) (seg := [.int .i64 (wrap64 (x1_1 + 1))]) (j := 1) hcl12 hcc12 (show 2 <= 4 from by decide) (x' := (⟨(rd_T66 y586 x5_1).f0, (⟨wrap64 (x1_1 + 1), (rd_T66 y586 x5_1).f1.f1, (rd_T66 y586 x5_1).f1.f2⟩ : S61)⟩ : S66)) (k66_mkM _ _ _ (⟨(rd_T66 y586 x5_1).f0, (⟨wrap64 (x1_1 + 1), (rd_T66 y586 x5_1).f1.f1, (rd_T66 y586 x5_1).f1.f2⟩ : S61)⟩ : S66) ) (fun _ hk => hk); have hx12_1 := hcc12 1 _ rfl; (try simp only [show (k66).sz = 4 from rfl, Nat.mul_one, Nat.add_zero] at hx12_1); have hf12_1 := hfr12 1; (try simp only [show (k66).sz = 4 from rfl, Nat.mul_one, Nat.add_zero] at hf12_1); clear hcl12 hcc12 hfr12) | ((with_reducible refine gate_store (t := 3) (p := 24) rfl ?_); refine storeE (t := 3) (p := 24) (w1 := (w11.setCell ⟨go5, (x5_1 : Int).toNat * 4 + 1, none⟩ (.int .i64 (wrap64 (x1_1 + 1))))) ?_; intro w13 hw; have hg : w11.grownBy w13 (some go5) := (by rw [hw]; exact HP12.2); have hp_ : Kd.R k66 66 w13 w0.heap.size (fun k_ => (P0_ k_ ∨ w.heap.size <= k_)) (.slice (some ⟨go5, 0, none⟩) x0_1.length co9) y587 := (by rw [hw, Ny587.1]; exact HP12.1); clear HP12; refine E3 (hp_) ((by rw [hw]; exact below_set (HB.1) GB5.1 : Below w0.heap.size w0 w13)) (Kept.of_grown (S := (fun k_ => P0_ k_)) hg (KL HK.1) (fun k_ e_ => (HO_0.1.1 k_ e_))) ?_; clear HO_0 HB HK; intro HO_0 HB HK; clear hg hw hp_; have p7 : 0 <= (x5_1 : Int) := OD; have q7 : (x5_1 : Int) < ((x0_1.length : Int) : Int) := OD; obtain ⟨ce7, hcl7, hM7, hcc7, hfr7⟩ := R_elem HO_0.1 z66 (x5_1 : Int) p7 q7; obtain rfl := k66_openM hM7; have hx7_0 : w13.cell? ⟨go5, (x5_1 : Int).toNat * 4, none⟩ = some (.int .i64 ((rd_T66 y587 x5_1).f0)) := hcc7 0 _ rfl; have hx7_1 : w13.cell? ⟨go5, (x5_1 : Int).toNat * 4 + 1, none⟩ = some (.int .i64 ((rd_T66 y587 x5_1).f1.f0)) := hcc7 1 _ rfl; have hx7_2 : w13.cell? ⟨go5, (x5_1 : Int).toNat * 4 + 2, none⟩ = some (.int .i64 ((rd_T66 y587 x5_1).f1.f1)) := hcc7 2 _ rfl; have hx7_3 : w13.cell? ⟨go5, (x5_1 : Int).toNat * 4 + 3, none⟩ = some (.int .i64 ((rd_T66 y587 x5_1).f1.f2)) := hcc7 3 _ rfl; have hf7_0 : w13.frozen? ⟨go5, (x5_1 : Int).toNat * 4, none⟩ = false := hfr7 0; have hf7_1 : w13.frozen? ⟨go5, (x5_1 : Int).toNat * 4 + 1, none⟩ = false := hfr7 1; have hf7_2 : w13.frozen? ⟨go5, (x5_1 : Int).toNat * 4 + 2, none⟩ = false := hfr7 2; have hf7_3 : w13.frozen? ⟨go5, (x5_1 : Int).toNat * 4 + 3, none⟩ = false := hfr7 3; (try clear hM7); clear hcl7 hcc7 hfr7; replace p7 := eq_true p7; replace q7 := eq_true q7; have HX14 := Aside0.mk (show Kd.R k66 66 w13 w0.heap.size (fun k_ => (P0_ k_ ∨ w.heap.size <= k_)) (.slice (some ⟨go5, 0, none⟩) x0_1.length co9) y587 from (PR HO_0.1)); obtain ⟨ce14, hcl14, hM14, hcc14, hfr14⟩ := R_elem HX14.1 z66 (x5_1 : Int) (OD) (by have h_ : (x5_1 : Int) < ((x0_1.length : Int) : Int) := OD; first | exact h_ | (have e_ := (R_reads' HO_0.1).1; omega) | simpa using h_); obtain rfl := k66_openM hM14; have HP14 := R_seg HX14.1 (x5_1 : Int) (OD) (by have h_ : (x5_1 : Int) < ((x0_1.length : Int) : Int) := OD; first | exact h_ | (have e_ := (R_reads' HO_0.1).1; omega) | simpa using h_) (seg := [.int .i64 (wrap64 ((wrap64 (x1_1 + 1)) + 1))]) (j := 2) hcl14 hcc14 (show 3 <= 4 from by decide) (x' := (⟨(rd_T66 y587 x5_1).f0, (⟨(rd_T66 y587 x5_1).f1.f0, wrap64 ((wrap64 (x1_1 + 1)) + 1), (rd_T66 y587 x5_1).f1.f2⟩ : S61)⟩ : S66)) (k66_mkM _ _ _ (⟨(rd_T66 y587 x5_1).f0, (⟨(rd_T66 y587 x5_1).f1.f0, wrap64 ((wrap64 (x1_1 + 1)) + 1), (rd_T66 y587 x5_1).f1.f2⟩ : S61)⟩ : S66) ) (fun _ hk => hk); have hx14_2 := hcc14 2 _ rfl; (try simp only [show (k66).sz = 4 from rfl, Nat.mul_one, Nat.add_zero] at hx14_2); have hf14_2 := hfr14 2; (try simp only [show (k66).sz = 4 from rfl, Nat.mul_one, Nat.add_zero] at hf14_2); clear hcl14 hcc14 hfr14) | ((with_reducible refine gate_store (t := 3) (p := 32) rfl ?_); refine storeE (t := 3) (p := 32) (w1 := (w13.setCell ⟨go5, (x5_1 : Int).toNat * 4 + 2, none⟩ (.int .i64 (wrap64 ((wrap64 (x1_1 + 1)) + 1))))) ?_; intro w15 hw; have hg : w13.grownBy w15 (some go5) := (by rw [hw]; exact HP14.2); have hp_ : Kd.R k66 66 w15 w0.heap.size (fun k_ => (P0_ k_ ∨ w.heap.size <= k_)) (.slice (some ⟨go5, 0, none⟩) x0_1.length co9) y588 := (by rw [hw, Ny588.1]; exact HP14.1); clear HP14; refine E3 (hp_) ((by rw [hw]; exact below_set (HB.1) GB5.1 : Below w0.heap.size w0 w15)) (Kept.of_grown (S := (fun k_ => P0_ k_)) hg (KL HK.1) (fun k_ e_ => (HO_0.1.1 k_ e_))) ?_; clear HO_0 HB HK; intro HO_0 HB HK; clear hg hw hp_; have p8 : 0 <= (x5_1 : Int) := OD; have q8 : (x5_1 : Int) < ((x0_1.length : Int) : Int) := OD; obtain ⟨ce8, hcl8, hM8, hcc8, hfr8⟩ := R_elem HO_0.1 z66 (x5_1 : Int) p8 q8; obtain rfl := k66_openM hM8; have hx8_0 : w15.cell? ⟨go5, (x5_1 : Int).toNat * 4, none⟩ = some (.int .i64 ((rd_T66 y588 x5_1).f0)) := hcc8 0 _ rfl; have hx8_1 : w15.cell? ⟨go5, (x5_1 : Int).toNat * 4 + 1, none⟩ = some (.int .i64 ((rd_T66 y588 x5_1).f1.f0)) := hcc8 1 _ rfl; have hx8_2 : w15.cell? ⟨go5, (x5_1 : Int).toNat * 4 + 2, none⟩ = some (.int .i64 ((rd_T66 y588 x5_1).f1.f1)) := hcc8 2 _ rfl; have hx8_3 : w15.cell? ⟨go5, (x5_1 : Int).toNat * 4 + 3, none⟩ = some (.int .i64 ((rd_T66 y588 x5_1).f1.f2)) := hcc8 3 _ rfl; have hf8_0 : w15.frozen? ⟨go5, (x5_1 : Int).toNat * 4, none⟩ = false := hfr8 0; have hf8_1 : w15.frozen? ⟨go5, (x5_1 : Int).toNat * 4 + 1, none⟩ = false := hfr8 1; have hf8_2 : w15.frozen? ⟨go5, (x5_1 : Int).toNat * 4 + 2, none⟩ = false := hfr8 2; have hf8_3 : w15.frozen? ⟨go5, (x5_1 : Int).toNat * 4 + 3, none⟩ = false := hfr8 3; (try clear hM8); clear hcl8 hcc8 hfr8; replace p8 := eq_true p8; replace q8 := eq_true q8; have HX16 := Aside0.mk (show Kd.R k66 66 w15 w0.heap.size (fun k_ => (P0_ k_ ∨ w.heap.size <= k_)) (.slice (some ⟨go5, 0, none⟩) x0_1.length co9) y588 from (PR HO_0.1)); obtain ⟨ce16, hcl16, hM16, hcc16, hfr16⟩ := R_elem HX16.1 z66 (x5_1 : Int) (OD) (by have h_ : (x5_1 : Int) < ((x0_1.length : Int) : Int) := OD; first | exact h_ | (have e_ := (R_reads' HO_0.1).1; omega) | simpa using h_); obtain rfl := k66_openM hM16; have HP16 := R_seg HX16.1 (x5_1 : Int) (OD) (by have h_ : (x5_1 : Int) < ((x0_1.length : Int) : Int) := OD; first | exact h_ | (have e_ := (R_reads' HO_0.1).1; omega) | simpa using h_) (seg := [.int .i64 (wrap64 ((wrap64 ((wrap64 (x1_1 + 1)) + 1)) + 1))]) (j := 3) hcl16 hcc16 (show 4 <= 4 from by decide) (x' := (⟨(rd_T66 y588 x5_1).f0, (⟨(rd_T66 y588 x5_1).f1.f0, (rd_T66 y588 x5_1).f1.f1, wrap64 ((wrap64 ((wrap64 (x1_1 + 1)) + 1)) + 1)⟩ : S61)⟩ : S66)) (k66_mkM _ _ _ (⟨(rd_T66 y588 x5_1).f0, (⟨(rd_T66 y588 x5_1).f1.f0, (rd_T66 y588 x5_1).f1.f1, wrap64 ((wrap64 ((wrap64 (x1_1 + 1)) + 1)) + 1)⟩ : S61)⟩ : S66) ) (fun _ hk => hk); have hx16_3 := hcc16 3 _ rfl; (try simp only [show (k66).sz = 4 from rfl, Nat.mul_one, Nat.add_zero] at hx16_3); have hf16_3 := hfr16 3; (try simp only [show (k66).sz = 4 from rfl, Nat.mul_one, Nat.add_zero] at hf16_3); clear hcl16 hcc16 hfr16) | ((with_reducible refine gate_store (t := 3) (p := 40) rfl ?_); refine storeE (t := 3) (p := 40) (w1 := (w15.setCell ⟨go5, (x5_1 : Int).toNat * 4 + 3, none⟩ (.int .i64 (wrap64 ((wrap64 ((wrap64 (x1_1 + 1)) + 1)) + 1))))) ?_; intro w17 hw; have hg : w15.grownBy w17 (some go5) := (by rw [hw]; exact HP16.2); have hp_ : Kd.R k66 66 w17 w0.heap.size (fun k_ => (P0_ k_ ∨ w.heap.size <= k_)) (.slice (some ⟨go5, 0, none⟩) x0_1.length co9) y589 := (by rw [hw, Ny589.1]; exact HP16.1); clear HP16; refine E3 (hp_) ((by rw [hw]; exact below_set (HB.1) GB5.1 : Below w0.heap.size w0 w17)) (Kept.of_grown (S := (fun k_ => P0_ k_)) hg (KL HK.1) (fun k_ e_ => (HO_0.1.1 k_ e_))) ?_; clear HO_0 HB HK; intro HO_0 HB HK; clear hg hw hp_))
   go_roundg k1
   case measure => have := HK1.1; omega
   case rel => exact ⟨(y589), (wrap64 ((wrap64 ((wrap64 ((wrap64 (x1_1 + 1)) + 1)) + 1)) + 1)), (wrap64 (x5_1 + 1)), RG, RG, H', ⟨by have := HK1.1; omega⟩, ⟨PR HO_0.1⟩, ⟨KL HK.1⟩, ⟨BL HB.1⟩⟩
 simp only [Option.some.injEq, Prod.mk.injEq] at H
 obtain ⟨rfl, rfl⟩ := H
 obtain ⟨Ao18, co18, eo18⟩ := R_slice HO_0.1
 subst eo18
 go_wp2
 go_ret
 exact ⟨RF, RPE (HO_0.1), BL HB.1, KL HK.1⟩
end Go.Proofs.Ythnehlphifegaaa.P
