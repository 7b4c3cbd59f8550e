-- PRINTED by print.py (a twelfth state) out of the translation. Not trusted: Lean checks it.
import Derived.Test.YthnehlphifegaaaPx0
namespace Go.Proofs.Ythnehlphifegaaa.P
open Go.RowKit Go.Proofs.YthnehlphifegaaaW.PrintWords Go.Proofs.YthnehlphifegaaaW.PrintLast Go.Proofs.YthnehlphifegaaaW.PrintMore
attribute [local go_sem] max2_int min2_int max_two min_two max_three min_three max_four min_four   -- for this text's walks alone
set_option linter.unusedVariables false
set_option linter.unusedSimpArgs false

/-! ### laws_markLogEntryS: function 19 -/
open Kd
def laws_markLogEntryS.l0 : Nat -> List (S66) -> Int -> Int -> Option (Int × (List (S66)))
 | 0, _, _, _ => none
 | k + 1, x0, x1, x5 => if x5 < (x0.length : Int) then (if 0 <= x5 then ((some (x0.set (x5 : Int).toNat (⟨x1, (⟨(rd_T66 x0 x5).f1.f0, (rd_T66 x0 x5).f1.f1, (rd_T66 x0 x5).f1.f2⟩ : S61)⟩ : S66) : List (S66))).bind fun ai => ((some (ai.set (x5 : Int).toNat (⟨(rd_T66 ai x5).f0, (⟨wrap64 (x1 + 1), (rd_T66 ai x5).f1.f1, (rd_T66 ai x5).f1.f2⟩ : S61)⟩ : S66) : List (S66))).bind fun aj => ((some (aj.set (x5 : Int).toNat (⟨(rd_T66 aj x5).f0, (⟨(rd_T66 aj x5).f1.f0, wrap64 ((wrap64 (x1 + 1)) + 1), (rd_T66 aj x5).f1.f2⟩ : S61)⟩ : S66) : List (S66))).bind fun ag => (laws_markLogEntryS.l0 k (ag.set (x5 : Int).toNat (⟨(rd_T66 ag x5).f0, (⟨(rd_T66 ag x5).f1.f0, (rd_T66 ag x5).f1.f1, wrap64 ((wrap64 ((wrap64 (x1 + 1)) + 1)) + 1)⟩ : S61)⟩ : S66)) (wrap64 ((wrap64 ((wrap64 ((wrap64 (x1 + 1)) + 1)) + 1)) + 1)) (wrap64 (x5 + 1)))))) else (none)) else (some (x1, x0))
def laws_markLogEntryS.f (k : Nat) (l0 : List (S66)) (a1 : Int) : Option (Int × (List (S66))) := laws_markLogEntryS.l0 k l0 a1 0
theorem laws_markLogEntryS.mono_l : ∀ k, (∀ y0 y1 y2, LeO (laws_markLogEntryS.l0 k y0 y1 y2) (laws_markLogEntryS.l0 (k + 1) y0 y1 y2))
 | 0 => fun _ _ _ r h => by simp [laws_markLogEntryS.l0] at h
 | k + 1 => by
  have bN := laws_markLogEntryS.mono_l k
  intros
  first | unfold laws_markLogEntryS.l0
  exact LM1 bN
theorem laws_markLogEntryS.mono : ∀ a0 a1 k, LeO (laws_markLogEntryS.f k a0 a1) (laws_markLogEntryS.f (k + 1) a0 a1) := by
 intro a0 a1 k
 have bN := laws_markLogEntryS.mono_l k
 unfold laws_markLogEntryS.f
 exact LM1 bN
set_option maxHeartbeats 8000000 in
set_option maxRecDepth 100000 in
theorem laws_markLogEntryS.calls (k : Nat) (au : Nat -> Prop) (ak : Value) (l0 : List (S66)) (a1 : Int) (r1 : Int) (r2 : List (S66)) (w0 w : World) (hB : Below w0.heap.size w0 w) (ho0 : Kd.R k66 66 w w0.heap.size au ak l0) (h : laws_markLogEntryS.f k l0 a1 = some (r1, r2)) :
 Calls Try.prog 19 #[ak, .int .i64 a1] w fun e w' => e = .returned (.int .i64 r1) /\ Kd.R k66 66 w' w0.heap.size (fun k_ => (au k_ ∨ w.heap.size <= k_)) ak r2 /\ Below w0.heap.size w0 w' /\ Kept w w' (fun k_ => au k_) := by
 have d9 := Aside0.mk (show Kd.R k66 66 w w0.heap.size (fun k_ => (au k_ ∨ w.heap.size <= k_)) ak l0 from R_mono ho0 (fun k_ hk => (.inl hk)))
 have HK := Aside0.mk (Kept.refl w (fun k_ => au k_))
 have HW0 := Aside0.mk hB.size
 have HB := Aside0.mk hB
 clear hB
 have H := h
 clear h
 unfold laws_markLogEntryS.f at H
 have H' := Aside0.mk H
 clear H
 go_enter Try.func19, Try.ntmps19
 go_wp2
 go_loopg [1, 5] k (fun kq v1 v5 w' => ∃ (ae : List (S66)) (ah : Int) (aa : Int), v1 = .int .i64 ah /\ v5 = .int .i64 aa /\ Aside0 (laws_markLogEntryS.l0 kq ae ah aa = some (r1, r2)) /\ Aside0 (kq <= k) /\ Aside0 (Kd.R k66 66 w' w0.heap.size (fun k_ => (au k_ ∨ w.heap.size <= k_)) ak ae) /\ Aside0 (Kept w w' (fun k_ => au k_)) /\ Aside0 (Below w0.heap.size w0 w'))
 case atStart => exact ⟨(l0), (a1), (0), RG, RG, H', ⟨Nat.le_refl _⟩, ⟨PR d9.1⟩, ⟨KL HK.1⟩, ⟨BL HB.1⟩⟩
 clear H'
 obtain ⟨ae, ah, aa, rfl, rfl, HA, bY, HO_0, HK, HB⟩ := hrel
 cases gk with
 | zero => exact absurd HA.1 (by simp [laws_markLogEntryS.l0])
 | succ k1 => ?_
 have H := HA.1
 clear HA
 simp only [laws_markLogEntryS.l0] at H
 replace H := ifB H; rcases H with ⟨c3b0, H⟩ | ⟨c3b0, H⟩
 · replace H := ifN H; obtain ⟨c4b0, H⟩ := H
   replace H := nameB H; obtain ⟨ai, bA, H⟩ := H
   replace H := nameB H; obtain ⟨aj, bC, H⟩ := H
   replace H := nameB H; obtain ⟨ag, bD, H⟩ := H
   generalize aM : ((ag.set (aa : Int).toNat (⟨(rd_T66 ag aa).f0, (⟨(rd_T66 ag aa).f1.f0, (rd_T66 ag aa).f1.f1, wrap64 ((wrap64 ((wrap64 (ah + 1)) + 1)) + 1)⟩ : S61)⟩ : S66)) : List (S66)) = bE at H
   have bF := Aside0.mk aM.symm; clear aM
   have H' := Aside0.mk H
   clear H
   obtain ⟨eO, aN, ed⟩ := R_slice HO_0.1
   subst ed
   have p5 : 0 <= (aa : Int) := OD
   have q5 : (aa : Int) < ((ae.length : Int) : Int) := OD
   obtain ⟨af, eP, cu, cz, ek, eQ, cB⟩ := R_form HO_0.1 (by omega)
   (first | cases cu | (injection cu with ea_ en_ ec_; (first | subst ea_ | (injection ea_ with ea_; subst ea_)); subst ec_; clear en_))
   have bM := Aside0.mk cz
   have eT := Aside0.mk cB
   clear cz ek cB
   have HMgo5 := Aside0.mk (show (au af ∨ w.heap.size <= af) from (HO_0.1.1 _ rfl))
   obtain ⟨eU, bO, cK, az, aA⟩ := R_elem HO_0.1 z66 (aa : Int) p5 q5
   obtain rfl := k66_openM cK
   have cO : wr.cell? ⟨af, (aa : Int).toNat * 4, none⟩ = some (.int .i64 ((rd_T66 ae aa).f0)) := az 0 _ rfl
   have cZ : wr.cell? ⟨af, (aa : Int).toNat * 4 + 1, none⟩ = some (.int .i64 ((rd_T66 ae aa).f1.f0)) := az 1 _ rfl
   have df : wr.cell? ⟨af, (aa : Int).toNat * 4 + 2, none⟩ = some (.int .i64 ((rd_T66 ae aa).f1.f1)) := az 2 _ rfl
   have dh : wr.cell? ⟨af, (aa : Int).toNat * 4 + 3, none⟩ = some (.int .i64 ((rd_T66 ae aa).f1.f2)) := az 3 _ rfl
   have di : wr.frozen? ⟨af, (aa : Int).toNat * 4, none⟩ = false := aA 0
   have dm : wr.frozen? ⟨af, (aa : Int).toNat * 4 + 1, none⟩ = false := aA 1
   have dn : wr.frozen? ⟨af, (aa : Int).toNat * 4 + 2, none⟩ = false := aA 2
   have dw : wr.frozen? ⟨af, (aa : Int).toNat * 4 + 3, none⟩ = false := aA 3
   (try clear cK); clear bO az aA
   replace p5 := eq_true p5
   replace q5 := eq_true q5
   have bH := Aside0.mk (show Kd.R k66 66 wr w0.heap.size (fun k_ => (au k_ ∨ w.heap.size <= k_)) (.slice (some ⟨af, 0, none⟩) ae.length aN) ae from (PR HO_0.1))
   obtain ⟨eu, aO, bI, aB, aP⟩ := R_elem bH.1 z66 (aa : Int) (OD) (by have h_ : (aa : Int) < ((ae.length : Int) : Int) := OD; first | exact h_ | (have e_ := (R_reads' HO_0.1).1; omega) | simpa using h_)
   obtain rfl := k66_openM bI
   have aW := R_seg bH.1 (aa : Int) (OD) (by have h_ : (aa : Int) < ((ae.length : Int) : Int) := OD; first | exact h_ | (have e_ := (R_reads' HO_0.1).1; omega) | simpa using h_) (seg := [.int .i64 ah]) (j := 0) aO aB (show 1 <= 4 from by decide) (x' := (⟨ah, (⟨(rd_T66 ae aa).f1.f0, (rd_T66 ae aa).f1.f1, (rd_T66 ae aa).f1.f2⟩ : S61)⟩ : S66)) (k66_mkM _ _ _ (⟨ah, (⟨(rd_T66 ae aa).f1.f0, (rd_T66 ae aa).f1.f1, (rd_T66 ae aa).f1.f2⟩ : S61)⟩ : S66) ) (fun _ hk => hk)
   have aX := aB 0 _ rfl
   (try simp only [show (k66).sz = 4 from rfl, Nat.mul_one, Nat.add_zero] at aX)
   have aY := aP 0
   (try simp only [show (k66).sz = 4 from rfl, Nat.mul_one, Nat.add_zero] at aY)
   (try clear bI); clear aO aB aP
   go_wp2_with (first | ((with_reducible refine gate_store (t := 3) (p := 16) rfl ?_); refine storeE (t := 3) (p := 16) (w1 := (wr.setCell ⟨af, (aa : Int).toNat * 4, none⟩ (.int .i64 ah))) ?_; intro av hw; have hg : wr.grownBy av (some af) := (by rw [hw]; exact aW.2); have hp_ : Kd.R k66 66 av w0.heap.size (fun k_ => (au k_ ∨ w.heap.size <= k_)) (.slice (some ⟨af, 0, none⟩) ae.length aN) ai := (by rw [hw, bA.1]; exact aW.1); clear aW; refine E3 (hp_) ((by rw [hw]; exact below_set (HB.1) bM.1 : Below w0.heap.size w0 av)) (Kept.of_grown (S := (fun k_ => au k_)) hg (KL HK.1) (fun k_ e_ => (HO_0.1.1 k_ e_))) ?_; clear HO_0 HB HK; intro HO_0 HB HK; clear hg hw hp_; have p6 : 0 <= (aa : Int) := OD; have q6 : (aa : Int) < ((ae.length : Int) : Int) := OD; obtain ⟨eX, bP, dx, aC, aD⟩ := R_elem HO_0.1 z66 (aa : Int) p6 q6; obtain rfl := k66_openM dx; have dz : av.cell? ⟨af, (aa : Int).toNat * 4, none⟩ = some (.int .i64 ((rd_T66 ai aa).f0)) := aC 0 _ rfl; have dA : av.cell? ⟨af, (aa : Int).toNat * 4 + 1, none⟩ = some (.int .i64 ((rd_T66 ai aa).f1.f0)) := aC 1 _ rfl; have dB : av.cell? ⟨af, (aa : Int).toNat * 4 + 2, none⟩ = some (.int .i64 ((rd_T66 ai aa).f1.f1)) := aC 2 _ rfl; have dC : av.cell? ⟨af, (aa : Int).toNat * 4 + 3, none⟩ = some (.int .i64 ((rd_T66 ai aa).f1.f2)) := aC 3 _ rfl; have dD : av.frozen? ⟨af, (aa : Int).toNat * 4, none⟩ = false := aD 0; have dE : av.frozen? ⟨af, (aa : Int).toNat * 4 + 1, none⟩ = false := aD 1; have dF : av.frozen? ⟨af, (aa : Int).toNat * 4 + 2, none⟩ = false := aD 2; have dG : av.frozen? ⟨af, (aa : Int).toNat * 4 + 3, none⟩ = false := aD 3; (try clear dx); clear bP aC aD; replace p6 := eq_true p6; replace q6 := eq_true q6; have bJ := Aside0.mk (show Kd.R k66 66 av w0.heap.size (fun k_ => (au k_ ∨ w.heap.size <= k_)) (.slice (some ⟨af, 0, none⟩) ae.length aN) ai from (PR HO_0.1)); obtain ⟨eB, aQ, bQ, aF, aR⟩ := R_elem bJ.1 z66 (aa : Int) (OD) (by have h_ : (aa : Int) < ((ae.length : Int) : Int) := OD; first | exact h_ | (have e_ := (R_reads' HO_0.1).1; omega) | simpa using h_); obtain rfl := k66_openM bQ; have aZ := R_seg bJ.1 (aa : Int) (OD) (by have h_ : (aa : Int) < ((ae.length : Int) : Int) := OD; first | exact h_ | (have e_ := (R_reads' HO_0.1).1; omega) | simpa using h_) (seg := [.int .i64 (wrap64 (ah + 1))]) (j := 1) aQ aF (show 2 <= 4 from by decide) (x' := (⟨(rd_T66 ai aa).f0, (⟨wrap64 (ah + 1), (rd_T66 ai aa).f1.f1, (rd_T66 ai aa).f1.f2⟩ : S61)⟩ : S66)) (k66_mkM _ _ _ (⟨(rd_T66 ai aa).f0, (⟨wrap64 (ah + 1), (rd_T66 ai aa).f1.f1, (rd_T66 ai aa).f1.f2⟩ : S61)⟩ : S66) ) (fun _ hk => hk); have bf := aF 1 _ rfl; (try simp only [show (k66).sz = 4 from rfl, Nat.mul_one, Nat.add_zero] at bf); have bg := aR 1; (try simp only [show (k66).sz = 4 from rfl, Nat.mul_one, Nat.add_zero] at bg); clear aQ aF aR) | ((with_reducible refine gate_store (t := 3) (p := 24) rfl ?_); refine storeE (t := 3) (p := 24) (w1 := (av.setCell ⟨af, (aa : Int).toNat * 4 + 1, none⟩ (.int .i64 (wrap64 (ah + 1))))) ?_; intro ax hw; have hg : av.grownBy ax (some af) := (by rw [hw]; exact aZ.2); have hp_ : Kd.R k66 66 ax w0.heap.size (fun k_ => (au k_ ∨ w.heap.size <= k_)) (.slice (some ⟨af, 0, none⟩) ae.length aN) aj := (by rw [hw, bC.1]; exact aZ.1); clear aZ; refine E3 (hp_) ((by rw [hw]; exact below_set (HB.1) bM.1 : Below w0.heap.size w0 ax)) (Kept.of_grown (S := (fun k_ => au k_)) hg (KL HK.1) (fun k_ e_ => (HO_0.1.1 k_ e_))) ?_; clear HO_0 HB HK; intro HO_0 HB HK; clear hg hw hp_; have p7 : 0 <= (aa : Int) := OD; have q7 : (aa : Int) < ((ae.length : Int) : Int) := OD; obtain ⟨eY, bR, dH, aG, aH⟩ := R_elem HO_0.1 z66 (aa : Int) p7 q7; obtain rfl := k66_openM dH; have dI : ax.cell? ⟨af, (aa : Int).toNat * 4, none⟩ = some (.int .i64 ((rd_T66 aj aa).f0)) := aG 0 _ rfl; have dJ : ax.cell? ⟨af, (aa : Int).toNat * 4 + 1, none⟩ = some (.int .i64 ((rd_T66 aj aa).f1.f0)) := aG 1 _ rfl; have dK : ax.cell? ⟨af, (aa : Int).toNat * 4 + 2, none⟩ = some (.int .i64 ((rd_T66 aj aa).f1.f1)) := aG 2 _ rfl; have dL : ax.cell? ⟨af, (aa : Int).toNat * 4 + 3, none⟩ = some (.int .i64 ((rd_T66 aj aa).f1.f2)) := aG 3 _ rfl; have dM : ax.frozen? ⟨af, (aa : Int).toNat * 4, none⟩ = false := aH 0; have dN : ax.frozen? ⟨af, (aa : Int).toNat * 4 + 1, none⟩ = false := aH 1; have dO : ax.frozen? ⟨af, (aa : Int).toNat * 4 + 2, none⟩ = false := aH 2; have dP : ax.frozen? ⟨af, (aa : Int).toNat * 4 + 3, none⟩ = false := aH 3; (try clear dH); clear bR aG aH; replace p7 := eq_true p7; replace q7 := eq_true q7; have bK := Aside0.mk (show Kd.R k66 66 ax w0.heap.size (fun k_ => (au k_ ∨ w.heap.size <= k_)) (.slice (some ⟨af, 0, none⟩) ae.length aN) aj from (PR HO_0.1)); obtain ⟨eD, aS, bT, aI, aT⟩ := R_elem bK.1 z66 (aa : Int) (OD) (by have h_ : (aa : Int) < ((ae.length : Int) : Int) := OD; first | exact h_ | (have e_ := (R_reads' HO_0.1).1; omega) | simpa using h_); obtain rfl := k66_openM bT; have bi := R_seg bK.1 (aa : Int) (OD) (by have h_ : (aa : Int) < ((ae.length : Int) : Int) := OD; first | exact h_ | (have e_ := (R_reads' HO_0.1).1; omega) | simpa using h_) (seg := [.int .i64 (wrap64 ((wrap64 (ah + 1)) + 1))]) (j := 2) aS aI (show 3 <= 4 from by decide) (x' := (⟨(rd_T66 aj aa).f0, (⟨(rd_T66 aj aa).f1.f0, wrap64 ((wrap64 (ah + 1)) + 1), (rd_T66 aj aa).f1.f2⟩ : S61)⟩ : S66)) (k66_mkM _ _ _ (⟨(rd_T66 aj aa).f0, (⟨(rd_T66 aj aa).f1.f0, wrap64 ((wrap64 (ah + 1)) + 1), (rd_T66 aj aa).f1.f2⟩ : S61)⟩ : S66) ) (fun _ hk => hk); have bn := aI 2 _ rfl; (try simp only [show (k66).sz = 4 from rfl, Nat.mul_one, Nat.add_zero] at bn); have bq := aT 2; (try simp only [show (k66).sz = 4 from rfl, Nat.mul_one, Nat.add_zero] at bq); clear aS aI aT) | ((with_reducible refine gate_store (t := 3) (p := 32) rfl ?_); refine storeE (t := 3) (p := 32) (w1 := (ax.setCell ⟨af, (aa : Int).toNat * 4 + 2, none⟩ (.int .i64 (wrap64 ((wrap64 (ah + 1)) + 1))))) ?_; intro ay hw; have hg : ax.grownBy ay (some af) := (by rw [hw]; exact bi.2); have hp_ : Kd.R k66 66 ay w0.heap.size (fun k_ => (au k_ ∨ w.heap.size <= k_)) (.slice (some ⟨af, 0, none⟩) ae.length aN) ag := (by rw [hw, bD.1]; exact bi.1); clear bi; refine E3 (hp_) ((by rw [hw]; exact below_set (HB.1) bM.1 : Below w0.heap.size w0 ay)) (Kept.of_grown (S := (fun k_ => au k_)) hg (KL HK.1) (fun k_ e_ => (HO_0.1.1 k_ e_))) ?_; clear HO_0 HB HK; intro HO_0 HB HK; clear hg hw hp_; have p8 : 0 <= (aa : Int) := OD; have q8 : (aa : Int) < ((ae.length : Int) : Int) := OD; obtain ⟨eZ, bU, dQ, aJ, aK⟩ := R_elem HO_0.1 z66 (aa : Int) p8 q8; obtain rfl := k66_openM dQ; have dR : ay.cell? ⟨af, (aa : Int).toNat * 4, none⟩ = some (.int .i64 ((rd_T66 ag aa).f0)) := aJ 0 _ rfl; have dS : ay.cell? ⟨af, (aa : Int).toNat * 4 + 1, none⟩ = some (.int .i64 ((rd_T66 ag aa).f1.f0)) := aJ 1 _ rfl; have dU : ay.cell? ⟨af, (aa : Int).toNat * 4 + 2, none⟩ = some (.int .i64 ((rd_T66 ag aa).f1.f1)) := aJ 2 _ rfl; have dV : ay.cell? ⟨af, (aa : Int).toNat * 4 + 3, none⟩ = some (.int .i64 ((rd_T66 ag aa).f1.f2)) := aJ 3 _ rfl; have dW : ay.frozen? ⟨af, (aa : Int).toNat * 4, none⟩ = false := aK 0; have dX : ay.frozen? ⟨af, (aa : Int).toNat * 4 + 1, none⟩ = false := aK 1; have dY : ay.frozen? ⟨af, (aa : Int).toNat * 4 + 2, none⟩ = false := aK 2; have dZ : ay.frozen? ⟨af, (aa : Int).toNat * 4 + 3, none⟩ = false := aK 3; (try clear dQ); clear bU aJ aK; replace p8 := eq_true p8; replace q8 := eq_true q8; have bL := Aside0.mk (show Kd.R k66 66 ay w0.heap.size (fun k_ => (au k_ ∨ w.heap.size <= k_)) (.slice (some ⟨af, 0, none⟩) ae.length aN) ag from (PR HO_0.1)); obtain ⟨eF, aU, bV, aL, aV⟩ := R_elem bL.1 z66 (aa : Int) (OD) (by have h_ : (aa : Int) < ((ae.length : Int) : Int) := OD; first | exact h_ | (have e_ := (R_reads' HO_0.1).1; omega) | simpa using h_); obtain rfl := k66_openM bV; have bu := R_seg bL.1 (aa : Int) (OD) (by have h_ : (aa : Int) < ((ae.length : Int) : Int) := OD; first | exact h_ | (have e_ := (R_reads' HO_0.1).1; omega) | simpa using h_) (seg := [.int .i64 (wrap64 ((wrap64 ((wrap64 (ah + 1)) + 1)) + 1))]) (j := 3) aU aL (show 4 <= 4 from by decide) (x' := (⟨(rd_T66 ag aa).f0, (⟨(rd_T66 ag aa).f1.f0, (rd_T66 ag aa).f1.f1, wrap64 ((wrap64 ((wrap64 (ah + 1)) + 1)) + 1)⟩ : S61)⟩ : S66)) (k66_mkM _ _ _ (⟨(rd_T66 ag aa).f0, (⟨(rd_T66 ag aa).f1.f0, (rd_T66 ag aa).f1.f1, wrap64 ((wrap64 ((wrap64 (ah + 1)) + 1)) + 1)⟩ : S61)⟩ : S66) ) (fun _ hk => hk); have bv := aL 3 _ rfl; (try simp only [show (k66).sz = 4 from rfl, Nat.mul_one, Nat.add_zero] at bv); have bz := aV 3; (try simp only [show (k66).sz = 4 from rfl, Nat.mul_one, Nat.add_zero] at bz); clear aU aL aV) | ((with_reducible refine gate_store (t := 3) (p := 40) rfl ?_); refine storeE (t := 3) (p := 40) (w1 := (ay.setCell ⟨af, (aa : Int).toNat * 4 + 3, none⟩ (.int .i64 (wrap64 ((wrap64 ((wrap64 (ah + 1)) + 1)) + 1))))) ?_; intro bW hw; have hg : ay.grownBy bW (some af) := (by rw [hw]; exact bu.2); have hp_ : Kd.R k66 66 bW w0.heap.size (fun k_ => (au k_ ∨ w.heap.size <= k_)) (.slice (some ⟨af, 0, none⟩) ae.length aN) bE := (by rw [hw, bF.1]; exact bu.1); clear bu; refine E3 (hp_) ((by rw [hw]; exact below_set (HB.1) bM.1 : Below w0.heap.size w0 bW)) (Kept.of_grown (S := (fun k_ => au k_)) hg (KL HK.1) (fun k_ e_ => (HO_0.1.1 k_ e_))) ?_; clear HO_0 HB HK; intro HO_0 HB HK; clear hg hw hp_))
   go_roundg k1
   case measure => have := bY.1; omega
   case rel => exact ⟨(bE), (wrap64 ((wrap64 ((wrap64 ((wrap64 (ah + 1)) + 1)) + 1)) + 1)), (wrap64 (aa + 1)), RG, RG, H', ⟨by have := bY.1; omega⟩, ⟨PR HO_0.1⟩, ⟨KL HK.1⟩, ⟨BL HB.1⟩⟩
 simp only [Option.some.injEq, Prod.mk.injEq] at H
 obtain ⟨rfl, rfl⟩ := H
 obtain ⟨eG, eH, bX⟩ := R_slice HO_0.1
 subst bX
 go_wp2
 go_ret
 exact ⟨RF, RPE (HO_0.1), BL HB.1, KL HK.1⟩
end Go.Proofs.Ythnehlphifegaaa.P
