-- PRINTED by print.py (a twelfth state) out of the translation. Not trusted: Lean checks it.
import Derived.Test.YthfnceilapgloaaPx0
import Derived.Test.YthfnceilapgloaaPx2
import Derived.Test.YthfnceilapgloaaPx3
import Derived.Test.YthfnceilapgloaaPx4
namespace Go.Proofs.Ythfnceilapgloaa.P
open Go.RowKit Go.Proofs.YthfnceilapgloaaW.PrintWords Go.Proofs.YthfnceilapgloaaW.PrintLast Go.Proofs.YthfnceilapgloaaW.PrintMore
attribute [local go_sem] max2_int min2_int max_two min_two max_three min_three max_four min_four   -- for this text's walks alone
set_option linter.unusedVariables false
set_option linter.unusedSimpArgs false
set_option maxHeartbeats 8000000
set_option maxRecDepth 100000

/-! ### impl_reordered: function 22 -/
open Kd
mutual
def impl_reordered.l0 : Nat -> List Int -> Int -> Int -> Int -> List Int -> Int -> List Int -> Option (Int × List Int)
 | 0, _, _, _, _, _, _, _ => none
 | k + 1, x1, x19, x20, x180000, x180001, x185000, x185001 => if x20 < x19 then (impl_reordered.l1 k x1 x20 0 x19 x20 x1 (x1.length : Int) 0 x180000 x180001 x185000 x185001) else (some (x185000, x185001))
def impl_reordered.l1 : Nat -> List Int -> Int -> Int -> Int -> Int -> List Int -> Int -> Int -> Int -> List Int -> Int -> List Int -> Option (Int × List Int)
 | 0, _, _, _, _, _, _, _, _, _, _, _, _ => none
 | k + 1, x1, x6, x7, x19, x20, x23, x24, x25, x180000, x180001, x185000, x185001 => if x25 < x24 then (if 0 <= x25 then (if x25 < (x23.length : Int) then (if 0 <= (rd x23 x25) then (impl_reordered.l1 k x1 x6 (Go.bits .or .i64 x7 (shl .i64 (Go.bits .and .i64 (shr .i64 x6 x25) 1) (rd x23 x25))) x19 x20 x23 x24 (wrap64 (x25 + 1)) x180000 x180001 x185000 x185001) else (none)) else (none)) else (none)) else (if 0 <= x7 then (if x7 < (x180001.length : Int) then (if 0 <= x6 then (if x6 < (x185001.length : Int) then (impl_reordered.l0 k x1 x19 (wrap64 (x20 + 1)) x180000 x180001 x185000 (x185001.set (x6 : Int).toNat (rd x180001 x7))) else (none)) else (none)) else (none)) else (none))
end
def impl_reordered.f (k : Nat) (a0_0 : Int) (l0_1 : List Int) (l1 : List Int) : Option (Int × List Int) := if 0 <= (l0_1.length : Int) then (if ((l0_1.length : Int) : Int).toNat <= 35184372088832 then ((some (List.replicate ((l0_1.length : Int) : Int).toNat 0 : List Int)).bind fun y181 => (impl_reordered.l0 k l1 (y181.length : Int) 0 a0_0 l0_1 a0_0 y181)) else (none)) else (none)
theorem impl_reordered.mono_l : ∀ k, (∀ y0 y1 y2 y3 y4 y5 y6, LeO (impl_reordered.l0 k y0 y1 y2 y3 y4 y5 y6) (impl_reordered.l0 (k + 1) y0 y1 y2 y3 y4 y5 y6)) /\ (∀ y0 y1 y2 y3 y4 y5 y6 y7 y8 y9 y10 y11, LeO (impl_reordered.l1 k y0 y1 y2 y3 y4 y5 y6 y7 y8 y9 y10 y11) (impl_reordered.l1 (k + 1) y0 y1 y2 y3 y4 y5 y6 y7 y8 y9 y10 y11))
 | 0 => by refine ⟨?_, ?_⟩ <;> (intros; intro r h; first | (simp [impl_reordered.l0] at h; done) | (simp [impl_reordered.l1] at h; done))
 | k + 1 => by
  obtain ⟨ih0, ih1⟩ := impl_reordered.mono_l k
  refine ⟨?_, ?_⟩ <;> (
   intros
   first | unfold impl_reordered.l0 | unfold impl_reordered.l1
   exact LM2 ih0 ih1)
theorem impl_reordered.mono : ∀ a0 a1 a2 k, LeO (impl_reordered.f k a0 a1 a2) (impl_reordered.f (k + 1) a0 a1 a2) := by
 intro a0 a1 a2 k
 obtain ⟨ih0, ih1⟩ := impl_reordered.mono_l k
 unfold impl_reordered.f
 exact LM2 ih0 ih1
def impl_reordered.T1 : Bool × List (List Nat × List Nat) := (true, [([], []), ([0], [0]), ([], []), ([2], [2]), ([3], [3]), ([4, 4], [4]), ([1, 5], [1, 5]), ([], []), ([7, 6, 0, 1, 2, 3, 4, 5, 6, 7], [6, 7])])
def impl_reordered.B1 : List Nat := [0, 1, 0, 4, 12, 28, 63, 0, 255]
theorem impl_reordered.tab1 : rtab .any (opsOf Try.f22 1) = impl_reordered.T1 := by kernel_rfl
theorem impl_reordered.bits1 : waitsOk impl_reordered.T1.2 impl_reordered.B1 = true := by kernel_rfl
def impl_reordered.T11 : Bool × List (List Nat × List Nat) := (true, [([], []), ([0], [0]), ([], []), ([], []), ([3], [3]), ([], []), ([4, 5], [4, 5]), ([6], [6]), ([1, 2, 0, 1, 2, 3, 4, 5, 6, 7], [1, 2]), ([8, 7, 0, 1, 2, 3, 4, 5, 6, 7], [7, 8])])
def impl_reordered.B11 : List Nat := [0, 1, 0, 0, 8, 0, 56, 120, 255, 511]
theorem impl_reordered.tab11 : rtab .any (opsOf Try.f22 11) = impl_reordered.T11 := by kernel_rfl
theorem impl_reordered.bits11 : waitsOk impl_reordered.T11.2 impl_reordered.B11 = true := by kernel_rfl
theorem impl_reordered.calls (k : Nat) (a0_0 : Int) (A0_1 : Option Addr) (c0_1 : Nat) (l0_1 : List Int) (A1 : Option Addr) (c1 : Nat) (l1 : List Int) (r1 : Int) (r2 : List Int) (w : World) (hr0_1 : Kd.C (Kd.int .i64) w A0_1 l0_1.length l0_1) (hc0_1 : l0_1.length <= c0_1) (hr1 : Kd.C (Kd.int .i64) w A1 l1.length l1) (hc1 : l1.length <= c1) (h : impl_reordered.f k a0_0 l0_1 l1 = some (r1, r2)) :
 Calls Try.prog 22 #[.agg #[.int .i64 a0_0, .slice A0_1 l0_1.length c0_1], .slice A1 l1.length c1] w fun e w' => ∃ v1_ : Value, e = .returned (.agg #[.int .i64 r1, v1_]) /\ Kd.R (Kd.int .i64) 3 w' w.heap.size (fun _ => True) v1_ r2 /\ Below w.heap.size w w' := by
 have hu28 := Try.underlying28
 have HR0_1 := Aside0.mk hr0_1
 have HC0_1 := Aside0.mk hc0_1
 clear hr0_1 hc0_1
 have HR1 := Aside0.mk hr1
 have HC1 := Aside0.mk hc1
 clear hr1 hc1
 have HB := Aside0.mk (Below.refl w.heap.size w)
 have H := h
 clear h
 unfold impl_reordered.f at H
 replace H := ifP H; obtain ⟨c3, H⟩ := H
 have c3b0 := eq_true c3
 have c3b1 := decide_eq_true c3
 clear c3
 replace H := ifP H; obtain ⟨c4, H⟩ := H
 have c4b0 := eq_true c4
 have c4b1 := decide_eq_true c4
 clear c4
 replace H := nameB H; obtain ⟨y181, Ny181, H⟩ := H
 have H' := Aside0.mk H
 clear H
 go_enter Try.func22, Try.ntmps22
 try go_wp2_with (first | ((with_reducible refine gate_dst (N := 2) rfl ?_); refine boxE (cs := #[.int .i64 a0_0, .slice A0_1 l0_1.length c0_1]) (t := 28) ?_; intro gb179 hg w5 hbox hb; refine E4b HB.1 hg hbox hb ?_; clear HB; intro HB BK179 GW179 GE179; clear hb hbox hg) | ((with_reducible refine gate_dst (N := 4) rfl ?_); refine boxE (cs := #[.int .i64 0, .slice none 0 0]) (t := 28) ?_; intro gb180 hg w6 hbox hb; refine E7 (bB BK179.1 hb) (bS HB.1 hb) (hbox) (gX HB.1 hg) (gX HB.1 hg) (nB BK179.1 hg) (nC BK179.1 hg) ?_; clear BK179 HB; intro BK179 HB BK180 GW180 GE180 NB179_180 NB180_179; clear hb hbox hg))
 refine E3 (blk_drew BK179.1) (blk_drew BK180.1) (below_drew1 HB.1) ?_
 clear BK179 BK180 HB
 intro BK179 BK180 HB
 refine start_ (n := 9) (S := fun w' => w'.cell? ⟨gb179, 0, none⟩ = some (.int .i64 a0_0) /\ w'.cell? ⟨gb179, 1, none⟩ = some (.slice A0_1 l0_1.length c0_1)) (ds := []) #[Zz,Zz,Zz,Zz,Zz,Zz,Zz,Zz,Zz] (by kernel_rfl) rfl rfl ⟨(blk_cell BK179.1 0).trans rfl, (blk_cell BK179.1 1).trans rfl⟩ (fun hHeld => ?_); refine with_tabW impl_reordered.tab1 impl_reordered.bits1 (fun HT_ HW_ => ?_)
 generalize w6.drew = w7 at BK179 BK180 HB hHeld ⊢
 refine pureF 0 (N := some 10) HT_.1 ?_
 refine pureF 2 (N := some 12) HT_.1 ?_
 refine takeE 1 (N := some 11) HT_.1 HW_.1 hHeld ?_
 refine takeE 3 (N := some 13) HT_.1 HW_.1 hHeld ?_
 refine pureF 4 (N := some 14) HT_.1 ?_
 refine join_ (σ := Value × Nat) 1 #[Yy,Yy,Yy,Yy,Yy,Yy,Yy,Yy,Zz] (fun s_ => [(15, s_.1), (5, .pointer (some ⟨s_.2, 0, none⟩)), (16, .agg #[.int .i64 a0_0, s_.1])]) (fun s_ w' => (w'.cell? ⟨gb179, 0, none⟩ = some (.int .i64 a0_0) /\ w'.cell? ⟨gb179, 1, none⟩ = some (.slice A0_1 l0_1.length c0_1)) /\ (Kd.R (Kd.int .i64) 3 w' w.heap.size (fun _ => True) s_.1 y181) /\ (w'.heap[gb179]? = some (.cells #[.int .i64 a0_0, .slice A0_1 l0_1.length c0_1] 28 (0, 0))) /\ (w'.heap[gb180]? = some (.cells #[.int .i64 0, .slice none 0 0] 28 (0, 0))) /\ (w'.heap[s_.2]? = some (.cells #[.int .i64 0, .slice none 0 0] 28 (0, 0))) /\ (w.heap.size <= s_.2) /\ (w.heap.size <= s_.2) /\ (gb179 ≠ s_.2) /\ (s_.2 ≠ gb179) /\ (gb180 ≠ s_.2) /\ (s_.2 ≠ gb180) /\ (Below w.heap.size w w')) ?_ ?_
 rotate_left
 · intro hCont
   refine two_ (i := 5) (j := 7) (Ni := some 15) (Nj := some 5) #[Yy,Yy,Yy,Yy,Yy,Yy,Zz,Zz,Zz] #[Yy,Yy,Yy,Yy,Yy,Zz,Zz,Yy,Zz] rfl rfl rfl rfl (two_of HT_.1 (by kernel_rfl)) (by decide) (by decide) (fun K hK => ?_) (fun K hK => ?_)
   · skip
     refine R_make_step (Kd.int .i64) _ 3 (by rfl) (N := 15) rfl 22 _ _ rfl (l0_1.length : Int) rfl rfl Try.underlying22 (.int .i64 0) 8 info3 rfl (by decide) (by omega) 0 (ok := fun _ => True) (okp := fun _ => True) rfl (fun _ hk => hk) trivial (OD) (Nat.le_trans (Nat.mul_le_mul_right _ (OD : (l0_1.length : Int).toNat <= 35184372088832)) (by omega)) (Below.refl _ _) (Nat.le_refl _) ?_
     intro v182 w8 ho9 hb hg_ hnew_
     clear hg_ hnew_
     (first | rw [<- Ny181.1] at ho9 | (simp only [Int.reduceToNat] at ho9; rw [<- Ny181.1] at ho9))
     refine E4 (R_lower ho9 (bZ HB.1)) (bB BK179.1 hb) (bB BK180.1 hb) (bS HB.1 hb) ?_
     clear BK179 BK180 HB
     intro HO183 BK179 BK180 HB
     clear hb ho9
     obtain ⟨Ao10, co10, eo10⟩ := R_slice HO183.1
     (first | subst eo10 | (injection eo10 with f1_ f2_ f3_; have f4_ := f1_.symm; have f5_ := f3_.symm; clear f1_ f2_ f3_; subst f4_; subst f5_))
     refine hK.out _ _ ⟨(blk_cell BK179.1 0).trans rfl, (blk_cell BK179.1 1).trans rfl⟩ (fun hHeld => ?_)
     clear hK K
     refine norm_ (a' := ?_) ?_ ?_
     rotate_left
     · show Act.put _ (some 15) _ = _
       simp only [Act.put, List.setIfInBounds_toArray, List.set_cons_zero, List.set_cons_succ, i64_w, i32_w]
       rfl
     refine pureF 6 (N := some 16) HT_.1 ?_
     refine one_ (i := 7) (N := some 5) #[Yy,Yy,Yy,Yy,Yy,Yy,Yy,Yy,Zz] rfl rfl (one_of HT_.1 (by kernel_rfl)) (by decide) (fun K hK => ?_)
     refine box_step ?hg (N := 5) ?hd (cs := #[.int .i64 0, .slice none 0 0]) (t := 28) ?hr ?_; (case hd => rfl); (case hg => rfl); (case hr => first | (go_simp; done) | (go_simp; rfl))
     intro gb184 hg w11 hbox hb
     refine E11 (rB HO183.1 hb) (bB BK179.1 hb) (bB BK180.1 hb) (bS HB.1 hb) (hbox) (gX HB.1 hg) (gX HB.1 hg) (nB BK179.1 hg) (nC BK179.1 hg) (nB BK180.1 hg) (nC BK180.1 hg) ?_
     clear HO183 BK179 BK180 HB
     intro HO183 BK179 BK180 HB BK184 GW184 GE184 NB179_184 NB184_179 NB180_184 NB184_180
     clear hb hbox hg
     refine hK.out _ _ ⟨(blk_cell BK179.1 0).trans rfl, (blk_cell BK179.1 1).trans rfl⟩ (fun hHeld => ?_)
     clear hK K
     refine norm_ (a' := ?_) ?_ ?_
     rotate_left
     · show Act.put _ (some 5) _ = _
       simp only [Act.put, List.setIfInBounds_toArray, List.set_cons_zero, List.set_cons_succ, i64_w, i32_w]
       rfl
     exact norm_ NA (hCont (.slice Ao10 y181.length co10, gb184) _ ⟨hHeld, (PR HO183.1), (PB BK179.1), (PB BK180.1), (PB BK184.1), GW184.1, GE184.1, NB179_184.1, NB184_179.1, NB180_184.1, NB184_180.1, (BL HB.1)⟩)
   skip
   refine box_step ?hg (N := 5) ?hd (cs := #[.int .i64 0, .slice none 0 0]) (t := 28) ?hr ?_; (case hd => rfl); (case hg => rfl); (case hr => first | (go_simp; done) | (go_simp; rfl))
   intro gb184 hg w8 hbox hb
   refine E10 (bB BK179.1 hb) (bB BK180.1 hb) (bS HB.1 hb) (hbox) (gX HB.1 hg) (gX HB.1 hg) (nB BK179.1 hg) (nC BK179.1 hg) (nB BK180.1 hg) (nC BK180.1 hg) ?_
   clear BK179 BK180 HB
   intro BK179 BK180 HB BK184 GW184 GE184 NB179_184 NB184_179 NB180_184 NB184_180
   clear hb hbox hg
   refine hK.out _ _ ⟨(blk_cell BK179.1 0).trans rfl, (blk_cell BK179.1 1).trans rfl⟩ (fun hHeld => ?_)
   clear hK K
   refine norm_ (a' := ?_) ?_ ?_
   rotate_left
   · show Act.put _ (some 5) _ = _
     simp only [Act.put, List.setIfInBounds_toArray, List.set_cons_zero, List.set_cons_succ, i64_w, i32_w]
     rfl
   refine one_ (i := 5) (N := some 15) #[Yy,Yy,Yy,Yy,Yy,Yy,Zz,Yy,Zz] rfl rfl (one_of HT_.1 (by kernel_rfl)) (by decide) (fun K hK => ?_)
   refine R_make_step (Kd.int .i64) _ 3 (by rfl) (N := 15) rfl 22 _ _ rfl (l0_1.length : Int) rfl rfl Try.underlying22 (.int .i64 0) 8 info3 rfl (by decide) (by omega) 0 (ok := fun _ => True) (okp := fun _ => True) rfl (fun _ hk => hk) trivial (OD) (Nat.le_trans (Nat.mul_le_mul_right _ (OD : (l0_1.length : Int).toNat <= 35184372088832)) (by omega)) (Below.refl _ _) (Nat.le_refl _) ?_
   intro v182 w9 ho10 hb hg_ hnew_
   clear hg_ hnew_
   (first | rw [<- Ny181.1] at ho10 | (simp only [Int.reduceToNat] at ho10; rw [<- Ny181.1] at ho10))
   refine E5 (R_lower ho10 (bZ HB.1)) (bB BK179.1 hb) (bB BK180.1 hb) (bB BK184.1 hb) (bS HB.1 hb) ?_
   clear BK179 BK180 BK184 HB
   intro HO183 BK179 BK180 BK184 HB
   clear hb ho10
   obtain ⟨Ao11, co11, eo11⟩ := R_slice HO183.1
   (first | subst eo11 | (injection eo11 with f1_ f2_ f3_; have f4_ := f1_.symm; have f5_ := f3_.symm; clear f1_ f2_ f3_; subst f4_; subst f5_))
   refine hK.out _ _ ⟨(blk_cell BK179.1 0).trans rfl, (blk_cell BK179.1 1).trans rfl⟩ (fun hHeld => ?_)
   clear hK K
   refine norm_ (a' := ?_) ?_ ?_
   rotate_left
   · show Act.put _ (some 15) _ = _
     simp only [Act.put, List.setIfInBounds_toArray, List.set_cons_zero, List.set_cons_succ, i64_w, i32_w]
     rfl
   refine pureF 6 (N := some 16) HT_.1 ?_
   exact norm_ NA (hCont (.slice Ao11 y181.length co11, gb184) _ ⟨hHeld, (PR HO183.1), (PB BK179.1), (PB BK180.1), (PB BK184.1), GW184.1, GE184.1, NB179_184.1, NB184_179.1, NB180_184.1, NB184_180.1, (BL HB.1)⟩)
 rintro ⟨v182, gb184⟩ w12 ⟨hS_, h0_, h1_, h2_, h3_, h4_, h5_, h6_, h7_, h8_, h9_, h10_⟩
 refine E11 (show Kd.R (Kd.int .i64) 3 w12 w.heap.size (fun _ => True) v182 y181 from h0_) (show w12.heap[gb179]? = some (.cells #[.int .i64 a0_0, .slice A0_1 l0_1.length c0_1] 28 (0, 0)) from h1_) (show w12.heap[gb180]? = some (.cells #[.int .i64 0, .slice none 0 0] 28 (0, 0)) from h2_) (show w12.heap[gb184]? = some (.cells #[.int .i64 0, .slice none 0 0] 28 (0, 0)) from h3_) (show w.heap.size <= gb184 from h4_) (show w.heap.size <= gb184 from h5_) (show gb179 ≠ gb184 from h6_) (show gb184 ≠ gb179 from h7_) (show gb180 ≠ gb184 from h8_) (show gb184 ≠ gb180 from h9_) (show Below w.heap.size w w12 from h10_) ?_
 clear BK179 BK180 HB h0_ h1_ h2_ h3_ h4_ h5_ h6_ h7_ h8_ h9_ h10_
 intro HO183 BK179 BK180 BK184 GW184 GE184 NB179_184 NB184_179 NB180_184 NB184_180 HB
 have hHeld : w12.cell? ⟨gb179, 0, none⟩ = some (.int .i64 a0_0) /\ w12.cell? ⟨gb179, 1, none⟩ = some (.slice A0_1 l0_1.length c0_1) := hS_
 obtain ⟨Ao13, co13, eo13⟩ := R_slice HO183.1
 (first | subst eo13 | (injection eo13 with f1_ f2_ f3_; have f4_ := f1_.symm; have f5_ := f3_.symm; clear f1_ f2_ f3_; subst f4_; subst f5_))
 refine norm_ (a' := ?_) ?_ ?_
 rotate_left
 · simp only [putAll, Act.put, List.setIfInBounds_toArray, List.set_cons_zero, List.set_cons_succ]
   rfl
 refine one_ (i := 8) (N := none) #[Yy,Yy,Yy,Yy,Yy,Yy,Yy,Yy,Yy] rfl rfl (one_of HT_.1 (by kernel_rfl)) (by decide) (fun K hK => ?_)
 obtain ⟨hs14, hs15, hfs14, hfs15⟩ := cz2 BK184.1
 have hns14_0 := NB179_184.1
 have hns14_1 := NB180_184.1
 have hms14_0 := NB184_179.1
 have hms14_1 := NB184_180.1
 refine skip_ (w1 := ?_) (by rfl) rfl ?_ ?_
 rotate_left
 · go_simp
   rfl
 refine hK.out _ _ ⟨(CF2 NB179_184.1 hHeld.1), (CF2 NB179_184.1 hHeld.2)⟩ (fun hHeld => ?_)
 clear hK K
 refine done_ (done_of HT_.1 (by kernel_rfl)) ?_
 obtain ⟨hcz18_0, hcz18_1, hfz18_0, hfz18_1⟩ := cz2 BK184.1
 try go_wp2
 go_loopg [20] k (fun kq v20 w' => ∃ (x20_1 : Int) (x185001_1 : List Int) (u185001 : Value), v20 = .int .i64 x20_1 /\ Aside0 (impl_reordered.l0 kq l1 (y181.length : Int) x20_1 a0_0 l0_1 a0_0 x185001_1 = some (r1, r2)) /\ Aside0 (kq <= k) /\ Aside0 (Kd.R (Kd.int .i64) 3 w' w.heap.size (fun _ => True) u185001 x185001_1) /\ Aside0 (w'.heap[gb179]? = some (.cells #[.int .i64 a0_0, (.slice A0_1 l0_1.length c0_1)] 28 (0, 0))) /\ Aside0 (w'.heap[gb180]? = some (.cells #[.int .i64 0, (.slice none 0 0)] 28 (0, 0))) /\ Aside0 (w'.heap[gb184]? = some (.cells #[.int .i64 a0_0, u185001] 28 (0, 0))) /\ Aside0 (Below w.heap.size w w'))
 case atStart => exact ⟨(0), (y181), (.slice Ao13 y181.length co13), RG, H', ⟨Nat.le_refl _⟩, ⟨by (with_reducible repeat (first | apply R_alloc | apply R_drewN | apply R_drew)); exact R_mono (RQ gb184 1 (RQ gb184 0 (R_types HO183.1 BK184.1 (by decide)) _) _) (fun _ hk => trivial)⟩, ⟨by (with_reducible repeat (first | refine blk_drewN ?_ _ | refine blk_drew ?_ | refine blk_alloc ?_ _)); refine blk_far ?_ NB179_184.1 _; (with_reducible repeat (first | refine blk_drewN ?_ _ | refine blk_drew ?_ | refine blk_alloc ?_ _)); refine blk_far ?_ NB179_184.1 _; (with_reducible repeat (first | refine blk_drewN ?_ _ | refine blk_drew ?_ | refine blk_alloc ?_ _)); exact BK179.1⟩, ⟨by (with_reducible repeat (first | refine blk_drewN ?_ _ | refine blk_drew ?_ | refine blk_alloc ?_ _)); refine blk_far ?_ NB180_184.1 _; (with_reducible repeat (first | refine blk_drewN ?_ _ | refine blk_drew ?_ | refine blk_alloc ?_ _)); refine blk_far ?_ NB180_184.1 _; (with_reducible repeat (first | refine blk_drewN ?_ _ | refine blk_drew ?_ | refine blk_alloc ?_ _)); exact BK180.1⟩, ⟨by (with_reducible repeat (first | refine blk_drewN ?_ _ | refine blk_drew ?_ | refine blk_alloc ?_ _)); refine blk_put (cs := #[.int .i64 a0_0, .slice none 0 0]) ?_ 1 _ rfl; (with_reducible repeat (first | refine blk_drewN ?_ _ | refine blk_drew ?_ | refine blk_alloc ?_ _)); refine blk_put (cs := #[.int .i64 0, .slice none 0 0]) ?_ 0 _ rfl; (with_reducible repeat (first | refine blk_drewN ?_ _ | refine blk_drew ?_ | refine blk_alloc ?_ _)); exact BK184.1⟩, ⟨BL HB.1⟩⟩
 clear H'
 try clear c1; clear c3b0 c3b1 c4b0 c4b1 hcz18_0 hcz18_1 hfz18_0 hfz18_1
 obtain ⟨x20_1, x185001_1, u185001, rfl, HA, HK1, HO_185001, BK179, BK180, BK184, HB⟩ := hrel
 cases gk with
 | zero => exact absurd HA.1 (by simp [impl_reordered.l0])
 | succ k1 => ?_
 have H := HA.1
 clear HA
 simp only [impl_reordered.l0] at H
 replace H := ifB H; rcases H with ⟨c19b0, H⟩ | ⟨c19b0, H⟩
 · have H' := Aside0.mk H
   clear H
   go_wp2
   go_loopg [7, 25] k1 (fun kq v7 v25 w' => ∃ (x7_2 : Int) (x25_2 : Int), v7 = .int .i64 x7_2 /\ v25 = .int .i64 x25_2 /\ Aside0 (impl_reordered.l1 kq l1 x20_1 x7_2 (y181.length : Int) x20_1 l1 (l1.length : Int) x25_2 a0_0 l0_1 a0_0 x185001_1 = some (r1, r2)) /\ Aside0 (kq <= k1) /\ Aside0 (Kd.R (Kd.int .i64) 3 w' w.heap.size (fun _ => True) u185001 x185001_1) /\ Aside0 (w'.heap[gb179]? = some (.cells #[.int .i64 a0_0, (.slice A0_1 l0_1.length c0_1)] 28 (0, 0))) /\ Aside0 (w'.heap[gb180]? = some (.cells #[.int .i64 0, (.slice none 0 0)] 28 (0, 0))) /\ Aside0 (w'.heap[gb184]? = some (.cells #[.int .i64 a0_0, u185001] 28 (0, 0))) /\ Aside0 (Below w.heap.size w w'))
   case atStart => exact ⟨(0), (0), RG, RG, H', ⟨Nat.le_refl _⟩, ⟨PR HO_185001.1⟩, ⟨PB BK179.1⟩, ⟨PB BK180.1⟩, ⟨PB BK184.1⟩, ⟨BL HB.1⟩⟩
   clear H'
   try clear c19b0
   obtain ⟨x7_2, x25_2, rfl, rfl, HA, HK2, HO_185001, BK179, BK180, BK184, HB⟩ := hrel
   cases gk with
   | zero => exact absurd HA.1 (by simp [impl_reordered.l1])
   | succ k2 => ?_
   have H := HA.1
   clear HA
   simp only [impl_reordered.l1] at H
   replace H := ifB H; rcases H with ⟨c20b0, H⟩ | ⟨c20b0, H⟩
   · replace H := ifN H; obtain ⟨c21b0, H⟩ := H
     replace H := ifN H; obtain ⟨c22b0, H⟩ := H
     have c23b0 := eq_true (OD : 0 <= x25_2)
     obtain ⟨ji24, hji24⟩ : ∃ j_ : Int, (shr .i64 x20_1 x25_2) = j_ := ⟨_, rfl⟩
     replace H : (if 0 <= (rd l1 x25_2) then (impl_reordered.l1 k2 l1 x20_1 (Go.bits .or .i64 x7_2 (shl .i64 (Go.bits .and .i64 (ji24) 1) (rd l1 x25_2))) (y181.length : Int) x20_1 l1 (l1.length : Int) (wrap64 (x25_2 + 1)) a0_0 l0_1 a0_0 x185001_1) else (none)) = some (r1, r2) := by first | (rw [hji24] at H; exact H) | (simp only [hji24] at H ⊢; exact H)
     have hji24_ : (x20_1 / 2 ^ min x25_2.toNat 64) = ji24 := hji24
     have hji24z : x25_2 <= 64 -> (x20_1 / 2 ^ x25_2.toNat) = ji24 := shr_small hji24
     replace H := ifP H; obtain ⟨c25, H⟩ := H
     have c25b0 := eq_true c25
     have c25b1 := decide_eq_true c25
     clear c25
     obtain ⟨ji26, hji26⟩ : ∃ j_ : Int, (shl .i64 (Go.bits .and .i64 (ji24) 1) (rd l1 x25_2)) = j_ := ⟨_, rfl⟩
     replace H : (impl_reordered.l1 k2 l1 x20_1 (Go.bits .or .i64 x7_2 (ji26)) (y181.length : Int) x20_1 l1 (l1.length : Int) (wrap64 (x25_2 + 1)) a0_0 l0_1 a0_0 x185001_1) = some (r1, r2) := by first | (rw [hji26] at H; exact H) | (simp only [hji26] at H ⊢; exact H)
     have hji26_ : (IntKind.i64.wrap ((Go.bits .and .i64 (ji24) 1) * 2 ^ min (rd l1 x25_2).toNat 64)) = ji26 := hji26
     have hji26z : (rd l1 x25_2) <= 64 -> (IntKind.i64.wrap ((Go.bits .and .i64 (ji24) 1) * 2 ^ (rd l1 x25_2).toNat)) = ji26 := shl_small hji26
     have hji26y : (wrap64 ((Go.bits .and .i64 (ji24) 1) * 2 ^ min (rd l1 x25_2).toNat 64)) = ji26 := (i64_w _).symm.trans hji26_
     have hji26x : (rd l1 x25_2) <= 64 -> (wrap64 ((Go.bits .and .i64 (ji24) 1) * 2 ^ (rd l1 x25_2).toNat)) = ji26 := fun h_ => (i64_w _).symm.trans (hji26z h_)
     have H' := Aside0.mk H
     clear H
     have p185 : 0 <= (x25_2 : Int) := OD
     have q185 : x25_2 < (l1.length : Int) := OD
     obtain ⟨ad185, e185, hx185_0⟩ := Kd.at_int HR1.1 x25_2 p185 q185
     cases e185
     replace hx185_0 := (HB.1.cell (World.block_lt_of_cell? w _ hx185_0)).trans hx185_0
     replace p185 := eq_true p185
     replace q185 := eq_true q185
     go_wp2
     go_roundg k2
     case measure => have := HK1.1; have := HK2.1; omega
     case rel => exact ⟨(Go.bits .or .i64 x7_2 (ji26)), (wrap64 (x25_2 + 1)), (by first | rfl | (simp; done) | (simp only [<- hji26] <;> (first | rfl | simp)) | (simp [*]; done)), RG, H', ⟨by have := HK1.1; have := HK2.1; omega⟩, ⟨PR HO_185001.1⟩, ⟨PB BK179.1⟩, ⟨PB BK180.1⟩, ⟨PB BK184.1⟩, ⟨BL HB.1⟩⟩
   replace H := ifN H; obtain ⟨c27b0, H⟩ := H
   replace H := ifN H; obtain ⟨c28b0, H⟩ := H
   replace H := ifN H; obtain ⟨c29b0, H⟩ := H
   replace H := ifN H; obtain ⟨c30b0, H⟩ := H
   generalize hy187 : ((x185001_1.set (x20_1 : Int).toNat (rd l0_1 x7_2)) : List Int) = y187 at H
   have Ny187 := Aside0.mk hy187.symm; clear hy187
   have H' := Aside0.mk H
   clear H
   try go_wp2
   refine E5 (R_drew HO_185001.1) (blk_drew BK179.1) (blk_drew BK180.1) (blk_drew BK184.1) (below_drew1 HB.1) ?_
   clear HO_185001 BK179 BK180 BK184 HB
   intro HO_185001 BK179 BK180 BK184 HB
   have p186 : 0 <= (x7_2 : Int) := OD
   have q186 : x7_2 < (l0_1.length : Int) := OD
   obtain ⟨ad186, e186, hx186_0⟩ := Kd.at_int HR0_1.1 x7_2 p186 q186
   have hw186_0 := hx186_0
   cases e186
   replace hx186_0 := (HB.1.cell (World.block_lt_of_cell? w _ hx186_0)).trans hx186_0
   replace p186 := eq_true p186
   replace q186 := eq_true q186
   have p31 : 0 <= (x20_1 : Int) := OD
   have q31 : (x20_1 : Int) < ((x185001_1.length : Int) : Int) := OD
   obtain ⟨go31, co31, eo31, gb31, gl31, cl31, HG31⟩ := R_form HO_185001.1 (by omega)
   (first | cases eo31 | (injection eo31 with ea_ en_ ec_; (first | subst ea_ | (injection ea_ with ea_; subst ea_)); subst ec_; clear en_))
   have GB31 := Aside0.mk gb31
   have GG31 := Aside0.mk HG31
   clear gb31 gl31 HG31
   obtain ⟨hx31_0, hf31_0⟩ := R_celln 0 HO_185001.1 (x20_1 : Int) p31 q31
   replace p31 := eq_true p31
   replace q31 := eq_true q31
   have HP33 := R_putn HO_185001.1 (x20_1 : Int) (rd l0_1 x7_2)
   rw [<- Ny187.1] at HP33
   have HQ33 := Aside0.mk HP33
   clear HP33
   refine start_ (n := 10) (S := fun w' => w'.cell? ⟨gb184, 0, none⟩ = some (.int .i64 a0_0) /\ w'.cell? ⟨gb184, 1, none⟩ = some (.slice (some ⟨go31, 0, none⟩) x185001_1.length co31) /\ w'.cell? ⟨gb179, 0, none⟩ = some (.int .i64 a0_0) /\ w'.cell? ⟨gb179, 1, none⟩ = some (.slice (some ad186) l0_1.length c0_1) /\ w'.cell? (ad186.add (x7_2).toNat) = some (.int .i64 (rd l0_1 x7_2))) (ds := [9]) #[Zz,Zz,Zz,Zz,Zz,Zz,Zz,Zz,Zz,Zz] (by kernel_rfl) rfl rfl ⟨(blk_cell BK184.1 0).trans rfl, (blk_cell BK184.1 1).trans rfl, (blk_cell BK179.1 0).trans rfl, (blk_cell BK179.1 1).trans rfl, ((HB.1.cell (World.block_lt_of_cell? w _ hw186_0)).trans hw186_0)⟩ (fun hHeld => ?_); refine with_tabW impl_reordered.tab11 impl_reordered.bits11 (fun HT_ HW_ => ?_)
   generalize wr.drew = w32 at HO_185001 BK179 BK180 BK184 HB GG31 HQ33 hf31_0 hx186_0 hx31_0 hHeld ⊢
   refine pureF 0 (N := some 39) HT_.1 ?_
   refine pureF 2 (N := some 41) HT_.1 ?_
   refine pureF 3 (N := some 42) HT_.1 ?_
   refine pureF 5 (N := some 44) HT_.1 ?_
   refine takeE 1 (N := some 40) HT_.1 HW_.1 hHeld ?_
   refine takeE 4 (N := some 43) HT_.1 HW_.1 hHeld ?_
   refine pureF 6 (N := some 45) HT_.1 ?_
   refine takeE 7 (N := some 46) HT_.1 HW_.1 hHeld ?_
   refine pureF 8 (N := some 47) HT_.1 ?_
   refine last_ (i := 9) (N := none) #[Yy,Yy,Yy,Yy,Yy,Yy,Yy,Yy,Yy,Yy] rfl rfl (one_of HT_.1 (by kernel_rfl)) (by decide) (fun K hK => ?_)
   refine skip_ (w1 := ?_) (by rfl) rfl ?_ ?_
   rotate_left
   · go_simp
     rfl
   refine hK.out _ _ ?_
   clear hK K
   refine done_ (done_of HT_.1 (by kernel_rfl)) ?_
   try go_wp2
   go_roundg k2
   case measure => have := HK1.1; have := HK2.1; omega
   case rel => exact ⟨(wrap64 (x20_1 + 1)), (y187), (.slice (some ⟨go31, 0, none⟩) x185001_1.length co31), RG, H', ⟨by have := HK1.1; have := HK2.1; omega⟩, ⟨PR HQ33.1⟩, ⟨by (with_reducible repeat (first | refine blk_drewN ?_ _ | refine blk_drew ?_ | refine blk_alloc ?_ _)); refine blk_far ?_ (by have h_ := R_ne HO_185001.1 BK179.1 (by decide); intro e_; exact h_ (by rw [e_]; rfl)) _; (with_reducible repeat (first | refine blk_drewN ?_ _ | refine blk_drew ?_ | refine blk_alloc ?_ _)); exact BK179.1⟩, ⟨by (with_reducible repeat (first | refine blk_drewN ?_ _ | refine blk_drew ?_ | refine blk_alloc ?_ _)); refine blk_far ?_ (by have h_ := R_ne HO_185001.1 BK180.1 (by decide); intro e_; exact h_ (by rw [e_]; rfl)) _; (with_reducible repeat (first | refine blk_drewN ?_ _ | refine blk_drew ?_ | refine blk_alloc ?_ _)); exact BK180.1⟩, ⟨by (with_reducible repeat (first | refine blk_drewN ?_ _ | refine blk_drew ?_ | refine blk_alloc ?_ _)); refine blk_far ?_ (by have h_ := R_ne HO_185001.1 BK184.1 (by decide); intro e_; exact h_ (by rw [e_]; rfl)) _; (with_reducible repeat (first | refine blk_drewN ?_ _ | refine blk_drew ?_ | refine blk_alloc ?_ _)); exact BK184.1⟩, ⟨BL HB.1⟩⟩
 simp only [Option.some.injEq, Prod.mk.injEq] at H
 obtain ⟨rfl, rfl⟩ := H
 obtain ⟨hcz36_0, hcz36_1, hfz36_0, hfz36_1⟩ := cz2 BK184.1
 have hnb37 := NB180_179.1
 have hnc37 := NB179_180.1
 obtain ⟨hcz38_0, hcz38_1, hfz38_0, hfz38_1⟩ := cz2 BK180.1
 obtain ⟨Ao39, co39, eo39⟩ := R_slice HO_185001.1
 subst eo39
 go_wp2
 refine bodyPost_ret (results_cell_row rfl _ _ gb180 28 #[.int .i64 a0_0, .slice Ao39 x185001_1.length co39] (0, 0) _ rfl (PF0 BK180.1) Try.underlying28 rfl (by kernel_rfl)) rfl ?_
 exact ⟨_, RF, by (with_reducible repeat (first | apply R_alloc | apply R_drewN | apply R_drew)); exact R_mono (RQ gb180 1 (RQ gb180 0 (R_types HO_185001.1 BK180.1 (by decide)) _) _) (fun _ hk => trivial), BL HB.1⟩
/-! ### impl_BestOrder: function 7 -/
open Kd
def impl_BestOrder.l0 : Nat -> List Int -> Int -> List (List Int) -> Int -> Int -> Int -> List Int -> Option (List Int × Int × Bool)
 | 0, _, _, _, _, _, _, _ => none
 | k + 1, x5, x6, x16, x17, x18, x189000, x189001 => if x18 < x17 then (if 0 <= x18 then (if x18 < (x16.length : Int) then ((impl_reordered.f k x189000 x189001 (rd_L1 x16 x18)).bind fun bt197 => ((impl_diagramOf.f bt197.1 bt197.2).bind fun bt201 => (if x6 < 0 then (impl_BestOrder.l0 k (rd_L1 x16 x18) (bt201.2.1.length : Int) x16 x17 (wrap64 (x18 + 1)) x189000 x189001) else (if (bt201.2.1.length : Int) < x6 then (impl_BestOrder.l0 k (rd_L1 x16 x18) (bt201.2.1.length : Int) x16 x17 (wrap64 (x18 + 1)) x189000 x189001) else (impl_BestOrder.l0 k x5 x6 x16 x17 (wrap64 (x18 + 1)) x189000 x189001))))) else (none)) else (none)) else (some (x5, x6, true))
def impl_BestOrder.f (k : Nat) (a0_0 : Int) (l0_1 : List Int) : Option (List Int × Int × Bool) := (impl_IsTable.f k a0_0 l0_1).bind fun t189 => (if t189 = true then ((impl_ordersOf.f a0_0).bind fun t193 => (impl_BestOrder.l0 k (([] : List Int)) (-1) t193 (t193.length : Int) 0 a0_0 l0_1)) else (some (([] : List Int), 0, false)))
theorem impl_BestOrder.mono_l : ∀ k, (∀ y0 y1 y2 y3 y4 y5 y6, LeO (impl_BestOrder.l0 k y0 y1 y2 y3 y4 y5 y6) (impl_BestOrder.l0 (k + 1) y0 y1 y2 y3 y4 y5 y6))
 | 0 => fun _ _ _ _ _ _ _ r h => by simp [impl_BestOrder.l0] at h
 | k + 1 => by
  have ih0 := impl_BestOrder.mono_l k
  intros
  first | unfold impl_BestOrder.l0
  exact LM3 ih0 impl_IsTable.mono impl_reordered.mono
theorem impl_BestOrder.mono : ∀ a0 a1 k, LeO (impl_BestOrder.f k a0 a1) (impl_BestOrder.f (k + 1) a0 a1) := by
 intro a0 a1 k
 have ih0 := impl_BestOrder.mono_l k
 unfold impl_BestOrder.f
 exact LM3 ih0 impl_IsTable.mono impl_reordered.mono
theorem impl_BestOrder.calls (k : Nat) (a0_0 : Int) (A0_1 : Option Addr) (c0_1 : Nat) (l0_1 : List Int) (r1 : List Int) (r2 : Int) (r3 : Bool) (w : World) (hr0_1 : Kd.C (Kd.int .i64) w A0_1 l0_1.length l0_1) (hc0_1 : l0_1.length <= c0_1) (h : impl_BestOrder.f k a0_0 l0_1 = some (r1, r2, r3)) :
 Calls Try.prog 7 #[.agg #[.int .i64 a0_0, .slice A0_1 l0_1.length c0_1]] w fun e w' => ∃ v0_ : Value, e = .returned (.tuple #[v0_, .int .i64 r2, .bool r3]) /\ Kd.R (Kd.int .i64) 3 w' w.heap.size (fun _ => True) v0_ r1 /\ Below w.heap.size w w' := by
 have hfd1 : ∀ (x y z : Value) (w : World), (Instr.field 40 (.agg #[x, y, z]) 1).run Try.prog w = .ok y w := fun x y z w => by kernel_rfl
 have hu28 := Try.underlying28
 have HR0_1 := Aside0.mk hr0_1
 have HC0_1 := Aside0.mk hc0_1
 clear hr0_1 hc0_1
 have HB := Aside0.mk (Below.refl w.heap.size w)
 have H := h
 clear h
 unfold impl_BestOrder.f at H
 replace H := bindA H; obtain ⟨t189, A2, H⟩ := H
 replace H := ifX H; rcases H with ⟨rfl, H⟩ | ⟨rfl, H⟩
 · generalize hy190 : ((([] : List Int)) : List Int) = y190 at H
   have Ny190 := Aside0.mk hy190.symm; clear hy190
   replace H := bindA H; obtain ⟨t193, A4, H⟩ := H
   have H' := Aside0.mk H
   clear H
   go_enter Try.func7, Try.ntmps7
   go_wp2_with (first | ((with_reducible refine gate_dst (N := 1) rfl ?_); refine boxE (cs := #[.int .i64 a0_0, .slice A0_1 l0_1.length c0_1]) (t := 28) ?_; intro gb188 hg w5 hbox hb; refine E4b HB.1 hg hbox hb ?_; clear HB; intro HB BK188 GW188 GE188; clear hb hbox hg; obtain ⟨hcz6_0, hcz6_1, hfz6_0, hfz6_1⟩ := cz2 BK188.1) | ((with_reducible refine gate_callee (f := 19) rfl ?_); refine goesM (N := (some 11)) #[.agg #[.int .i64 a0_0, .slice A0_1 l0_1.length c0_1]] Try.func19 ?_; (with_reducible refine (impl_IsTable.calls k a0_0 _ _ l0_1 true _ ?side1 ?side2 A2.1).mono ?_); (case side1 => exact CB (C_below HR0_1.1 HB.1)); (case side2 => exact HC0_1.1); rintro e w7 ⟨rfl, hb⟩; refine ⟨_, rfl, ?_⟩; refine E2 (bB BK188.1 hb) (bS HB.1 hb) ?_; clear BK188 HB; intro BK188 HB; (try clear hb)) | ((with_reducible refine gate_dst (N := 13) rfl ?_); refine R_lit (Kd.int .i64) _ 3 ?hg (N := 13) ?hd (xs := ([] : List Int)) (inner := []) (ok := fun _ => True) (okp := fun _ => True) ?hr ?hp (fun _ hk => hk) trivial (Below.refl _ _) (Nat.le_refl _) (by simp) ?_; (case hd => rfl); (case hg => rfl); (case hr => first | (go_simp; done) | (go_simp; rfl)); (case hp => exact (Reps.none _ _)); intro v191 w8 ho9 hb hg_ hnew_; clear hg_ hnew_; (first | rw [<- Ny190.1] at ho9 | (simp only [Int.reduceToNat] at ho9; rw [<- Ny190.1] at ho9)); refine E3 (R_lower ho9 (bZ HB.1)) (bB BK188.1 hb) (bS HB.1 hb) ?_; clear BK188 HB; intro HO192 BK188 HB; clear hb ho9; obtain ⟨hcz10_0, hcz10_1, hfz10_0, hfz10_1⟩ := cz2 BK188.1) | ((with_reducible refine gate_callee (f := 20) rfl ?_); refine goesM (N := (some 16)) #[.int .i64 a0_0] Try.func20 ?_; (with_reducible refine (impl_ordersOf.calls a0_0 t193 _ A4.1).mono ?_); rintro e w11 ⟨v194, rfl, ho0, hb⟩; refine ⟨_, rfl, ?_⟩; refine E4 (rB HO192.1 hb) (S_lower (S_new' ho0 (R_lt (PR HO192.1))) (bZ HB.1)) (bB BK188.1 hb) (bS HB.1 hb) ?_; clear HO192 BK188 HB; intro HO192 HO195 BK188 HB; (try clear hb); (try clear ho0); obtain ⟨Ao12, co12, eo12⟩ := S_slice HO195.1; subst eo12))
   go_loopg [5, 6, 18] k (fun kq v5 v6 v18 w' => ∃ (x5_1 : List Int) (x6_1 : Int) (x18_1 : Int), v6 = .int .i64 x6_1 /\ v18 = .int .i64 x18_1 /\ Aside0 (impl_BestOrder.l0 kq x5_1 x6_1 t193 (t193.length : Int) x18_1 a0_0 l0_1 = some (r1, r2, r3)) /\ Aside0 (kq <= k) /\ Aside0 (Kd.R (Kd.int .i64) 3 w' w.heap.size (fun _ => True) v5 x5_1) /\ Aside0 (Kd.S (Kd.slice 3 (Kd.int .i64)) 22 w' w.heap.size (fun _ => True) (.slice Ao12 t193.length co12) t193) /\ Aside0 (w'.heap[gb188]? = some (.cells #[.int .i64 a0_0, (.slice A0_1 l0_1.length c0_1)] 28 (0, 0))) /\ Aside0 (Below w.heap.size w w'))
   case atStart => exact ⟨(y190), ((-1)), (0), RG, RG, H', ⟨Nat.le_refl _⟩, ⟨PR HO192.1⟩, ⟨SPE (S_mono HO195.1 (fun _ _ => trivial))⟩, ⟨PB BK188.1⟩, ⟨BL HB.1⟩⟩
   clear H'
   clear hcz10_0 hcz10_1 hcz6_0 hcz6_1 hfz10_0 hfz10_1 hfz6_0 hfz6_1
   obtain ⟨x5_1, x6_1, x18_1, rfl, rfl, HA, HK1, HO_5, HO_16, BK188, HB⟩ := hrel
   cases gk with
   | zero => exact absurd HA.1 (by simp [impl_BestOrder.l0])
   | succ k1 => ?_
   have H := HA.1
   clear HA
   simp only [impl_BestOrder.l0] at H
   replace H := ifB H; rcases H with ⟨c13b0, H⟩ | ⟨c13b0, H⟩
   · replace H := ifN H; obtain ⟨c14b0, H⟩ := H
     replace H := ifN H; obtain ⟨c15b0, H⟩ := H
     replace H := bindA H; obtain ⟨⟨t197, t198⟩, A16, H⟩ := H
     dsimp only at H
     replace H := bindA H; obtain ⟨⟨t201, t202, t205⟩, A17, H⟩ := H
     dsimp only at H
     replace H := ifB H; rcases H with ⟨c18b0, H⟩ | ⟨c18b0, H⟩
     · have H' := Aside0.mk H
       clear H
       have p196 : 0 <= (x18_1 : Int) := OD
       have q196 : x18_1 < (t193.length : Int) := OD
       obtain ⟨ad196, A196_0, c196_0, e196, hx196_0, hl196_0, hi196_0⟩ := at_L1 (S_reads' HO_16.1).2.2 x18_1 p196 q196
       cases e196
       obtain ⟨ce196, hce196, hMe196, hcc196⟩ := S_get HO_16.1 [] x18_1 p196 (by first | exact q196 | exact OD | (have e_ := (S_reads' HO_16.1).1; omega))
       obtain ⟨ve196_0, rfl, ge196_0⟩ := hMe196
       have hv196_0 := hcc196 0 _ rfl
       rw [Nat.add_zero, show ((Kd.slice 3 (Kd.int .i64))).sz = 1 from rfl, Nat.mul_one] at hv196_0
       replace hv196_0 := Option.some.inj (hv196_0.symm.trans hx196_0)
       rw [hv196_0] at ge196_0
       have HL196_0 := Aside0.mk (show Kd.R (Kd.int .i64) 3 _ _ _ _ (rd_L1 t193 x18_1) from ge196_0)
       clear hv196_0 ge196_0
       clear hcc196 hce196
       have HR196_0 := Aside0.mk hi196_0
       have HC196_0 := Aside0.mk hl196_0
       clear hi196_0 hl196_0
       replace p196 := eq_true p196
       replace q196 := eq_true q196
       obtain ⟨hcz19_0, hcz19_1, hfz19_0, hfz19_1⟩ := cz2 BK188.1
       go_wp2_with (first | ((with_reducible refine gate_callee (f := 22) rfl ?_); refine goesM (N := (some 24)) #[.agg #[.int .i64 a0_0, .slice A0_1 l0_1.length c0_1], .slice A196_0 (rd_L1 t193 x18_1).length c196_0] Try.func22 ?_; (with_reducible refine (impl_reordered.calls k1 a0_0 _ _ l0_1 _ _ (rd_L1 t193 x18_1) t197 t198 _ ?side1 ?side2 ?side3 ?side4 A16.1).mono ?_); (case side1 => exact CB (C_below HR0_1.1 HB.1)); (case side2 => exact HC0_1.1); (case side3 => repeat (first | exact (by repeat (first | (with_reducible exact HR196_0.1) | (with_reducible refine C_alloc ?_ _) | (with_reducible refine C_drewN ?_ _) | (with_reducible refine C_drew ?_) | exact HR196_0.1)) | (with_reducible refine C_alloc ?_ _) | (with_reducible refine C_drewN ?_ _) | (with_reducible refine C_drew ?_))); (case side4 => exact HC196_0.1); rintro e w20 ⟨v199, rfl, ho0, hb⟩; refine ⟨_, rfl, ?_⟩; refine E7 (R_elder' (PR HO_5.1) (R_base ho0) hb) (S_elder' (PS HO_16.1) (R_base ho0) hb) (R_elder' (PR HL196_0.1) (R_base ho0) hb) (R_lower (R_new' (R_new' ho0 (R_lt (PR HO_5.1))) (R_lt (PR HL196_0.1))) (bZ HB.1)) (bB BK188.1 hb) (C_below (by repeat (first | (with_reducible exact HR196_0.1) | (with_reducible refine C_alloc ?_ _) | (with_reducible refine C_drewN ?_ _) | (with_reducible refine C_drew ?_) | exact HR196_0.1)) hb) (bS HB.1 hb) ?_; clear HO_5 HO_16 HL196_0 BK188 HR196_0 HB; intro HO_5 HO_16 HL196_0 HO200 BK188 HR196_0 HB; (try clear hb); obtain ⟨Ao21, co21, eo21⟩ := R_slice HO200.1; subst eo21) | ((with_reducible refine gate_callee (f := 21) rfl ?_); refine goesM (N := (some 25)) #[.agg #[.int .i64 t197, .slice Ao21 t198.length co21]] Try.func21 ?_; (with_reducible refine (impl_diagramOf.calls t197 _ _ t198 t201 t202 t205 _ ?side1 ?side2 A17.1).mono ?_); (case side1 => exact CB (R_reads' HO200.1).2.2); (case side2 => exact (R_reads' HO200.1).2.1); rintro e w22 ⟨v203, rfl, ho0, hb⟩; refine ⟨_, rfl, ?_⟩; refine E8 (rB HO_5.1 hb) (sB HO_16.1 hb) (rB HL196_0.1 hb) (rB HO200.1 hb) (R_lower ho0 (bZ HB.1)) (bB BK188.1 hb) (C_below (by repeat (first | (with_reducible exact HR196_0.1) | (with_reducible refine C_alloc ?_ _) | (with_reducible refine C_drewN ?_ _) | (with_reducible refine C_drew ?_) | exact HR196_0.1)) hb) (bS HB.1 hb) ?_; clear HO_5 HO_16 HL196_0 HO200 BK188 HR196_0 HB; intro HO_5 HO_16 HL196_0 HO200 HO204 BK188 HR196_0 HB; (try clear hb); obtain ⟨Ao23, co23, eo23⟩ := R_slice HO204.1; subst eo23))
       go_roundg k1
       case measure => have := HK1.1; omega
       case rel => exact ⟨(rd_L1 t193 x18_1), ((t202.length : Int)), (wrap64 (x18_1 + 1)), RG, RG, H', ⟨by have := HK1.1; omega⟩, ⟨RPE (R_mono HL196_0.1 (fun _ hk => trivial))⟩, ⟨SPE (S_mono HO_16.1 (fun _ _ => trivial))⟩, ⟨PB BK188.1⟩, ⟨BL HB.1⟩⟩
     replace H := ifB H; rcases H with ⟨c24b0, H⟩ | ⟨c24b0, H⟩
     · have H' := Aside0.mk H
       clear H
       have p196 : 0 <= (x18_1 : Int) := OD
       have q196 : x18_1 < (t193.length : Int) := OD
       obtain ⟨ad196, A196_0, c196_0, e196, hx196_0, hl196_0, hi196_0⟩ := at_L1 (S_reads' HO_16.1).2.2 x18_1 p196 q196
       cases e196
       obtain ⟨ce196, hce196, hMe196, hcc196⟩ := S_get HO_16.1 [] x18_1 p196 (by first | exact q196 | exact OD | (have e_ := (S_reads' HO_16.1).1; omega))
       obtain ⟨ve196_0, rfl, ge196_0⟩ := hMe196
       have hv196_0 := hcc196 0 _ rfl
       rw [Nat.add_zero, show ((Kd.slice 3 (Kd.int .i64))).sz = 1 from rfl, Nat.mul_one] at hv196_0
       replace hv196_0 := Option.some.inj (hv196_0.symm.trans hx196_0)
       rw [hv196_0] at ge196_0
       have HL196_0 := Aside0.mk (show Kd.R (Kd.int .i64) 3 _ _ _ _ (rd_L1 t193 x18_1) from ge196_0)
       clear hv196_0 ge196_0
       clear hcc196 hce196
       have HR196_0 := Aside0.mk hi196_0
       have HC196_0 := Aside0.mk hl196_0
       clear hi196_0 hl196_0
       replace p196 := eq_true p196
       replace q196 := eq_true q196
       obtain ⟨hcz25_0, hcz25_1, hfz25_0, hfz25_1⟩ := cz2 BK188.1
       go_wp2_with (first | ((with_reducible refine gate_callee (f := 22) rfl ?_); refine goesM (N := (some 24)) #[.agg #[.int .i64 a0_0, .slice A0_1 l0_1.length c0_1], .slice A196_0 (rd_L1 t193 x18_1).length c196_0] Try.func22 ?_; (with_reducible refine (impl_reordered.calls k1 a0_0 _ _ l0_1 _ _ (rd_L1 t193 x18_1) t197 t198 _ ?side1 ?side2 ?side3 ?side4 A16.1).mono ?_); (case side1 => exact CB (C_below HR0_1.1 HB.1)); (case side2 => exact HC0_1.1); (case side3 => repeat (first | exact (by repeat (first | (with_reducible exact HR196_0.1) | (with_reducible refine C_alloc ?_ _) | (with_reducible refine C_drewN ?_ _) | (with_reducible refine C_drew ?_) | exact HR196_0.1)) | (with_reducible refine C_alloc ?_ _) | (with_reducible refine C_drewN ?_ _) | (with_reducible refine C_drew ?_))); (case side4 => exact HC196_0.1); rintro e w26 ⟨v199, rfl, ho0, hb⟩; refine ⟨_, rfl, ?_⟩; refine E7 (R_elder' (PR HO_5.1) (R_base ho0) hb) (S_elder' (PS HO_16.1) (R_base ho0) hb) (R_elder' (PR HL196_0.1) (R_base ho0) hb) (R_lower (R_new' (R_new' ho0 (R_lt (PR HO_5.1))) (R_lt (PR HL196_0.1))) (bZ HB.1)) (bB BK188.1 hb) (C_below (by repeat (first | (with_reducible exact HR196_0.1) | (with_reducible refine C_alloc ?_ _) | (with_reducible refine C_drewN ?_ _) | (with_reducible refine C_drew ?_) | exact HR196_0.1)) hb) (bS HB.1 hb) ?_; clear HO_5 HO_16 HL196_0 BK188 HR196_0 HB; intro HO_5 HO_16 HL196_0 HO200 BK188 HR196_0 HB; (try clear hb); obtain ⟨Ao27, co27, eo27⟩ := R_slice HO200.1; subst eo27) | ((with_reducible refine gate_callee (f := 21) rfl ?_); refine goesM (N := (some 25)) #[.agg #[.int .i64 t197, .slice Ao27 t198.length co27]] Try.func21 ?_; (with_reducible refine (impl_diagramOf.calls t197 _ _ t198 t201 t202 t205 _ ?side1 ?side2 A17.1).mono ?_); (case side1 => exact CB (R_reads' HO200.1).2.2); (case side2 => exact (R_reads' HO200.1).2.1); rintro e w28 ⟨v203, rfl, ho0, hb⟩; refine ⟨_, rfl, ?_⟩; refine E8 (rB HO_5.1 hb) (sB HO_16.1 hb) (rB HL196_0.1 hb) (rB HO200.1 hb) (R_lower ho0 (bZ HB.1)) (bB BK188.1 hb) (C_below (by repeat (first | (with_reducible exact HR196_0.1) | (with_reducible refine C_alloc ?_ _) | (with_reducible refine C_drewN ?_ _) | (with_reducible refine C_drew ?_) | exact HR196_0.1)) hb) (bS HB.1 hb) ?_; clear HO_5 HO_16 HL196_0 HO200 BK188 HR196_0 HB; intro HO_5 HO_16 HL196_0 HO200 HO204 BK188 HR196_0 HB; (try clear hb); obtain ⟨Ao29, co29, eo29⟩ := R_slice HO204.1; subst eo29))
       go_roundg k1
       case measure => have := HK1.1; omega
       case rel => exact ⟨(rd_L1 t193 x18_1), ((t202.length : Int)), (wrap64 (x18_1 + 1)), RG, RG, H', ⟨by have := HK1.1; omega⟩, ⟨RPE (R_mono HL196_0.1 (fun _ hk => trivial))⟩, ⟨SPE (S_mono HO_16.1 (fun _ _ => trivial))⟩, ⟨PB BK188.1⟩, ⟨BL HB.1⟩⟩
     have H' := Aside0.mk H
     clear H
     have p196 : 0 <= (x18_1 : Int) := OD
     have q196 : x18_1 < (t193.length : Int) := OD
     obtain ⟨ad196, A196_0, c196_0, e196, hx196_0, hl196_0, hi196_0⟩ := at_L1 (S_reads' HO_16.1).2.2 x18_1 p196 q196
     cases e196
     obtain ⟨ce196, hce196, hMe196, hcc196⟩ := S_get HO_16.1 [] x18_1 p196 (by first | exact q196 | exact OD | (have e_ := (S_reads' HO_16.1).1; omega))
     obtain ⟨ve196_0, rfl, ge196_0⟩ := hMe196
     have hv196_0 := hcc196 0 _ rfl
     rw [Nat.add_zero, show ((Kd.slice 3 (Kd.int .i64))).sz = 1 from rfl, Nat.mul_one] at hv196_0
     replace hv196_0 := Option.some.inj (hv196_0.symm.trans hx196_0)
     rw [hv196_0] at ge196_0
     have HL196_0 := Aside0.mk (show Kd.R (Kd.int .i64) 3 _ _ _ _ (rd_L1 t193 x18_1) from ge196_0)
     clear hv196_0 ge196_0
     clear hcc196 hce196
     have HR196_0 := Aside0.mk hi196_0
     have HC196_0 := Aside0.mk hl196_0
     clear hi196_0 hl196_0
     replace p196 := eq_true p196
     replace q196 := eq_true q196
     obtain ⟨hcz30_0, hcz30_1, hfz30_0, hfz30_1⟩ := cz2 BK188.1
     go_wp2_with (first | ((with_reducible refine gate_callee (f := 22) rfl ?_); refine goesM (N := (some 24)) #[.agg #[.int .i64 a0_0, .slice A0_1 l0_1.length c0_1], .slice A196_0 (rd_L1 t193 x18_1).length c196_0] Try.func22 ?_; (with_reducible refine (impl_reordered.calls k1 a0_0 _ _ l0_1 _ _ (rd_L1 t193 x18_1) t197 t198 _ ?side1 ?side2 ?side3 ?side4 A16.1).mono ?_); (case side1 => exact CB (C_below HR0_1.1 HB.1)); (case side2 => exact HC0_1.1); (case side3 => repeat (first | exact (by repeat (first | (with_reducible exact HR196_0.1) | (with_reducible refine C_alloc ?_ _) | (with_reducible refine C_drewN ?_ _) | (with_reducible refine C_drew ?_) | exact HR196_0.1)) | (with_reducible refine C_alloc ?_ _) | (with_reducible refine C_drewN ?_ _) | (with_reducible refine C_drew ?_))); (case side4 => exact HC196_0.1); rintro e w31 ⟨v199, rfl, ho0, hb⟩; refine ⟨_, rfl, ?_⟩; refine E7 (R_elder' (PR HO_5.1) (R_base ho0) hb) (S_elder' (PS HO_16.1) (R_base ho0) hb) (R_elder' (PR HL196_0.1) (R_base ho0) hb) (R_lower (R_new' (R_new' ho0 (R_lt (PR HO_5.1))) (R_lt (PR HL196_0.1))) (bZ HB.1)) (bB BK188.1 hb) (C_below (by repeat (first | (with_reducible exact HR196_0.1) | (with_reducible refine C_alloc ?_ _) | (with_reducible refine C_drewN ?_ _) | (with_reducible refine C_drew ?_) | exact HR196_0.1)) hb) (bS HB.1 hb) ?_; clear HO_5 HO_16 HL196_0 BK188 HR196_0 HB; intro HO_5 HO_16 HL196_0 HO200 BK188 HR196_0 HB; (try clear hb); obtain ⟨Ao32, co32, eo32⟩ := R_slice HO200.1; subst eo32) | ((with_reducible refine gate_callee (f := 21) rfl ?_); refine goesM (N := (some 25)) #[.agg #[.int .i64 t197, .slice Ao32 t198.length co32]] Try.func21 ?_; (with_reducible refine (impl_diagramOf.calls t197 _ _ t198 t201 t202 t205 _ ?side1 ?side2 A17.1).mono ?_); (case side1 => exact CB (R_reads' HO200.1).2.2); (case side2 => exact (R_reads' HO200.1).2.1); rintro e w33 ⟨v203, rfl, ho0, hb⟩; refine ⟨_, rfl, ?_⟩; refine E8 (rB HO_5.1 hb) (sB HO_16.1 hb) (rB HL196_0.1 hb) (rB HO200.1 hb) (R_lower ho0 (bZ HB.1)) (bB BK188.1 hb) (C_below (by repeat (first | (with_reducible exact HR196_0.1) | (with_reducible refine C_alloc ?_ _) | (with_reducible refine C_drewN ?_ _) | (with_reducible refine C_drew ?_) | exact HR196_0.1)) hb) (bS HB.1 hb) ?_; clear HO_5 HO_16 HL196_0 HO200 BK188 HR196_0 HB; intro HO_5 HO_16 HL196_0 HO200 HO204 BK188 HR196_0 HB; (try clear hb); obtain ⟨Ao34, co34, eo34⟩ := R_slice HO204.1; subst eo34))
     go_roundg k1
     case measure => have := HK1.1; omega
     case rel => exact ⟨(x5_1), (x6_1), (wrap64 (x18_1 + 1)), RG, RG, H', ⟨by have := HK1.1; omega⟩, ⟨RPE (R_mono HO_5.1 (fun _ hk => trivial))⟩, ⟨SPE (S_mono HO_16.1 (fun _ _ => trivial))⟩, ⟨PB BK188.1⟩, ⟨BL HB.1⟩⟩
   simp only [Option.some.injEq, Prod.mk.injEq] at H
   obtain ⟨rfl, rfl, rfl⟩ := H
   go_wp2
   go_ret3
   exact ⟨_, RF, RPE (HO_5.1), BL HB.1⟩
 simp only [Option.some.injEq, Prod.mk.injEq] at H
 obtain ⟨rfl, rfl, rfl⟩ := H
 go_enter Try.func7, Try.ntmps7
 go_wp2_with (first | ((with_reducible refine gate_dst (N := 1) rfl ?_); refine boxE (cs := #[.int .i64 a0_0, .slice A0_1 l0_1.length c0_1]) (t := 28) ?_; intro gb188 hg w35 hbox hb; refine E4b HB.1 hg hbox hb ?_; clear HB; intro HB BK188 GW188 GE188; clear hb hbox hg; obtain ⟨hcz36_0, hcz36_1, hfz36_0, hfz36_1⟩ := cz2 BK188.1) | ((with_reducible refine gate_callee (f := 19) rfl ?_); refine goesM (N := (some 11)) #[.agg #[.int .i64 a0_0, .slice A0_1 l0_1.length c0_1]] Try.func19 ?_; (with_reducible refine (impl_IsTable.calls k a0_0 _ _ l0_1 false _ ?side1 ?side2 A2.1).mono ?_); (case side1 => exact CB (C_below HR0_1.1 HB.1)); (case side2 => exact HC0_1.1); rintro e w37 ⟨rfl, hb⟩; refine ⟨_, rfl, ?_⟩; refine E2 (bB BK188.1 hb) (bS HB.1 hb) ?_; clear BK188 HB; intro BK188 HB; (try clear hb)))
 go_ret3
 exact ⟨_, RF, by first | exact R_nil _ _ _ _ _ | exact N_nil _ _ _ _ _ | exact V_nil _ _ _ _ _ | exact Q_nil _ _ _ _ _ | exact S_nil _ _ _ _ _, BL HB.1⟩

/-! ### laws_eqIntS: function 8 -/
open Kd
def laws_eqIntS.l0 : Nat -> List Int -> List Int -> Int -> Option (Bool)
 | 0, _, _, _ => none
 | k + 1, x0, x1, x5 => if x5 < (x0.length : Int) then (if 0 <= x5 then (if x5 < (x1.length : Int) then (if (rd x0 x5) = (rd x1 x5) then (laws_eqIntS.l0 k x0 x1 (wrap64 (x5 + 1))) else (some false)) else (none)) else (none)) else (some true)
def laws_eqIntS.f (k : Nat) (l0 : List Int) (l1 : List Int) : Option (Bool) := if (l0.length : Int) = (l1.length : Int) then (laws_eqIntS.l0 k l0 l1 0) else (some false)
theorem laws_eqIntS.mono_l : ∀ k, (∀ y0 y1 y2, LeO (laws_eqIntS.l0 k y0 y1 y2) (laws_eqIntS.l0 (k + 1) y0 y1 y2))
 | 0 => fun _ _ _ r h => by simp [laws_eqIntS.l0] at h
 | k + 1 => by
  have ih0 := laws_eqIntS.mono_l k
  intros
  first | unfold laws_eqIntS.l0
  exact LM1 ih0
theorem laws_eqIntS.mono : ∀ a0 a1 k, LeO (laws_eqIntS.f k a0 a1) (laws_eqIntS.f (k + 1) a0 a1) := by
 intro a0 a1 k
 have ih0 := laws_eqIntS.mono_l k
 unfold laws_eqIntS.f
 exact LM1 ih0
theorem laws_eqIntS.calls (k : Nat) (A0 : Option Addr) (c0 : Nat) (l0 : List Int) (A1 : Option Addr) (c1 : Nat) (l1 : List Int) (r : Bool) (w : World) (hr0 : Kd.C (Kd.int .i64) w A0 l0.length l0) (hc0 : l0.length <= c0) (hr1 : Kd.C (Kd.int .i64) w A1 l1.length l1) (hc1 : l1.length <= c1) (h : laws_eqIntS.f k l0 l1 = some r) :
 Calls Try.prog 8 #[.slice A0 l0.length c0, .slice A1 l1.length c1] w fun e w' => e = .returned (.bool r) /\ Drawn0 w w' := by
 have HR0 := Aside0.mk hr0
 have HC0 := Aside0.mk hc0
 clear hr0 hc0
 have HR1 := Aside0.mk hr1
 have HC1 := Aside0.mk hc1
 clear hr1 hc1
 have H := h
 clear h
 unfold laws_eqIntS.f at H
 replace H := ifQ H; rcases H with ⟨c3, H⟩ | ⟨c3, H⟩
 · have c3b0 := beq_iff_eq.mpr c3
   have c3b1 := bne_eq_false_iff_eq.mpr c3
   have c3b2 : (l0.length == l1.length) = true := by first | simpa using c3 | (simp at c3 ⊢; omega)
   clear c3
   have H' := Aside0.mk H
   clear H
   go_enter Try.func8, Try.ntmps8
   go_wp2
   repeat (go_quiet (fail); try go_wp2)
   go_loopg [5] k (fun kq v5 w' => ∃ (x5_1 : Int), v5 = .int .i64 x5_1 /\ Aside0 (laws_eqIntS.l0 kq l0 l1 x5_1 = some r) /\ Aside0 (kq <= k) /\ Drawn0 w w')
   case atStart => exact ⟨(0), RG, H', ⟨Nat.le_refl _⟩, DR⟩
   clear H'
   try clear c1; clear c3b0 c3b1 c3b2
   obtain ⟨x5_1, rfl, HA, HK1, ⟨m1, rfl⟩⟩ := hrel
   cases gk with
   | zero => exact absurd HA.1 (by simp [laws_eqIntS.l0])
   | succ k1 => ?_
   have H := HA.1
   clear HA
   simp only [laws_eqIntS.l0] at H
   replace H := ifB H; rcases H with ⟨c4b0, H⟩ | ⟨c4b0, H⟩
   · replace H := ifN H; obtain ⟨c5b0, H⟩ := H
     replace H := ifN H; obtain ⟨c6b0, H⟩ := H
     replace H := ifQ H; rcases H with ⟨c7, H⟩ | ⟨c7, H⟩
     · have c7b0 := beq_iff_eq.mpr c7
       have c7b1 := bne_eq_false_iff_eq.mpr c7
       clear c7
       have H' := Aside0.mk H
       clear H
       have p206 : 0 <= (x5_1 : Int) := OD
       have q206 : x5_1 < (l0.length : Int) := OD
       obtain ⟨ad206, e206, hx206_0⟩ := Kd.at_int HR0.1 x5_1 p206 q206
       cases e206
       replace p206 := eq_true p206
       replace q206 := eq_true q206
       have p207 : 0 <= (x5_1 : Int) := OD
       have q207 : x5_1 < (l1.length : Int) := OD
       obtain ⟨ad207, e207, hx207_0⟩ := Kd.at_int HR1.1 x5_1 p207 q207
       cases e207
       replace p207 := eq_true p207
       replace q207 := eq_true q207
       go_wp2
       repeat (go_quiet (fail); try go_wp2)
       go_roundg k1
       case measure => have := HK1.1; omega
       case rel => exact ⟨(wrap64 (x5_1 + 1)), RG, H', ⟨by have := HK1.1; omega⟩, DR⟩
     have c7b0 := beq_eq_false_iff_ne.mpr c7
     have c7b1 := bne_iff_ne.mpr c7
     obtain rfl := Option.some.inj H
     have p206 : 0 <= (x5_1 : Int) := OD
     have q206 : x5_1 < (l0.length : Int) := OD
     obtain ⟨ad206, e206, hx206_0⟩ := Kd.at_int HR0.1 x5_1 p206 q206
     cases e206
     replace p206 := eq_true p206
     replace q206 := eq_true q206
     have p207 : 0 <= (x5_1 : Int) := OD
     have q207 : x5_1 < (l1.length : Int) := OD
     obtain ⟨ad207, e207, hx207_0⟩ := Kd.at_int HR1.1 x5_1 p207 q207
     cases e207
     replace p207 := eq_true p207
     replace q207 := eq_true q207
     go_wp2
     repeat (go_quiet (fail); try go_wp2)
     go_ret
     exact ⟨RG, DR⟩
   obtain rfl := Option.some.inj H
   go_wp2
   repeat (go_quiet (fail); try go_wp2)
   go_ret
   exact ⟨RG, DR⟩
 have c3b0 := beq_eq_false_iff_ne.mpr c3
 have c3b1 := bne_iff_ne.mpr c3
 have c3b2 : (l0.length == l1.length) = false := by first | simpa using c3 | (simp at c3 ⊢; omega)
 obtain rfl := Option.some.inj H
 go_enter Try.func8, Try.ntmps8
 go_wp2
 repeat (go_quiet (fail); try go_wp2)
 go_ret
 exact ⟨RG, DR⟩
/-! ### laws_eqTable: function 9 -/
open Kd
def laws_eqTable.f (k : Nat) (a0_0 : Int) (l0_1 : List Int) (a1_0 : Int) (l1_1 : List Int) : Option (Bool) := if a0_0 = a1_0 then ((laws_eqIntS.f k l0_1 l1_1).bind fun t210 => (if t210 = true then (some true) else (some false))) else (some false)
theorem laws_eqTable.mono : ∀ a0 a1 a2 a3 k, LeO (laws_eqTable.f k a0 a1 a2 a3) (laws_eqTable.f (k + 1) a0 a1 a2 a3) := by
 intro a0 a1 a2 a3 k
 unfold laws_eqTable.f
 repeat' first
  | (with_reducible exact laws_eqIntS.mono _ _ _)
  | (with_reducible exact LeO.refl _)
  | (with_reducible exact LeO.none _)
  | (with_reducible refine LeO.ite ?_ ?_)
  | (with_reducible refine LeO.bind ?_ (fun _ => ?_))
  | exact laws_eqIntS.mono _ _ _
  | exact LeO.none _
  | refine LeO.ite ?_ ?_
  | refine LeO.bind ?_ (fun _ => ?_)
theorem laws_eqTable.calls (k : Nat) (a0_0 : Int) (A0_1 : Option Addr) (c0_1 : Nat) (l0_1 : List Int) (a1_0 : Int) (A1_1 : Option Addr) (c1_1 : Nat) (l1_1 : List Int) (r : Bool) (w : World) (hr0_1 : Kd.C (Kd.int .i64) w A0_1 l0_1.length l0_1) (hc0_1 : l0_1.length <= c0_1) (hr1_1 : Kd.C (Kd.int .i64) w A1_1 l1_1.length l1_1) (hc1_1 : l1_1.length <= c1_1) (h : laws_eqTable.f k a0_0 l0_1 a1_0 l1_1 = some r) :
 Calls Try.prog 9 #[.agg #[.int .i64 a0_0, .slice A0_1 l0_1.length c0_1], .agg #[.int .i64 a1_0, .slice A1_1 l1_1.length c1_1]] w fun e w' => e = .returned (.bool r) /\ Below w.heap.size w w' := by
 have hu28 := Try.underlying28
 have HR0_1 := Aside0.mk hr0_1
 have HC0_1 := Aside0.mk hc0_1
 clear hr0_1 hc0_1
 have HR1_1 := Aside0.mk hr1_1
 have HC1_1 := Aside0.mk hc1_1
 clear hr1_1 hc1_1
 have HB := Aside0.mk (Below.refl w.heap.size w)
 have H := h
 clear h
 unfold laws_eqTable.f at H
 replace H := ifQ H; rcases H with ⟨c3, H⟩ | ⟨c3, H⟩
 · have c3b0 := beq_iff_eq.mpr c3
   have c3b1 := bne_eq_false_iff_eq.mpr c3
   clear c3
   replace H := bindA H; obtain ⟨t210, A4, H⟩ := H
   replace H := ifX H; rcases H with ⟨rfl, H⟩ | ⟨rfl, H⟩
   · obtain rfl := Option.some.inj H
     go_enter Try.func9, Try.ntmps9
     go_wp2_with (first | ((with_reducible refine gate_dst (N := 2) rfl ?_); refine boxE (cs := #[.int .i64 a0_0, .slice A0_1 l0_1.length c0_1]) (t := 28) ?_; intro gb208 hg w6 hbox hb; refine E4b HB.1 hg hbox hb ?_; clear HB; intro HB BK208 GW208 GE208; clear hb hbox hg) | ((with_reducible refine gate_dst (N := 3) rfl ?_); refine boxE (cs := #[.int .i64 a1_0, .slice A1_1 l1_1.length c1_1]) (t := 28) ?_; intro gb209 hg w7 hbox hb; refine E7 (bB BK208.1 hb) (bS HB.1 hb) (hbox) (gX HB.1 hg) (gX HB.1 hg) (nB BK208.1 hg) (nC BK208.1 hg) ?_; clear BK208 HB; intro BK208 HB BK209 GW209 GE209 NB208_209 NB209_208; clear hb hbox hg; have hnb8 := NB208_209.1; have hnc8 := NB209_208.1; obtain ⟨hcz9_0, hcz9_1, hfz9_0, hfz9_1⟩ := cz2 BK208.1; obtain ⟨hcz10_0, hcz10_1, hfz10_0, hfz10_1⟩ := cz2 BK209.1) | ((with_reducible refine gate_callee (f := 8) rfl ?_); refine goesM (N := (some 14)) #[.slice A0_1 l0_1.length c0_1, .slice A1_1 l1_1.length c1_1] Try.func8 ?_; (with_reducible refine (laws_eqIntS.calls k _ _ l0_1 _ _ l1_1 true _ ?side1 ?side2 ?side3 ?side4 A4.1).mono ?_); (case side1 => exact CB (C_below HR0_1.1 HB.1)); (case side2 => exact HC0_1.1); (case side3 => exact CB (C_below HR1_1.1 HB.1)); (case side4 => exact HC1_1.1); rintro e w' ⟨rfl, ⟨nd, rfl⟩⟩; refine ⟨_, rfl, ?_⟩))
     go_ret
     exact ⟨RF, BL HB.1⟩
   obtain rfl := Option.some.inj H
   go_enter Try.func9, Try.ntmps9
   go_wp2_with (first | ((with_reducible refine gate_dst (N := 2) rfl ?_); refine boxE (cs := #[.int .i64 a0_0, .slice A0_1 l0_1.length c0_1]) (t := 28) ?_; intro gb208 hg w11 hbox hb; refine E4b HB.1 hg hbox hb ?_; clear HB; intro HB BK208 GW208 GE208; clear hb hbox hg) | ((with_reducible refine gate_dst (N := 3) rfl ?_); refine boxE (cs := #[.int .i64 a1_0, .slice A1_1 l1_1.length c1_1]) (t := 28) ?_; intro gb209 hg w12 hbox hb; refine E7 (bB BK208.1 hb) (bS HB.1 hb) (hbox) (gX HB.1 hg) (gX HB.1 hg) (nB BK208.1 hg) (nC BK208.1 hg) ?_; clear BK208 HB; intro BK208 HB BK209 GW209 GE209 NB208_209 NB209_208; clear hb hbox hg; have hnb13 := NB208_209.1; have hnc13 := NB209_208.1; obtain ⟨hcz14_0, hcz14_1, hfz14_0, hfz14_1⟩ := cz2 BK208.1; obtain ⟨hcz15_0, hcz15_1, hfz15_0, hfz15_1⟩ := cz2 BK209.1) | ((with_reducible refine gate_callee (f := 8) rfl ?_); refine goesM (N := (some 14)) #[.slice A0_1 l0_1.length c0_1, .slice A1_1 l1_1.length c1_1] Try.func8 ?_; (with_reducible refine (laws_eqIntS.calls k _ _ l0_1 _ _ l1_1 false _ ?side1 ?side2 ?side3 ?side4 A4.1).mono ?_); (case side1 => exact CB (C_below HR0_1.1 HB.1)); (case side2 => exact HC0_1.1); (case side3 => exact CB (C_below HR1_1.1 HB.1)); (case side4 => exact HC1_1.1); rintro e w' ⟨rfl, ⟨nd, rfl⟩⟩; refine ⟨_, rfl, ?_⟩))
   go_ret
   exact ⟨RF, BL HB.1⟩
 have c3b0 := beq_eq_false_iff_ne.mpr c3
 have c3b1 := bne_iff_ne.mpr c3
 obtain rfl := Option.some.inj H
 go_enter Try.func9, Try.ntmps9
 go_wp2_with (first | ((with_reducible refine gate_dst (N := 2) rfl ?_); refine boxE (cs := #[.int .i64 a0_0, .slice A0_1 l0_1.length c0_1]) (t := 28) ?_; intro gb208 hg w16 hbox hb; refine E4b HB.1 hg hbox hb ?_; clear HB; intro HB BK208 GW208 GE208; clear hb hbox hg) | ((with_reducible refine gate_dst (N := 3) rfl ?_); refine boxE (cs := #[.int .i64 a1_0, .slice A1_1 l1_1.length c1_1]) (t := 28) ?_; intro gb209 hg w17 hbox hb; refine E7 (bB BK208.1 hb) (bS HB.1 hb) (hbox) (gX HB.1 hg) (gX HB.1 hg) (nB BK208.1 hg) (nC BK208.1 hg) ?_; clear BK208 HB; intro BK208 HB BK209 GW209 GE209 NB208_209 NB209_208; clear hb hbox hg; have hnb18 := NB208_209.1; have hnc18 := NB209_208.1; obtain ⟨hcz19_0, hcz19_1, hfz19_0, hfz19_1⟩ := cz2 BK208.1; obtain ⟨hcz20_0, hcz20_1, hfz20_0, hfz20_1⟩ := cz2 BK209.1))
 go_ret
 exact ⟨RF, BL HB.1⟩
/-! ### laws_markIntS: function 11 -/
open Kd
def laws_markIntS.l0 : Nat -> List Int -> Int -> Int -> Option (Int × List Int)
 | 0, _, _, _ => none
 | k + 1, x0, x1, x5 => if x5 < (x0.length : Int) then (if 0 <= x5 then (laws_markIntS.l0 k (x0.set (x5 : Int).toNat x1) (wrap64 (x1 + 1)) (wrap64 (x5 + 1))) else (none)) else (some (x1, x0))
def laws_markIntS.f (k : Nat) (l0 : List Int) (a1 : Int) : Option (Int × List Int) := laws_markIntS.l0 k l0 a1 0
theorem laws_markIntS.mono_l : ∀ k, (∀ y0 y1 y2, LeO (laws_markIntS.l0 k y0 y1 y2) (laws_markIntS.l0 (k + 1) y0 y1 y2))
 | 0 => fun _ _ _ r h => by simp [laws_markIntS.l0] at h
 | k + 1 => by
  have ih0 := laws_markIntS.mono_l k
  intros
  first | unfold laws_markIntS.l0
  exact LM1 ih0
theorem laws_markIntS.mono : ∀ a0 a1 k, LeO (laws_markIntS.f k a0 a1) (laws_markIntS.f (k + 1) a0 a1) := by
 intro a0 a1 k
 have ih0 := laws_markIntS.mono_l k
 unfold laws_markIntS.f
 exact LM1 ih0
theorem laws_markIntS.calls (k : Nat) (P0_ : Nat -> Prop) (u9000_ : Value) (l0 : List Int) (a1 : Int) (r1 : Int) (r2 : List Int) (w0 w : World) (hB : Below w0.heap.size w0 w) (ho0 : Kd.R (Kd.int .i64) 3 w w0.heap.size P0_ u9000_ l0) (h : laws_markIntS.f k l0 a1 = some (r1, r2)) :
 Calls Try.prog 11 #[u9000_, .int .i64 a1] w fun e w' => e = .returned (.int .i64 r1) /\ Kd.R (Kd.int .i64) 3 w' w0.heap.size (fun k_ => (P0_ k_ ∨ w.heap.size <= k_)) u9000_ r2 /\ Below w0.heap.size w0 w' /\ Kept w w' (fun k_ => P0_ k_) := by
 have HO0 := Aside0.mk (show Kd.R (Kd.int .i64) 3 w w0.heap.size (fun k_ => (P0_ k_ ∨ w.heap.size <= k_)) u9000_ l0 from R_mono ho0 (fun k_ hk => (.inl hk)))
 have HK := Aside0.mk (Kept.refl w (fun k_ => P0_ k_))
 have HW0 := Aside0.mk hB.size
 have HB := Aside0.mk hB
 clear hB
 have H := h
 clear h
 unfold laws_markIntS.f at H
 have H' := Aside0.mk H
 clear H
 go_enter Try.func11, Try.ntmps11
 go_wp2
 go_loopg [1, 5] k (fun kq v1 v5 w' => ∃ (x0_1 : List Int) (x1_1 : Int) (x5_1 : Int), v1 = .int .i64 x1_1 /\ v5 = .int .i64 x5_1 /\ Aside0 (laws_markIntS.l0 kq x0_1 x1_1 x5_1 = some (r1, r2)) /\ Aside0 (kq <= k) /\ Aside0 (Kd.R (Kd.int .i64) 3 w' w0.heap.size (fun k_ => (P0_ k_ ∨ w.heap.size <= k_)) u9000_ x0_1) /\ Aside0 (Kept w w' (fun k_ => P0_ k_)) /\ Aside0 (Below w0.heap.size w0 w'))
 case atStart => exact ⟨(l0), (a1), (0), RG, RG, H', ⟨Nat.le_refl _⟩, ⟨PR HO0.1⟩, ⟨KL HK.1⟩, ⟨BL HB.1⟩⟩
 clear H'
 obtain ⟨x0_1, x1_1, x5_1, rfl, rfl, HA, HK1, HO_0, HK, HB⟩ := hrel
 cases gk with
 | zero => exact absurd HA.1 (by simp [laws_markIntS.l0])
 | succ k1 => ?_
 have H := HA.1
 clear HA
 simp only [laws_markIntS.l0] at H
 replace H := ifB H; rcases H with ⟨c3b0, H⟩ | ⟨c3b0, H⟩
 · replace H := ifN H; obtain ⟨c4b0, H⟩ := H
   generalize hy211 : ((x0_1.set (x5_1 : Int).toNat x1_1) : List Int) = y211 at H
   have Ny211 := Aside0.mk hy211.symm; clear hy211
   have H' := Aside0.mk H
   clear H
   obtain ⟨Ao6, co6, eo6⟩ := R_slice HO_0.1
   subst eo6
   have p5 : 0 <= (x5_1 : Int) := OD
   have q5 : (x5_1 : Int) < ((x0_1.length : Int) : Int) := OD
   obtain ⟨go5, co5, eo5, gb5, gl5, cl5, HG5⟩ := R_form HO_0.1 (by omega)
   (first | cases eo5 | (injection eo5 with ea_ en_ ec_; (first | subst ea_ | (injection ea_ with ea_; subst ea_)); subst ec_; clear en_))
   have GB5 := Aside0.mk gb5
   have GG5 := Aside0.mk HG5
   clear gb5 gl5 HG5
   have HMgo5 := Aside0.mk (show (P0_ go5 ∨ w.heap.size <= go5) from (HO_0.1.1 _ rfl))
   obtain ⟨hx5_0, hf5_0⟩ := R_celln 0 HO_0.1 (x5_1 : Int) p5 q5
   replace p5 := eq_true p5
   replace q5 := eq_true q5
   have HP7 := R_putg HO_0.1 (x5_1 : Int) x1_1
   go_wp2_with (first | ((with_reducible refine gate_store (t := 3) (p := 15) rfl ?_); refine storeE (t := 3) (p := 15) (w1 := (wr.setCell ⟨go5, (x5_1 : Int).toNat, none⟩ (.int .i64 x1_1))) ?_; intro w8 hw; have hg : wr.grownBy w8 (some go5) := (by rw [hw]; exact HP7.2); have hp_ : Kd.R (Kd.int .i64) 3 w8 w0.heap.size (fun k_ => (P0_ k_ ∨ w.heap.size <= k_)) (.slice (some ⟨go5, 0, none⟩) x0_1.length co6) y211 := (by rw [hw, Ny211.1]; exact HP7.1); clear HP7; refine E3 (hp_) ((by rw [hw]; exact below_set (HB.1) GB5.1 : Below w0.heap.size w0 w8)) (Kept.of_grown (S := (fun k_ => P0_ k_)) hg (KL HK.1) (fun k_ e_ => (HO_0.1.1 k_ e_))) ?_; clear HO_0 HB HK; intro HO_0 HB HK; clear hg hw hp_))
   go_roundg k1
   case measure => have := HK1.1; omega
   case rel => exact ⟨(y211), (wrap64 (x1_1 + 1)), (wrap64 (x5_1 + 1)), RG, RG, H', ⟨by have := HK1.1; omega⟩, ⟨PR HO_0.1⟩, ⟨KL HK.1⟩, ⟨BL HB.1⟩⟩
 simp only [Option.some.injEq, Prod.mk.injEq] at H
 obtain ⟨rfl, rfl⟩ := H
 obtain ⟨Ao9, co9, eo9⟩ := R_slice HO_0.1
 subst eo9
 go_wp2
 go_ret
 exact ⟨RF, RPE (HO_0.1), BL HB.1, KL HK.1⟩
/-! ### laws_markTable: function 10 -/
open Kd
def laws_markTable.f (k : Nat) (a0_0 : Int) (l0_1 : List Int) (a1 : Int) : Option (Int × List Int) := (laws_markIntS.f k l0_1 a1).bind fun bt213 => (some (bt213.1, bt213.2))
theorem laws_markTable.mono : ∀ a0 a1 a2 k, LeO (laws_markTable.f k a0 a1 a2) (laws_markTable.f (k + 1) a0 a1 a2) := by
 intro a0 a1 a2 k
 unfold laws_markTable.f
 repeat' first
  | (with_reducible exact laws_markIntS.mono _ _ _)
  | (with_reducible exact LeO.refl _)
  | (with_reducible exact LeO.none _)
  | (with_reducible refine LeO.ite ?_ ?_)
  | (with_reducible refine LeO.bind ?_ (fun _ => ?_))
  | exact laws_markIntS.mono _ _ _
  | exact LeO.none _
  | refine LeO.ite ?_ ?_
  | refine LeO.bind ?_ (fun _ => ?_)
theorem laws_markTable.calls (k : Nat) (a0_0 : Int) (P0_1_ : Nat -> Prop) (u9000_ : Value) (l0_1 : List Int) (a1 : Int) (r1 : Int) (r2 : List Int) (w0 w : World) (hB : Below w0.heap.size w0 w) (ho0_1 : Kd.R (Kd.int .i64) 3 w w0.heap.size P0_1_ u9000_ l0_1) (h : laws_markTable.f k a0_0 l0_1 a1 = some (r1, r2)) :
 Calls Try.prog 10 #[.agg #[.int .i64 a0_0, u9000_], .int .i64 a1] w fun e w' => e = .returned (.int .i64 r1) /\ Kd.R (Kd.int .i64) 3 w' w0.heap.size (fun k_ => (P0_1_ k_ ∨ w.heap.size <= k_)) u9000_ r2 /\ Below w0.heap.size w0 w' /\ Kept w w' (fun k_ => P0_1_ k_) := by
 have hu28 := Try.underlying28
 have HO0_1 := Aside0.mk (show Kd.R (Kd.int .i64) 3 w w0.heap.size (fun k_ => (P0_1_ k_ ∨ w.heap.size <= k_)) u9000_ l0_1 from R_mono ho0_1 (fun k_ hk => (.inl hk)))
 have HK := Aside0.mk (Kept.refl w (fun k_ => P0_1_ k_))
 have HW0 := Aside0.mk hB.size
 have HB := Aside0.mk hB
 clear hB
 have H := h
 clear h
 unfold laws_markTable.f at H
 replace H := bindA H; obtain ⟨⟨t213, t214⟩, A3, H⟩ := H
 dsimp only at H
 simp only [Option.some.injEq, Prod.mk.injEq] at H
 obtain ⟨rfl, rfl⟩ := H
 obtain ⟨Ao4, co4, eo4⟩ := R_slice HO0_1.1
 subst eo4
 go_enter Try.func10, Try.ntmps10
 go_wp2_with (first | ((with_reducible refine gate_dst (N := 2) rfl ?_); refine boxE (cs := #[.int .i64 a0_0, .slice Ao4 l0_1.length co4]) (t := 28) ?_; intro gb212 hg w5 hbox hb; refine E6 (rB HO0_1.1 hb) (Kept.below (S := (fun k_ => P0_1_ k_)) (KL HK.1) hb) (bS HB.1 hb) (hbox) ((by rw [hg]; exact (by first | exact HK.1.1 | exact (show Kept w _ (fun k_ => P0_1_ k_) from KL HK.1).1) : w.heap.size <= gb212)) (gwM hg (bZ HB.1) : w0.heap.size <= gb212) ?_; clear HO0_1 HK HB; intro HO0_1 HK HB BK212 GW212 GE212; clear hb hbox hg; obtain ⟨hcz6_0, hcz6_1, hfz6_0, hfz6_1⟩ := cz2 BK212.1) | ((with_reducible refine gate_callee (f := 11) rfl ?_); refine goesM (N := (some 8)) #[.slice Ao4 l0_1.length co4, .int .i64 a1] Try.func11 ?_; (with_reducible refine (laws_markIntS.calls k (fun k_ => some k_ = (.slice Ao4 l0_1.length co4 : Value).ownBlock) (.slice Ao4 l0_1.length co4) l0_1 a1 t213 t214 w0 _ ?side1 ?side2 A3.1).mono ?_); (case side1 => exact BL HB.1); (case side2 => exact R_tight rfl HO0_1.1); rintro e w7 ⟨rfl, hy0, hb, hkp⟩; refine ⟨_, rfl, ?_⟩; refine E4 (R_reok rfl hy0 (fun k_ e_ => HO0_1.1.1 k_ e_)) (blk_kept (PB BK212.1) hkp (fun hs_ => (fun e_ => (R_ne HO0_1.1 BK212.1 (by decide)) e_) hs_)) (Kept.then_ (S := (fun k_ => P0_1_ k_)) (KL HK.1) hkp (fun k_ hs_ => (fun e_ => (HO0_1.1.1 k_ e_.symm)) hs_)) (hb) ?_; clear HO0_1 BK212 HK HB; intro HO0_1 BK212 HK HB; (try clear hb); (try clear hkp); (try clear hy0)))
 go_ret
 exact ⟨RF, RPE (HO0_1.1), BL HB.1, KL HK.1⟩

/-! ### laws_heldIntS: function 12 -/
open Kd
def laws_heldIntS.l0 : Nat -> List Int -> Int -> Int -> Option (Int)
 | 0, _, _, _ => none
 | k + 1, x0, x1, x5 => if x5 < (x0.length : Int) then (if 0 <= x5 then (if (rd x0 x5) = x1 then (laws_heldIntS.l0 k x0 (wrap64 (x1 + 1)) (wrap64 (x5 + 1))) else (some (-1))) else (none)) else (some x1)
def laws_heldIntS.f (k : Nat) (l0 : List Int) (a1 : Int) : Option (Int) := laws_heldIntS.l0 k l0 a1 0
theorem laws_heldIntS.mono_l : ∀ k, (∀ y0 y1 y2, LeO (laws_heldIntS.l0 k y0 y1 y2) (laws_heldIntS.l0 (k + 1) y0 y1 y2))
 | 0 => fun _ _ _ r h => by simp [laws_heldIntS.l0] at h
 | k + 1 => by
  have ih0 := laws_heldIntS.mono_l k
  intros
  first | unfold laws_heldIntS.l0
  exact LM1 ih0
theorem laws_heldIntS.mono : ∀ a0 a1 k, LeO (laws_heldIntS.f k a0 a1) (laws_heldIntS.f (k + 1) a0 a1) := by
 intro a0 a1 k
 have ih0 := laws_heldIntS.mono_l k
 unfold laws_heldIntS.f
 exact LM1 ih0
theorem laws_heldIntS.calls (k : Nat) (A0 : Option Addr) (c0 : Nat) (l0 : List Int) (a1 : Int) (r : Int) (w : World) (hr0 : Kd.C (Kd.int .i64) w A0 l0.length l0) (hc0 : l0.length <= c0) (h : laws_heldIntS.f k l0 a1 = some r) :
 Calls Try.prog 12 #[.slice A0 l0.length c0, .int .i64 a1] w fun e w' => e = .returned (.int .i64 r) /\ Drawn0 w w' := by
 have HR0 := Aside0.mk hr0
 have HC0 := Aside0.mk hc0
 clear hr0 hc0
 have H := h
 clear h
 unfold laws_heldIntS.f at H
 have H' := Aside0.mk H
 clear H
 go_enter Try.func12, Try.ntmps12
 go_wp2
 go_loopg [1, 5] k (fun kq v1 v5 w' => ∃ (x1_1 : Int) (x5_1 : Int), v1 = .int .i64 x1_1 /\ v5 = .int .i64 x5_1 /\ Aside0 (laws_heldIntS.l0 kq l0 x1_1 x5_1 = some r) /\ Aside0 (kq <= k) /\ Drawn0 w w')
 case atStart => exact ⟨(a1), (0), RG, RG, H', ⟨Nat.le_refl _⟩, DR⟩
 clear H'
 obtain ⟨x1_1, x5_1, rfl, rfl, HA, HK1, ⟨m1, rfl⟩⟩ := hrel
 cases gk with
 | zero => exact absurd HA.1 (by simp [laws_heldIntS.l0])
 | succ k1 => ?_
 have H := HA.1
 clear HA
 simp only [laws_heldIntS.l0] at H
 replace H := ifB H; rcases H with ⟨c3b0, H⟩ | ⟨c3b0, H⟩
 · replace H := ifN H; obtain ⟨c4b0, H⟩ := H
   replace H := ifQ H; rcases H with ⟨c5, H⟩ | ⟨c5, H⟩
   · have c5b0 := beq_iff_eq.mpr c5
     have c5b1 := bne_eq_false_iff_eq.mpr c5
     clear c5
     have H' := Aside0.mk H
     clear H
     have p215 : 0 <= (x5_1 : Int) := OD
     have q215 : x5_1 < (l0.length : Int) := OD
     obtain ⟨ad215, e215, hx215_0⟩ := Kd.at_int HR0.1 x5_1 p215 q215
     cases e215
     replace p215 := eq_true p215
     replace q215 := eq_true q215
     go_wp2
     go_roundg k1
     case measure => have := HK1.1; omega
     case rel => exact ⟨(wrap64 (x1_1 + 1)), (wrap64 (x5_1 + 1)), RG, RG, H', ⟨by have := HK1.1; omega⟩, DR⟩
   have c5b0 := beq_eq_false_iff_ne.mpr c5
   have c5b1 := bne_iff_ne.mpr c5
   obtain rfl := Option.some.inj H
   have p215 : 0 <= (x5_1 : Int) := OD
   have q215 : x5_1 < (l0.length : Int) := OD
   obtain ⟨ad215, e215, hx215_0⟩ := Kd.at_int HR0.1 x5_1 p215 q215
   cases e215
   replace p215 := eq_true p215
   replace q215 := eq_true q215
   go_wp2
   go_ret
   exact ⟨RG, DR⟩
 obtain rfl := Option.some.inj H
 go_wp2
 go_ret
 exact ⟨RG, DR⟩
/-! ### laws_FnExactBestOrder: function 3 -/
open Kd
mutual
def laws_FnExactBestOrder.j0 : Nat -> List Int -> Int -> Bool -> List Int -> Int -> Bool -> Bool -> Int -> List Int -> Int -> List Int -> Option (Bool)
 | 0, _, _, _, _, _, _, _, _, _, _, _ => none
 | k + 1, x4, x5, x6, x8, x9, x10, x50, x217000, x217001, x232000, x232001 => if x50 = true then (some false) else ((laws_toTable.f k x217000 x217001).bind fun bt238 => ((laws_eqTable.f k x232000 x232001 bt238.1 bt238.2).bind fun t242 => (if t242 = true then ((laws_markTable.f k x232000 x232001 1).bind fun bt243 => (if bt243.1 < 0 then (laws_FnExactBestOrder.j1 k x4 x5 x6 x8 true x217000 x217001) else ((laws_eqIntS.f k x8 x4).bind fun t245 => (if t245 = true then (if x9 = x5 then (laws_FnExactBestOrder.j1 k x4 x5 x6 x8 (x10 != x6) x217000 x217001) else (laws_FnExactBestOrder.j1 k x4 x5 x6 x8 true x217000 x217001)) else (laws_FnExactBestOrder.j1 k x4 x5 x6 x8 true x217000 x217001))))) else (some false))))
def laws_FnExactBestOrder.j1 : Nat -> List Int -> Int -> Bool -> List Int -> Bool -> Int -> List Int -> Option (Bool)
 | 0, _, _, _, _, _, _, _ => none
 | k + 1, x4, x5, x6, x8, x76, x217000, x217001 => if x76 = true then (some false) else ((laws_markIntS.f k x8 1).bind fun bt246 => ((laws_heldIntS.f k bt246.2 1).bind fun t248 => (if t248 < 0 then (some false) else (if t248 = bt246.1 then ((laws_toTable.f k x217000 x217001).bind fun bt249 => ((impl_BestOrder.f k bt249.1 bt249.2).bind fun bt253 => ((laws_eqIntS.f k bt253.1 x4).bind fun t258 => (if t258 = true then (if bt253.2.1 = x5 then (laws_FnExactBestOrder.j2 k bt246.2 bt246.1 (bt253.2.2 != x6)) else (laws_FnExactBestOrder.j2 k bt246.2 bt246.1 true)) else (laws_FnExactBestOrder.j2 k bt246.2 bt246.1 true))))) else (some false)))))
def laws_FnExactBestOrder.j2 : Nat -> List Int -> Int -> Bool -> Option (Bool)
 | 0, _, _, _ => none
 | k + 1, x8, x12, x108 => if x108 = true then (some false) else ((laws_heldIntS.f k x8 1).bind fun t259 => (if t259 < 0 then (some false) else (if t259 = x12 then (some true) else (some false))))
end
def laws_FnExactBestOrder.f (k : Nat) (a0_0 : Int) (l0_1 : List Int) : Option (Bool) := (laws_szTable.f a0_0 l0_1 1048576).bind fun t217 => (if t217 < 0 then (some true) else ((laws_toTable.f k a0_0 l0_1).bind fun bt218 => ((spec_BestOrder.f k bt218.1 bt218.2).bind fun bt222 => ((laws_toTable.f k a0_0 l0_1).bind fun bt227 => ((impl_BestOrder.f k bt227.1 bt227.2).bind fun bt232 => ((laws_eqIntS.f k bt232.1 bt222.1).bind fun t237 => (if t237 = true then (if bt232.2.1 = bt222.2.1 then (laws_FnExactBestOrder.j0 k bt222.1 bt222.2.1 bt222.2.2 bt232.1 bt232.2.1 bt232.2.2 (bt232.2.2 != bt222.2.2) a0_0 l0_1 bt227.1 bt227.2) else (laws_FnExactBestOrder.j0 k bt222.1 bt222.2.1 bt222.2.2 bt232.1 bt232.2.1 bt232.2.2 true a0_0 l0_1 bt227.1 bt227.2)) else (laws_FnExactBestOrder.j0 k bt222.1 bt222.2.1 bt222.2.2 bt232.1 bt232.2.1 bt232.2.2 true a0_0 l0_1 bt227.1 bt227.2))))))))
theorem laws_FnExactBestOrder.mono_l : ∀ k, (∀ y0 y1 y2 y3 y4 y5 y6 y7 y8 y9 y10, LeO (laws_FnExactBestOrder.j0 k y0 y1 y2 y3 y4 y5 y6 y7 y8 y9 y10) (laws_FnExactBestOrder.j0 (k + 1) y0 y1 y2 y3 y4 y5 y6 y7 y8 y9 y10)) /\ (∀ y0 y1 y2 y3 y4 y5 y6, LeO (laws_FnExactBestOrder.j1 k y0 y1 y2 y3 y4 y5 y6) (laws_FnExactBestOrder.j1 (k + 1) y0 y1 y2 y3 y4 y5 y6)) /\ (∀ y0 y1 y2, LeO (laws_FnExactBestOrder.j2 k y0 y1 y2) (laws_FnExactBestOrder.j2 (k + 1) y0 y1 y2))
 | 0 => by refine ⟨?_, ?_, ?_⟩ <;> (intros; intro r h; first | (simp [laws_FnExactBestOrder.j0] at h; done) | (simp [laws_FnExactBestOrder.j1] at h; done) | (simp [laws_FnExactBestOrder.j2] at h; done))
 | k + 1 => by
  obtain ⟨ih0, ih1, ih2⟩ := laws_FnExactBestOrder.mono_l k
  refine ⟨?_, ?_, ?_⟩ <;> (
   intros
   first | unfold laws_FnExactBestOrder.j0 | unfold laws_FnExactBestOrder.j1 | unfold laws_FnExactBestOrder.j2
   repeat' first | (with_reducible first | apply ih0 | apply ih1 | apply ih2 | apply impl_BestOrder.mono | apply laws_eqIntS.mono | apply laws_eqTable.mono | apply laws_heldIntS.mono | apply laws_markIntS.mono | apply laws_markTable.mono | apply laws_toTable.mono | apply spec_BestOrder.mono | exact LeO.refl _ | exact LeO.none _ | refine LeO.ite ?_ ?_ | refine LeO.bind ?_ (fun _ => ?_)) | exact LeO.none _ | refine LeO.ite ?_ ?_ | refine LeO.bind ?_ (fun _ => ?_))
theorem laws_FnExactBestOrder.mono : ∀ a0 a1 k, LeO (laws_FnExactBestOrder.f k a0 a1) (laws_FnExactBestOrder.f (k + 1) a0 a1) := by
 intro a0 a1 k
 obtain ⟨ih0, ih1, ih2⟩ := laws_FnExactBestOrder.mono_l k
 unfold laws_FnExactBestOrder.f
 repeat' first | (with_reducible first | apply ih0 | apply ih1 | apply ih2 | apply impl_BestOrder.mono | apply laws_eqIntS.mono | apply laws_eqTable.mono | apply laws_heldIntS.mono | apply laws_markIntS.mono | apply laws_markTable.mono | apply laws_toTable.mono | apply spec_BestOrder.mono | exact LeO.refl _ | exact LeO.none _ | refine LeO.ite ?_ ?_ | refine LeO.bind ?_ (fun _ => ?_)) | exact LeO.none _ | refine LeO.ite ?_ ?_ | refine LeO.bind ?_ (fun _ => ?_)
theorem laws_FnExactBestOrder.calls (k : Nat) (a0_0 : Int) (A0_1 : Option Addr) (c0_1 : Nat) (l0_1 : List Int) (w : World) (hr0_1 : Kd.C (Kd.int .i64) w A0_1 l0_1.length l0_1) (hc0_1 : l0_1.length <= c0_1) (h : laws_FnExactBestOrder.f k a0_0 l0_1 = some true) :
 Calls Try.prog 3 #[.agg #[.int .i64 a0_0, .slice A0_1 l0_1.length c0_1]] w fun e w' => e = .returned (.bool true) /\ Below w.heap.size w w' := by
 have hu24 := Try.underlying24
 have hu28 := Try.underlying28
 have HR0_1 := Aside0.mk hr0_1
 have HC0_1 := Aside0.mk hc0_1
 clear hr0_1 hc0_1
 have HB := Aside0.mk (Below.refl w.heap.size w)
 have H := h
 clear h
 unfold laws_FnExactBestOrder.f at H
 replace H := bindA H; obtain ⟨t217, A2, H⟩ := H
 replace H := ifB H; rcases H with ⟨c3b0, H⟩ | ⟨c3b0, H⟩
 · first | (obtain rfl := Option.some.inj H) | clear H
   go_enter Try.func3, Try.ntmps3
   go_wp2_with (first | ((with_reducible refine gate_dst (N := 1) rfl ?_); refine boxE (cs := #[.int .i64 a0_0, .slice A0_1 l0_1.length c0_1]) (t := 24) ?_; intro gb216 hg w4 hbox hb; refine E4b HB.1 hg hbox hb ?_; clear HB; intro HB BK216 GW216 GE216; clear hb hbox hg; obtain ⟨hcz5_0, hcz5_1, hfz5_0, hfz5_1⟩ := cz2 BK216.1) | ((with_reducible refine gate_callee (f := 4) rfl ?_); refine goesM (N := (some 19)) #[.agg #[.int .i64 a0_0, .slice A0_1 l0_1.length c0_1], .int .i64 1048576] Try.func4 ?_; (with_reducible refine (laws_szTable.calls a0_0 _ _ l0_1 1048576 t217 _ ?side1 ?side2 A2.1).mono ?_); (case side1 => exact CB (C_below HR0_1.1 HB.1)); (case side2 => exact HC0_1.1); rintro e w6 ⟨rfl, hb⟩; refine ⟨_, rfl, ?_⟩; refine E2 (bB BK216.1 hb) (bS HB.1 hb) ?_; clear BK216 HB; intro BK216 HB; (try clear hb)))
   go_ret
   exact ⟨RF, BL HB.1⟩
 replace H := bindA H; obtain ⟨⟨t218, t219⟩, A7, H⟩ := H
 dsimp only at H
 replace H := bindA H; obtain ⟨⟨t222, t225, t226⟩, A8, H⟩ := H
 dsimp only at H
 replace H := bindA H; obtain ⟨⟨t227, t228⟩, A9, H⟩ := H
 dsimp only at H
 replace H := bindA H; obtain ⟨⟨t232, t235, t236⟩, A10, H⟩ := H
 dsimp only at H
 have HC11 := Aside0.mk H
 clear H
 go_enter Try.func3, Try.ntmps3
 go_upto_region 8 with (first | ((with_reducible refine gate_dst (N := 1) rfl ?_); refine boxE (cs := #[.int .i64 a0_0, .slice A0_1 l0_1.length c0_1]) (t := 24) ?_; intro gb216 hg w12 hbox hb; refine E4b HB.1 hg hbox hb ?_; clear HB; intro HB BK216 GW216 GE216; clear hb hbox hg; obtain ⟨hcz13_0, hcz13_1, hfz13_0, hfz13_1⟩ := cz2 BK216.1) | ((with_reducible refine gate_callee (f := 4) rfl ?_); refine goesM (N := (some 19)) #[.agg #[.int .i64 a0_0, .slice A0_1 l0_1.length c0_1], .int .i64 1048576] Try.func4 ?_; (with_reducible refine (laws_szTable.calls a0_0 _ _ l0_1 1048576 t217 _ ?side1 ?side2 A2.1).mono ?_); (case side1 => exact CB (C_below HR0_1.1 HB.1)); (case side2 => exact HC0_1.1); rintro e w14 ⟨rfl, hb⟩; refine ⟨_, rfl, ?_⟩; refine E2 (bB BK216.1 hb) (bS HB.1 hb) ?_; clear BK216 HB; intro BK216 HB; (try clear hb); obtain ⟨hcz15_0, hcz15_1, hfz15_0, hfz15_1⟩ := cz2 BK216.1) | ((with_reducible refine gate_callee (f := 6) rfl ?_); refine goesM (N := (some 24)) #[.agg #[.int .i64 a0_0, .slice A0_1 l0_1.length c0_1]] Try.func6 ?_; (with_reducible refine (laws_toTable.calls k a0_0 _ _ l0_1 t218 t219 _ ?side1 ?side2 A7.1).mono ?_); (case side1 => exact CB (C_below HR0_1.1 HB.1)); (case side2 => exact HC0_1.1); rintro e w16 ⟨v220, rfl, ho0, hb⟩; refine ⟨_, rfl, ?_⟩; refine E3 (R_lower ho0 (bZ HB.1)) (bB BK216.1 hb) (bS HB.1 hb) ?_; clear BK216 HB; intro HO221 BK216 HB; (try clear hb); (try clear ho0); obtain ⟨Ao17, co17, eo17⟩ := R_slice HO221.1; subst eo17) | ((with_reducible refine gate_callee (f := 5) rfl ?_); refine goesM (N := (some 25)) #[.agg #[.int .i64 t218, .slice Ao17 t219.length co17]] Try.func5 ?_; (with_reducible refine (spec_BestOrder.calls k t218 _ _ t219 t222 t225 t226 _ ?side1 ?side2 A8.1).mono ?_); (case side1 => exact CB (R_reads' HO221.1).2.2); (case side2 => exact (R_reads' HO221.1).2.1); rintro e w18 ⟨v223, rfl, ho0, hb⟩; refine ⟨_, rfl, ?_⟩; refine E4 (rB HO221.1 hb) (V_lower (V_mono (ok' := fun k_ => some k_ ≠ (.slice Ao17 t219.length co17 : Value).ownBlock /\ k_ ≠ gb216) ho0 (fun k_ hk_ => ⟨(Kd.fresh' (R_lt (PR HO221.1)) k_ hk_), (Kd.freshB (g := gb216) (o := .cells #[.int .i64 a0_0, .slice A0_1 l0_1.length c0_1] 24 (0, 0)) (PB BK216.1) k_ hk_)⟩)) (bZ HB.1)) (bB BK216.1 hb) (bS HB.1 hb) ?_; clear HO221 BK216 HB; intro HO221 HO224 BK216 HB; (try clear hb); (try clear ho0); obtain ⟨hcz19_0, hcz19_1, hfz19_0, hfz19_1⟩ := cz2 BK216.1) | ((with_reducible refine gate_callee (f := 6) rfl ?_); refine goesM (N := (some 30)) #[.agg #[.int .i64 a0_0, .slice A0_1 l0_1.length c0_1]] Try.func6 ?_; (with_reducible refine (laws_toTable.calls k a0_0 _ _ l0_1 t227 t228 _ ?side1 ?side2 A9.1).mono ?_); (case side1 => exact CB (C_below HR0_1.1 HB.1)); (case side2 => exact HC0_1.1); rintro e w20 ⟨v229, rfl, ho0, hb⟩; refine ⟨_, rfl, ?_⟩; refine E5 (R_elder' (PR HO221.1) (R_base ho0) hb) (V_elder' (by (with_reducible repeat (first | apply V_alloc | apply V_drewN | apply V_drew)); exact HO224.1) (R_base ho0) hb) (R_lower (R_new' ho0 (R_lt (PR HO221.1))) (bZ HB.1)) (bB BK216.1 hb) (bS HB.1 hb) ?_; clear HO221 HO224 BK216 HB; intro HO221 HO224 HO230 BK216 HB; (try clear hb); (try clear ho0)) | ((with_reducible refine gate_dst (N := 7) rfl ?_); refine boxE (cs := #[.int .i64 0, .slice none 0 0]) (t := 28) ?_; intro gb231 hg w21 hbox hb; refine E10 (rB HO221.1 hb) (V_below (V_elderB (by (with_reducible repeat (first | apply V_alloc | apply V_drewN | apply V_drew)); exact HO224.1) gb231 (Nat.le_of_eq hg.symm)) hb) (rB HO230.1 hb) (bB BK216.1 hb) (bS HB.1 hb) (hbox) (gX HB.1 hg) (gX HB.1 hg) (nB BK216.1 hg) (nC BK216.1 hg) ?_; clear HO221 HO224 HO230 BK216 HB; intro HO221 HO224 HO230 BK216 HB BK231 GW231 GE231 NB216_231 NB231_216; clear hb hbox hg; have hnb22 := NB231_216.1; have hnc22 := NB216_231.1; obtain ⟨hcz23_0, hcz23_1, hfz23_0, hfz23_1⟩ := cz2 BK231.1; obtain ⟨Ao24, co24, eo24⟩ := R_slice HO230.1; subst eo24) | ((with_reducible refine gate_callee (f := 7) rfl ?_); refine goesM (N := (some 33)) #[.agg #[.int .i64 t227, .slice Ao24 t228.length co24]] Try.func7 ?_; (with_reducible refine (impl_BestOrder.calls k t227 _ _ t228 t232 t235 t236 _ ?side1 ?side2 A10.1).mono ?_); (case side1 => refine (R_reads' (e := 3) (base := w.heap.size) (ok := fun k_ => (True /\ some k_ ≠ (.slice Ao17 t219.length co17 : Value).ownBlock)) (n := t228.length) (c := co24) ?_).2.2; exact (by (with_reducible repeat (first | apply R_alloc | apply R_drewN | apply R_drew)); exact (R_mono (RQ gb231 1 (RQ gb231 0 (R_types HO230.1 BK231.1 (by decide)) _) _) (fun _ h_ => h_.1)))); (case side2 => exact (R_reads' HO230.1).2.1); rintro e w25 ⟨v233, rfl, ho0, hb⟩; refine ⟨_, rfl, ?_⟩; refine E7 (R_elder' (by (with_reducible repeat (first | apply R_alloc | apply R_drewN | apply R_drew)); exact (R_mono (RQ gb231 1 (RQ gb231 0 (R_types HO221.1 BK231.1 (by decide)) _) _) (fun _ h_ => h_.1))) (R_base ho0) hb) (V_elder' (by (with_reducible repeat (first | apply V_alloc | apply V_drewN | apply V_drew)); exact (V_mono (V_far (p := ⟨gb231, 1, none⟩) (V_far (p := ⟨gb231, 0, none⟩) (V_mono HO224.1 (fun k_ hk => (⟨hk, hk.2⟩ : _ /\ k_ ≠ gb231))) (fun _ hk => hk.2) (.int .i64 t227)) (fun _ hk => hk.2) (.slice Ao24 t228.length co24)) (fun _ h_ => h_.1))) (R_base ho0) hb) (R_elder' (by (with_reducible repeat (first | apply R_alloc | apply R_drewN | apply R_drew)); exact (R_mono (RQ gb231 1 (RQ gb231 0 (R_types HO230.1 BK231.1 (by decide)) _) _) (fun _ h_ => h_.1))) (R_base ho0) hb) (R_lower (R_new' (R_new' ho0 (R_lt (by (with_reducible repeat (first | apply R_alloc | apply R_drewN | apply R_drew)); exact (R_mono (RQ gb231 1 (RQ gb231 0 (R_types HO221.1 BK231.1 (by decide)) _) _) (fun _ h_ => h_.1))))) (R_lt (by (with_reducible repeat (first | apply R_alloc | apply R_drewN | apply R_drew)); exact (R_mono (RQ gb231 1 (RQ gb231 0 (R_types HO230.1 BK231.1 (by decide)) _) _) (fun _ h_ => h_.1))))) (bZ HB.1)) (blk_below (g := gb216) (o := .cells #[.int .i64 a0_0, .slice A0_1 l0_1.length c0_1] 24 (0, 0)) (PF1 NB216_231.1 BK216.1) hb) (blk_below (g := gb231) (o := .cells #[.int .i64 t227, .slice Ao24 t228.length co24] 28 (0, 0)) (PF0 BK231.1) hb) (bS HB.1 hb) ?_; clear HO221 HO224 HO230 BK216 BK231 HB; intro HO221 HO224 HO230 HO234 BK216 BK231 HB; (try clear hb); (try clear hk); (try clear ho0)))
 (try simp only [Act.put, List.setIfInBounds_toArray, List.set_cons_zero, List.set_cons_succ])
 go_cut [50] (fun v50 wc => ∃ (kq : Nat) (x50_10 : Bool), v50 = .bool x50_10 /\ Aside0 (laws_FnExactBestOrder.j0 kq t222 t225 t226 t232 t235 t236 x50_10 a0_0 l0_1 t227 t228 = some true) /\ Aside0 (kq <= k) /\ Aside0 (Kd.V (Kd.int .i64) 3 wc w.heap.size (fun k_ => some k_ ≠ (v233 : Value).ownBlock /\ some k_ ≠ ((.slice Ao24 t228.length co24) : Value).ownBlock /\ k_ ≠ gb216 /\ k_ ≠ gb231) v223 t222) /\ Aside0 (Kd.R (Kd.int .i64) 3 wc w.heap.size (fun k_ => some k_ ≠ ((.slice Ao24 t228.length co24) : Value).ownBlock) v233 t232) /\ Aside0 (Kd.R (Kd.int .i64) 3 wc w.heap.size (fun k_ => some k_ ≠ (v233 : Value).ownBlock) (.slice Ao24 t228.length co24) t228) /\ Aside0 (wc.heap[gb216]? = some (.cells #[.int .i64 a0_0, (.slice A0_1 l0_1.length c0_1)] 24 (0, 0))) /\ Aside0 (wc.heap[gb231]? = some (.cells #[.int .i64 t227, (.slice Ao24 t228.length co24)] 28 (0, 0))) /\ Aside0 (Below w.heap.size w wc))
 case first =>
  have H := HC11.1
  clear HC11
  replace H := bindA H; obtain ⟨t237, A26, H⟩ := H
  replace H := ifT H (by cases k <;> simp [laws_FnExactBestOrder.j0]); obtain ⟨rfl, H⟩ := H
  replace H := ifQ H; rcases H with ⟨c28, H⟩ | ⟨c28, H⟩
  · have c28b0 := beq_iff_eq.mpr c28
    have c28b1 := bne_eq_false_iff_eq.mpr c28
    clear c28
    (first | rw [c28b0] | (simp only [i64_w, i32_w]; rw [c28b0]) | skip)
    have H' := Aside0.mk H
    clear H
    obtain ⟨Ao29, co29, eo29⟩ := R_slice HO234.1
    subst eo29
    obtain ⟨Ao30, co30, eo30⟩ := V_slice HO224.1
    subst eo30
    go_wp2_with (first | ((with_reducible refine gate_callee (f := 8) rfl ?_); refine goesM (N := (some 39)) #[.slice Ao29 t232.length co29, .slice Ao30 t222.length co30] Try.func8 ?_; (with_reducible refine (laws_eqIntS.calls k _ _ t232 _ _ t222 true _ ?side1 ?side2 ?side3 ?side4 A26.1).mono ?_); (case side1 => exact CB (R_reads' HO234.1).2.2); (case side2 => exact (R_reads' HO234.1).2.1); (case side3 => repeat (first | exact (V_reads' HO224.1).2.2 | (with_reducible refine C_alloc ?_ _) | (with_reducible refine C_drewN ?_ _) | (with_reducible refine C_drew ?_))); (case side4 => exact (V_reads' HO224.1).2.1); rintro e w' ⟨rfl, ⟨nd, rfl⟩⟩; refine ⟨_, rfl, ?_⟩))
    go_meet
    case rel => exact ⟨_, ((t236 != t226)), RG, H', ⟨by first | omega | exact Nat.le_refl _⟩, ⟨by (with_reducible repeat (first | apply V_alloc | apply V_drewN | apply V_drew)); exact V_mono HO224.1 (fun _ hk => ⟨hk.2, ⟨hk.1.1.2, ⟨hk.1.1.1.2, hk.1.2⟩⟩⟩)⟩, ⟨RPE (R_mono HO234.1 (fun _ hk => hk.2))⟩, ⟨RPE (R_mono HO230.1 (fun _ hk => hk.2))⟩, ⟨PB BK216.1⟩, ⟨PB BK231.1⟩, ⟨BL HB.1⟩⟩
  exact absurd H (by cases k <;> simp [laws_FnExactBestOrder.j0])
 clear HC11
 clear c3b0 hcz13_0 hcz13_1 hcz15_0 hcz15_1 hcz19_0 hcz19_1 hcz23_0 hcz23_1 hfz13_0 hfz13_1 hfz15_0 hfz15_1 hfz19_0 hfz19_1 hfz23_0 hfz23_1
 obtain ⟨kq, x50_10, rfl, HA, HJ10, HO_4, HO_8, HO_232001, BK216, BK231, HB⟩ := hcut
 cases kq with
 | zero => exact absurd HA.1 (by simp [laws_FnExactBestOrder.j0])
 | succ kj10 => ?_
 have H := HA.1
 clear HA
 simp only [laws_FnExactBestOrder.j0] at H
 replace H := ifF H (by simp); obtain ⟨rfl, H⟩ := H
 replace H := bindA H; obtain ⟨⟨t238, t239⟩, A36, H⟩ := H
 dsimp only at H
 replace H := bindA H; obtain ⟨t242, A37, H⟩ := H
 replace H := ifT H (by simp); obtain ⟨rfl, H⟩ := H
 replace H := bindA H; obtain ⟨⟨t243, t244⟩, A39, H⟩ := H
 dsimp only at H
 have HC40 := Aside0.mk H
 clear H
 try go_wp2
 refine E6 (V_drew HO_4.1) (R_drew HO_8.1) (R_drew HO_232001.1) (blk_drew BK216.1) (blk_drew BK231.1) (below_drew1 HB.1) ?_
 clear HO_4 HO_8 HO_232001 BK216 BK231 HB
 intro HO_4 HO_8 HO_232001 BK216 BK231 HB
 refine start_ (n := 5) (S := fun w' => w'.cell? ⟨gb231, 0, none⟩ = some (.int .i64 t227) /\ w'.cell? ⟨gb231, 1, none⟩ = some (.slice Ao24 t228.length co24) /\ w'.cell? ⟨gb216, 0, none⟩ = some (.int .i64 a0_0) /\ w'.cell? ⟨gb216, 1, none⟩ = some (.slice A0_1 l0_1.length c0_1)) (ds := []) #[Zz,Zz,Zz,Zz,Zz] (by kernel_rfl) rfl rfl ⟨(blk_cell BK231.1 0).trans rfl, (blk_cell BK231.1 1).trans rfl, (blk_cell BK216.1 0).trans rfl, (blk_cell BK216.1 1).trans rfl⟩ (fun hHeld => ?_)
 generalize wc.drew = w41 at HO_4 HO_8 HO_232001 BK216 BK231 HB hHeld ⊢
 refine takeF 0 (N := some 51) hHeld ?_
 refine takeF 1 (N := some 52) hHeld ?_
 refine one_ (i := 2) (N := some 53) #[Yy,Yy,Yy,Zz,Zz] rfl rfl (by kernel_rfl) (by decide) (fun K hK => ?_)
 refine goes_ Try.func6 (by kernel_rfl) rfl #[.agg #[.int .i64 a0_0, .slice A0_1 l0_1.length c0_1]] (by rfl) rfl rfl (by (try simp only [List.map_toArray, List.map_cons, List.map_nil]); first | done | rfl | (simp only [List.length_drop, List.length_take]; rfl)) ?_
 with_reducible refine (laws_toTable.calls kj10 a0_0 _ _ l0_1 t238 t239 _ ?side1 ?side2 A36.1).mono ?_
 (case side1 => exact CB (C_below HR0_1.1 HB.1))
 (case side2 => exact HC0_1.1)
 rintro e w42 ⟨v240, rfl, ho0, hb⟩
 refine ⟨_, rfl, ?_⟩
 refine E7 (V_elder' (by (with_reducible repeat (first | apply V_alloc | apply V_drewN | apply V_drew)); exact HO_4.1) (R_base ho0) hb) (R_elder' (PR HO_8.1) (R_base ho0) hb) (R_elder' (PR HO_232001.1) (R_base ho0) hb) (R_lower (R_new' (R_new' ho0 (R_lt (PR HO_8.1))) (R_lt (PR HO_232001.1))) (bZ HB.1)) (bB BK216.1 hb) (bB BK231.1 hb) (bS HB.1 hb) ?_
 clear HO_4 HO_8 HO_232001 BK216 BK231 HB
 intro HO_4 HO_8 HO_232001 HO241 BK216 BK231 HB
 (try clear hb)
 (try clear hb2)
 (try clear hk)
 (try clear hi)
 (try clear ho0)
 obtain ⟨Ao43, co43, eo43⟩ := R_slice HO241.1
 (first | subst eo43 | (injection eo43 with f1_ f2_ f3_; have f4_ := f1_.symm; have f5_ := f3_.symm; clear f1_ f2_ f3_; subst f4_; subst f5_))
 refine hK.out _ _ ⟨(blk_cell BK231.1 0).trans rfl, (blk_cell BK231.1 1).trans rfl, (blk_cell BK216.1 0).trans rfl, (blk_cell BK216.1 1).trans rfl⟩ (fun hHeld => ?_)
 clear hK K
 refine norm_ (a' := ?_) ?_ ?_
 rotate_left
 · show Act.put _ (some 53) _ = _
   simp only [Act.put, List.setIfInBounds_toArray, List.set_cons_zero, List.set_cons_succ, i64_w, i32_w]
   rfl
 refine one_ (i := 3) (N := some 54) #[Yy,Yy,Yy,Yy,Zz] rfl rfl (by kernel_rfl) (by decide) (fun K hK => ?_)
 refine goes_ Try.func9 (by kernel_rfl) rfl #[.agg #[.int .i64 t227, .slice Ao24 t228.length co24], .agg #[.int .i64 t238, .slice Ao43 t239.length co43]] (by rfl) rfl rfl (by (try simp only [List.map_toArray, List.map_cons, List.map_nil]); first | done | rfl | (simp only [List.length_drop, List.length_take]; rfl)) ?_
 with_reducible refine (laws_eqTable.calls kj10 t227 _ _ t228 t238 _ _ t239 true _ ?side1 ?side2 ?side3 ?side4 A37.1).mono ?_
 (case side1 => exact CB (R_reads' HO_232001.1).2.2)
 (case side2 => exact (R_reads' HO_232001.1).2.1)
 (case side3 => exact CB (R_reads' HO241.1).2.2)
 (case side4 => exact (R_reads' HO241.1).2.1)
 rintro e w44 ⟨rfl, hb⟩
 refine ⟨_, rfl, ?_⟩
 refine E7 (V_below (by (with_reducible repeat (first | apply V_alloc | apply V_drewN | apply V_drew)); exact HO_4.1) hb) (rB HO_8.1 hb) (rB HO_232001.1 hb) (rB HO241.1 hb) (bB BK216.1 hb) (bB BK231.1 hb) (bS HB.1 hb) ?_
 clear HO_4 HO_8 HO_232001 HO241 BK216 BK231 HB
 intro HO_4 HO_8 HO_232001 HO241 BK216 BK231 HB
 (try clear hb)
 (try clear hb2)
 (try clear hk)
 (try clear hi)
 refine hK.out _ _ ⟨(blk_cell BK231.1 0).trans rfl, (blk_cell BK231.1 1).trans rfl, (blk_cell BK216.1 0).trans rfl, (blk_cell BK216.1 1).trans rfl⟩ (fun hHeld => ?_)
 clear hK K
 refine norm_ (a' := ?_) ?_ ?_
 rotate_left
 · show Act.put _ (some 54) _ = _
   simp only [Act.put, List.setIfInBounds_toArray, List.set_cons_zero, List.set_cons_succ, i64_w, i32_w]
   rfl
 refine pure_ (i := 4) (N := some 55) (v := ?_) (a' := ?_) #[Yy,Yy,Yy,Yy,Yy] rfl rfl (by kernel_rfl) (fun _ _ _ h => h) (Or.inl ⟨by rfl, ?_⟩) ?_ ?_
 rotate_left
 · intro w'
   go_simp
   with_reducible rfl
 rotate_left
 · simp only [Act.put, List.setIfInBounds_toArray, List.set_cons_zero, List.set_cons_succ, i64_w, i32_w]
   rfl
 refine done_ (by kernel_rfl) ?_
 obtain ⟨hcz46_0, hcz46_1, hfz46_0, hfz46_1⟩ := cz2 BK231.1
 go_upto_region 14 with (first | ((with_reducible refine gate_callee (f := 10) rfl ?_); refine goesM (N := (some 58)) #[.agg #[.int .i64 t227, .slice Ao24 t228.length co24], .int .i64 1] Try.func10 ?_; (with_reducible refine (laws_markTable.calls kj10 t227 (fun k_ => some k_ = (.slice Ao24 t228.length co24 : Value).ownBlock) (.slice Ao24 t228.length co24) t228 1 t243 t244 w _ ?side1 ?side2 A39.1).mono ?_); (case side1 => exact BL HB.1); (case side2 => exact R_tight rfl HO_232001.1); rintro e w47 ⟨rfl, hy0, hb, hkp⟩; refine ⟨_, rfl, ?_⟩; refine E7 (V_mono (ok' := fun k_ => some k_ ≠ (v233 : Value).ownBlock /\ some k_ ≠ (.slice Ao24 t228.length co24 : Value).ownBlock /\ some k_ ≠ (.slice Ao43 t239.length co43 : Value).ownBlock /\ k_ ≠ gb216 /\ k_ ≠ gb231) (V_keptB (HO_4.1) hkp (fun k_ hk_ hs_ => (hk_.1.2.1) hs_)) (fun k_ hk_ => ⟨hk_.1.1.1, hk_.1.1.2.1, hk_.1.2, hk_.1.1.2.2.1, hk_.1.1.2.2.2⟩)) (R_mono (ok' := fun k_ => some k_ ≠ (.slice Ao24 t228.length co24 : Value).ownBlock /\ some k_ ≠ (.slice Ao43 t239.length co43 : Value).ownBlock) (R_keptB (HO_8.1) hkp (fun k_ hk_ hs_ => (hk_.1) hs_)) (fun k_ hk_ => ⟨hk_.1.1, hk_.1.2⟩)) (R_reok rfl hy0 (fun k_ e_ => HO_232001.1.1 k_ e_)) (blk_kept (PB BK216.1) hkp (fun hs_ => (fun e_ => (R_ne HO_232001.1 BK216.1 (by decide)) e_) hs_)) (blk_kept (PB BK231.1) hkp (fun hs_ => (fun e_ => (R_ne HO_232001.1 BK231.1 (by decide)) e_) hs_)) (R_mono (ok' := fun k_ => some k_ ≠ (v233 : Value).ownBlock /\ some k_ ≠ (.slice Ao24 t228.length co24 : Value).ownBlock) (R_keptB (HO241.1) hkp (fun k_ hk_ hs_ => (hk_.2) hs_)) (fun k_ hk_ => ⟨hk_.1.1.2, hk_.1.2⟩)) (hb) ?_; clear HO_4 HO_8 HO_232001 BK216 BK231 HO241 HB; intro HO_4 HO_8 HO_232001 BK216 BK231 HO241 HB; (try clear hb); (try clear hkp); (try clear hy0)))
 (try simp only [Act.put, List.setIfInBounds_toArray, List.set_cons_zero, List.set_cons_succ])
 go_cut [76] (fun v76 wc => ∃ (kq : Nat) (x76_39 : Bool), v76 = .bool x76_39 /\ Aside0 (laws_FnExactBestOrder.j1 kq t222 t225 t226 t232 x76_39 a0_0 l0_1 = some true) /\ Aside0 (kq <= kj10) /\ Aside0 (Kd.V (Kd.int .i64) 3 wc w.heap.size (fun k_ => some k_ ≠ (v233 : Value).ownBlock /\ some k_ ≠ ((.slice Ao24 t228.length co24) : Value).ownBlock /\ k_ ≠ gb216 /\ k_ ≠ gb231) v223 t222) /\ Aside0 (Kd.R (Kd.int .i64) 3 wc w.heap.size (fun k_ => some k_ ≠ ((.slice Ao24 t228.length co24) : Value).ownBlock) v233 t232) /\ Aside0 (Kd.R (Kd.int .i64) 3 wc w.heap.size (fun k_ => some k_ ≠ (v233 : Value).ownBlock) (.slice Ao24 t228.length co24) t244) /\ Aside0 (wc.heap[gb216]? = some (.cells #[.int .i64 a0_0, (.slice A0_1 l0_1.length c0_1)] 24 (0, 0))) /\ Aside0 (wc.heap[gb231]? = some (.cells #[.int .i64 t227, (.slice Ao24 t228.length co24)] 28 (0, 0))) /\ Aside0 (Below w.heap.size w wc))
 case first =>
  have H := HC40.1
  clear HC40
  replace H := ifQ H; rcases H with ⟨c48, H⟩ | ⟨c48, H⟩
  · exact absurd H (by cases kj10 <;> simp [laws_FnExactBestOrder.j1])
  have c48b0 := decide_eq_false c48
  clear c48
  (first | rw [c48b0] | (simp only [i64_w, i32_w]; rw [c48b0]) | skip)
  replace H := bindA H; obtain ⟨t245, A49, H⟩ := H
  replace H := ifT H (by cases kj10 <;> simp [laws_FnExactBestOrder.j1]); obtain ⟨rfl, H⟩ := H
  replace H := ifQ H; rcases H with ⟨c51, H⟩ | ⟨c51, H⟩
  · have c51b0 := beq_iff_eq.mpr c51
    have c51b1 := bne_eq_false_iff_eq.mpr c51
    clear c51
    have H' := Aside0.mk H
    clear H
    obtain ⟨Ao52, co52, eo52⟩ := R_slice HO_8.1
    subst eo52
    obtain ⟨Ao53, co53, eo53⟩ := V_slice HO_4.1
    subst eo53
    go_wp2_with (first | (go_at_call 8; (with_reducible refine (laws_eqIntS.calls kj10 _ _ t232 _ _ t222 true _ ?side1 ?side2 ?side3 ?side4 A49.1).mono ?_); (case side1 => exact CB (R_reads' HO_8.1).2.2); (case side2 => exact (R_reads' HO_8.1).2.1); (case side3 => repeat (first | exact (V_reads' HO_4.1).2.2 | (with_reducible refine C_alloc ?_ _) | (with_reducible refine C_drewN ?_ _) | (with_reducible refine C_drew ?_))); (case side4 => exact (V_reads' HO_4.1).2.1); rintro e w' ⟨rfl, ⟨nd, rfl⟩⟩))
    go_meet
    case rel => exact ⟨_, ((t236 != t226)), RG, H', ⟨by have := HJ10.1; first | omega | exact Nat.le_refl _⟩, ⟨by (with_reducible repeat (first | apply V_alloc | apply V_drewN | apply V_drew)); exact V_mono HO_4.1 (fun _ hk => ⟨hk.1, ⟨hk.2.1, ⟨hk.2.2.2.1, hk.2.2.2.2⟩⟩⟩)⟩, ⟨RPE (R_mono HO_8.1 (fun _ hk => hk.1))⟩, ⟨RPE (R_mono HO_232001.1 (fun _ hk => hk.1))⟩, ⟨PB BK216.1⟩, ⟨PB BK231.1⟩, ⟨BL HB.1⟩⟩
  exact absurd H (by cases kj10 <;> simp [laws_FnExactBestOrder.j1])
 clear HC40
 clear hcz46_0 hcz46_1 hfz46_0 hfz46_1
 obtain ⟨kq, x76_39, rfl, HA, HJ39, HO_4, HO_8, HO_232001, BK216, BK231, HB⟩ := hcut
 have hl232001_39 := (R_reads' HO_232001.1).1
 rw [hl232001_39] at HO_232001
 (try simp only [hl232001_39])
 (try simp only [hl232001_39] at BK216)
 (try simp only [hl232001_39] at BK231)
 (try simp only [hl232001_39] at HO_4)
 (try simp only [hl232001_39] at HO_8)
 cases kq with
 | zero => exact absurd HA.1 (by simp [laws_FnExactBestOrder.j1])
 | succ kj39 => ?_
 have H := HA.1
 clear HA
 simp only [laws_FnExactBestOrder.j1] at H
 replace H := ifF H (by simp); obtain ⟨rfl, H⟩ := H
 replace H := bindA H; obtain ⟨⟨t246, t247⟩, A59, H⟩ := H
 dsimp only at H
 replace H := bindA H; obtain ⟨t248, A60, H⟩ := H
 replace H := ifQ H; rcases H with ⟨c61, H⟩ | ⟨c61, H⟩
 · exact absurd H (by simp)
 have c61b0 := decide_eq_false c61
 clear c61
 first | replace H := ifP H | replace H := ifPf H
 obtain ⟨c64, H⟩ := H
 have c64b0 := beq_iff_eq.mpr c64
 have c64b1 := bne_eq_false_iff_eq.mpr c64
 clear c64
 replace H := bindA H; obtain ⟨⟨t249, t250⟩, A65, H⟩ := H
 dsimp only at H
 replace H := bindA H; obtain ⟨⟨t253, t256, t257⟩, A66, H⟩ := H
 dsimp only at H
 have HC67 := Aside0.mk H
 clear H
 obtain ⟨Ao68, co68, eo68⟩ := R_slice HO_8.1
 subst eo68
 go_upto_region 25 with (first | ((with_reducible refine gate_callee (f := 11) rfl ?_); refine goesM (N := (some 79)) #[.slice Ao68 t232.length co68, .int .i64 1] Try.func11 ?_; (with_reducible refine (laws_markIntS.calls kj39 (fun k_ => some k_ = (.slice Ao68 t232.length co68 : Value).ownBlock) (.slice Ao68 t232.length co68) t232 1 t246 t247 w _ ?side1 ?side2 A59.1).mono ?_); (case side1 => exact BL HB.1); (case side2 => exact R_tight rfl HO_8.1); rintro e w69 ⟨rfl, hy0, hb, hkp⟩; refine ⟨_, rfl, ?_⟩; refine E6 (V_mono (ok' := fun k_ => some k_ ≠ (.slice Ao68 t232.length co68 : Value).ownBlock /\ some k_ ≠ (.slice Ao24 t244.length co24 : Value).ownBlock /\ k_ ≠ gb216 /\ k_ ≠ gb231) (V_keptB (HO_4.1) hkp (fun k_ hk_ hs_ => (hk_.1) hs_)) (fun k_ hk_ => ⟨hk_.1.1, hk_.1.2.1, hk_.1.2.2.1, hk_.1.2.2.2⟩)) (R_reok rfl hy0 (fun k_ e_ => HO_8.1.1 k_ e_)) (R_mono (ok' := fun k_ => some k_ ≠ (.slice Ao68 t232.length co68 : Value).ownBlock) (R_keptB (HO_232001.1) hkp (fun k_ hk_ hs_ => (hk_) hs_)) (fun k_ hk_ => hk_.1)) (blk_kept (PB BK216.1) hkp (fun hs_ => (fun e_ => (R_ne HO_8.1 BK216.1 (by decide)) e_) hs_)) (blk_kept (PB BK231.1) hkp (fun hs_ => (fun e_ => (R_ne HO_8.1 BK231.1 (by decide)) e_) hs_)) (hb) ?_; clear HO_4 HO_8 HO_232001 BK216 BK231 HB; intro HO_4 HO_8 HO_232001 BK216 BK231 HB; (try clear hb); (try clear hkp); (try clear hy0)) | ((with_reducible refine gate_callee (f := 12) rfl ?_); refine goesL_ (some 82) rfl rfl Try.func12 (by kernel_rfl) rfl #[.slice Ao68 t247.length co68, .int .i64 1] rfl (by (try simp only [List.map_toArray, List.map_cons, List.map_nil]); first | done | (rw [show t247.length = t232.length from (R_reads' HO_8.1).1.symm] <;> rfl) | rfl | (simp only [List.length_drop, List.length_take]; rfl)) ?_; (with_reducible refine (laws_heldIntS.calls kj39 _ _ t247 1 t248 _ ?side1 ?side2 A60.1).mono ?_); (case side1 => exact CB (R_reads' HO_8.1).2.2); (case side2 => rw [show t247.length = t232.length from (R_reads' HO_8.1).1.symm]; exact (R_reads' HO_8.1).2.1); rintro e w' ⟨rfl, ⟨nd, rfl⟩⟩; refine ⟨_, rfl, ?_⟩; have hnb70 := NB216_231.1; have hnc70 := NB231_216.1; obtain ⟨hcz71_0, hcz71_1, hfz71_0, hfz71_1⟩ := cz2 BK216.1) | ((with_reducible refine gate_callee (f := 6) rfl ?_); refine goesM (N := (some 90)) #[.agg #[.int .i64 a0_0, .slice A0_1 l0_1.length c0_1]] Try.func6 ?_; (with_reducible refine (laws_toTable.calls kj39 a0_0 _ _ l0_1 t249 t250 _ ?side1 ?side2 A65.1).mono ?_); (case side1 => repeat (first | exact (C_below HR0_1.1 (BL HB.1)) | (with_reducible refine C_alloc ?_ _) | (with_reducible refine C_drewN ?_ _) | (with_reducible refine C_drew ?_))); (case side2 => exact HC0_1.1); rintro e w72 ⟨v251, rfl, ho0, hb⟩; refine ⟨_, rfl, ?_⟩; refine E7 (V_elder' (by (with_reducible repeat (first | apply V_alloc | apply V_drewN | apply V_drew)); exact HO_4.1) (R_base ho0) hb) (R_elder' (PR HO_8.1) (R_base ho0) hb) (R_elder' (PR HO_232001.1) (R_base ho0) hb) (R_lower (R_new' (R_new' ho0 (R_lt (PR HO_8.1))) (R_lt (PR HO_232001.1))) (bZ HB.1)) (bB BK216.1 hb) (bB BK231.1 hb) (bS HB.1 hb) ?_; clear HO_4 HO_8 HO_232001 BK216 BK231 HB; intro HO_4 HO_8 HO_232001 HO252 BK216 BK231 HB; (try clear hb); (try clear ho0); obtain ⟨Ao73, co73, eo73⟩ := R_slice HO252.1; subst eo73) | ((with_reducible refine gate_callee (f := 7) rfl ?_); refine goesM (N := (some 91)) #[.agg #[.int .i64 t249, .slice Ao73 t250.length co73]] Try.func7 ?_; (with_reducible refine (impl_BestOrder.calls kj39 t249 _ _ t250 t253 t256 t257 _ ?side1 ?side2 A66.1).mono ?_); (case side1 => exact CB (R_reads' HO252.1).2.2); (case side2 => exact (R_reads' HO252.1).2.1); rintro e w74 ⟨v254, rfl, ho0, hb⟩; refine ⟨_, rfl, ?_⟩; refine E8 (V_elder' (by (with_reducible repeat (first | apply V_alloc | apply V_drewN | apply V_drew)); exact HO_4.1) (R_base ho0) hb) (R_elder' (PR HO_8.1) (R_base ho0) hb) (R_elder' (PR HO_232001.1) (R_base ho0) hb) (R_elder' (PR HO252.1) (R_base ho0) hb) (R_lower (R_new' (R_new' (R_new' ho0 (R_lt (PR HO_8.1))) (R_lt (PR HO_232001.1))) (R_lt (PR HO252.1))) (bZ HB.1)) (bB BK216.1 hb) (bB BK231.1 hb) (bS HB.1 hb) ?_; clear HO_4 HO_8 HO_232001 HO252 BK216 BK231 HB; intro HO_4 HO_8 HO_232001 HO252 HO255 BK216 BK231 HB; (try clear hb); (try clear ho0)))
 (try simp only [Act.put, List.setIfInBounds_toArray, List.set_cons_zero, List.set_cons_succ])
 go_cut [108] (fun v108 wc => ∃ (kq : Nat) (x108_66 : Bool), v108 = .bool x108_66 /\ Aside0 (laws_FnExactBestOrder.j2 kq t247 t246 x108_66 = some true) /\ Aside0 (kq <= kj39) /\ Aside0 (Kd.R (Kd.int .i64) 3 wc w.heap.size (fun k_ => some k_ ≠ ((.slice Ao24 t244.length co24) : Value).ownBlock) (.slice Ao68 t232.length co68) t247) /\ Aside0 (Kd.R (Kd.int .i64) 3 wc w.heap.size (fun k_ => some k_ ≠ ((.slice Ao68 t232.length co68) : Value).ownBlock) (.slice Ao24 t244.length co24) t244) /\ Aside0 (wc.heap[gb216]? = some (.cells #[.int .i64 a0_0, (.slice A0_1 l0_1.length c0_1)] 24 (0, 0))) /\ Aside0 (wc.heap[gb231]? = some (.cells #[.int .i64 t227, (.slice Ao24 t244.length co24)] 28 (0, 0))) /\ Aside0 (Below w.heap.size w wc))
 case first =>
  have H := HC67.1
  clear HC67
  replace H := bindA H; obtain ⟨t258, A75, H⟩ := H
  replace H := ifT H (by cases kj39 <;> simp [laws_FnExactBestOrder.j2]); obtain ⟨rfl, H⟩ := H
  replace H := ifQ H; rcases H with ⟨c77, H⟩ | ⟨c77, H⟩
  · have c77b0 := beq_iff_eq.mpr c77
    have c77b1 := bne_eq_false_iff_eq.mpr c77
    clear c77
    (first | rw [c77b0] | (simp only [i64_w, i32_w]; rw [c77b0]) | skip)
    have H' := Aside0.mk H
    clear H
    obtain ⟨Ao78, co78, eo78⟩ := R_slice HO255.1
    subst eo78
    obtain ⟨Ao79, co79, eo79⟩ := V_slice HO_4.1
    subst eo79
    go_wp2_with (first | ((with_reducible refine gate_callee (f := 8) rfl ?_); refine goesM (N := (some 97)) #[.slice Ao78 t253.length co78, .slice Ao79 t222.length co79] Try.func8 ?_; (with_reducible refine (laws_eqIntS.calls kj39 _ _ t253 _ _ t222 true _ ?side1 ?side2 ?side3 ?side4 A75.1).mono ?_); (case side1 => exact CB (R_reads' HO255.1).2.2); (case side2 => exact (R_reads' HO255.1).2.1); (case side3 => repeat (first | exact (V_reads' HO_4.1).2.2 | (with_reducible refine C_alloc ?_ _) | (with_reducible refine C_drewN ?_ _) | (with_reducible refine C_drew ?_))); (case side4 => exact (V_reads' HO_4.1).2.1); rintro e w' ⟨rfl, ⟨nd, rfl⟩⟩; refine ⟨_, rfl, ?_⟩))
    go_meet
    case rel => exact ⟨_, ((t257 != t226)), RG, H', ⟨by have := HJ10.1; have := HJ39.1; first | omega | exact Nat.le_refl _⟩, ⟨by (try simp only [hl232001_39]); (with_reducible repeat (first | apply R_alloc | apply R_drewN | apply R_drew)); exact R_mono HO_8.1 (fun _ hk => hk.1.1)⟩, ⟨by (try simp only [hl232001_39]); (with_reducible repeat (first | apply R_alloc | apply R_drewN | apply R_drew)); exact R_mono HO_232001.1 (fun _ hk => hk.1.1)⟩, ⟨PB1 BK216.1 hl232001_39⟩, ⟨PB1 BK231.1 hl232001_39⟩, ⟨BL HB.1⟩⟩
  exact absurd H (by cases kj39 <;> simp [laws_FnExactBestOrder.j2])
 clear HC67
 clear c61b0 c64b0 c64b1 hcz71_0 hcz71_1 hfz71_0 hfz71_1
 obtain ⟨kq, x108_66, rfl, HA, HJ66, HO_8, HO_232001, BK216, BK231, HB⟩ := hcut
 have hl8_66 := (R_reads' HO_8.1).1
 rw [hl8_66] at HO_8
 (try simp only [hl8_66])
 (try simp only [hl8_66] at BK216)
 (try simp only [hl8_66] at BK231)
 (try simp only [hl8_66] at HO_232001)
 cases kq with
 | zero => exact absurd HA.1 (by simp [laws_FnExactBestOrder.j2])
 | succ kj66 => ?_
 have H := HA.1
 clear HA
 simp only [laws_FnExactBestOrder.j2] at H
 replace H := ifF H (by simp); obtain ⟨rfl, H⟩ := H
 replace H := bindA H; obtain ⟨t259, A85, H⟩ := H
 replace H := ifQ H; rcases H with ⟨c86, H⟩ | ⟨c86, H⟩
 · exact absurd H (by simp)
 have c86b0 := decide_eq_false c86
 clear c86
 first | replace H := ifP H | replace H := ifPf H
 obtain ⟨c87, H⟩ := H
 have c87b0 := beq_iff_eq.mpr c87
 have c87b1 := bne_eq_false_iff_eq.mpr c87
 clear c87
 first | (obtain rfl := Option.some.inj H) | clear H
 go_wp2_with (first | ((with_reducible refine gate_callee (f := 12) rfl ?_); refine goesM (N := (some 111)) #[.slice Ao68 t247.length co68, .int .i64 1] Try.func12 ?_; (with_reducible refine (laws_heldIntS.calls kj66 _ _ t247 1 t259 _ ?side1 ?side2 A85.1).mono ?_); (case side1 => exact CB (R_reads' HO_8.1).2.2); (case side2 => exact (R_reads' HO_8.1).2.1); rintro e w' ⟨rfl, ⟨nd, rfl⟩⟩; refine ⟨_, rfl, ?_⟩))
 go_ret
 exact ⟨RF, BL HB.1⟩
end Go.Proofs.Ythfnceilapgloaa.P
