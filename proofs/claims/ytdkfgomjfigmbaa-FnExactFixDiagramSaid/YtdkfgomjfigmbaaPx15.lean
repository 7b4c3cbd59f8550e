-- PRINTED by print.py (a twelfth state) out of the translation. Not trusted: Lean checks it.
import Derived.Test.YtdkfgomjfigmbaaPx0
import Derived.Test.YtdkfgomjfigmbaaPx11
namespace Go.Proofs.Ytdkfgomjfigmbaa.P
open Go.RowKit Go.Proofs.YtdkfgomjfigmbaaW.PrintWords Go.Proofs.YtdkfgomjfigmbaaW.PrintLast Go.Proofs.YtdkfgomjfigmbaaW.PrintMore
attribute [local go_sem] max2_int min2_int max_two min_two max_three min_three max_four min_four   -- for this text's walks alone
set_option linter.unusedVariables false
set_option linter.unusedSimpArgs false

/-! ### impl_bitList: function 80 -/
open Kd
def impl_bitList.l0 : Nat -> Int -> List Int -> Int -> Int -> Option (List Int)
 | 0, _, _, _, _ => none
 | k + 1, x0, x5, x10, x11 => if x11 < x10 then (if 0 <= x11 then (if x11 < (x5.length : Int) then (impl_bitList.l0 k x0 (x5.set (x11 : Int).toNat (Go.bits .and .i64 (shr .i64 x0 x11) 1)) x10 (wrap64 (x11 + 1))) else (none)) else (none)) else (some x5)
def impl_bitList.f (k : Nat) (a0 : Int) (a1 : Int) : Option (List Int) := if 0 <= a1 then (if (a1 : Int).toNat <= 35184372088832 then ((some (List.replicate (a1 : Int).toNat 0 : List Int)).bind fun y380 => (impl_bitList.l0 k a0 y380 (y380.length : Int) 0)) else (none)) else (none)
theorem impl_bitList.mono_l : ∀ k, (∀ y0 y1 y2 y3, LeO (impl_bitList.l0 k y0 y1 y2 y3) (impl_bitList.l0 (k + 1) y0 y1 y2 y3))
 | 0 => fun _ _ _ _ r h => by simp [impl_bitList.l0] at h
 | k + 1 => by
  have ih0 := impl_bitList.mono_l k
  intros
  first | unfold impl_bitList.l0
  repeat' first | (with_reducible first | apply ih0 | exact LeO.refl _ | exact LeO.none _ | refine LeO.ite ?_ ?_ | refine LeO.bind ?_ (fun _ => ?_)) | exact LeO.none _ | refine LeO.ite ?_ ?_ | refine LeO.bind ?_ (fun _ => ?_)
theorem impl_bitList.mono : ∀ a0 a1 k, LeO (impl_bitList.f k a0 a1) (impl_bitList.f (k + 1) a0 a1) := by
 intro a0 a1 k
 have ih0 := impl_bitList.mono_l k
 unfold impl_bitList.f
 repeat' first | (with_reducible first | apply ih0 | exact LeO.refl _ | exact LeO.none _ | refine LeO.ite ?_ ?_ | refine LeO.bind ?_ (fun _ => ?_)) | exact LeO.none _ | refine LeO.ite ?_ ?_ | refine LeO.bind ?_ (fun _ => ?_)
set_option maxHeartbeats 8000000 in
set_option maxRecDepth 100000 in
theorem impl_bitList.calls (k : Nat) (a0 : Int) (a1 : Int) (r : List Int) (w : World) (h : impl_bitList.f k a0 a1 = some r) :
 Calls Try.prog 80 #[.int .i64 a0, .int .i64 a1] w fun e w' => ∃ v0_ : Value, e = .returned (v0_) /\ Kd.R (Kd.int .i64) 3 w' w.heap.size (fun _ => True) v0_ r /\ Below w.heap.size w w' := by
 have HB := Aside0.mk (Below.refl w.heap.size w)
 have H := h
 clear h
 unfold impl_bitList.f at H
 replace H := ifP H; obtain ⟨c3, H⟩ := H
 have c3b0 := eq_true c3
 have c3b1 := decide_eq_true c3
 clear c3
 replace H := ifP H; obtain ⟨c4, H⟩ := H
 have c4b0 := eq_true c4
 have c4b1 := decide_eq_true c4
 clear c4
 replace H := nameB H; obtain ⟨y380, Ny380, H⟩ := H
 have H' := Aside0.mk H
 clear H
 go_enter Try.func80, Try.ntmps80
 go_wp2_with (first | ((with_reducible refine gate_dst (N := 8) rfl ?_); refine R_make (Kd.int .i64) _ 3 rfl (N := 8) rfl 35 _ _ rfl a1 rfl rfl Try.underlying35 (.int .i64 0) 8 info3 rfl (by decide) (by omega) 0 (ok := fun _ => True) (okp := fun _ => True) rfl (fun _ hk => hk) trivial (OD) (Nat.le_trans (Nat.mul_le_mul_right _ (OD : a1.toNat <= 35184372088832)) (by omega)) (Below.refl _ _) (Nat.le_refl _) ?_; intro v381 w5 ho6 hb hg_ hnew_; clear hg_ hnew_; (first | rw [<- Ny380.1] at ho6 | (simp only [Int.reduceToNat] at ho6; rw [<- Ny380.1] at ho6)); refine E2 (R_lower ho6 (bZ HB.1)) (bS HB.1 hb) ?_; clear HB; intro HO382 HB; clear hb ho6; obtain ⟨Ao7, co7, eo7⟩ := R_slice HO382.1; subst eo7))
 go_loopg [11] k (fun kq v11 w' => ∃ (x5_1 : List Int) (x11_1 : Int), v11 = .int .i64 x11_1 /\ Aside0 (impl_bitList.l0 kq a0 x5_1 (y380.length : Int) x11_1 = some r) /\ Aside0 (kq <= k) /\ Aside0 (Kd.R (Kd.int .i64) 3 w' w.heap.size (fun _ => True) (.slice Ao7 y380.length co7) x5_1) /\ Aside0 (Below w.heap.size w w'))
 case atStart => exact ⟨(y380), (0), RG, H', ⟨Nat.le_refl _⟩, ⟨PR HO382.1⟩, ⟨BL HB.1⟩⟩
 clear H'
 clear c3b0 c3b1 c4b0 c4b1
 obtain ⟨x5_1, x11_1, rfl, HA, HK1, HO_5, HB⟩ := hrel
 have hl5_1 := (R_reads' HO_5.1).1
 rw [hl5_1] at HO_5
 (try simp only [hl5_1])
 cases gk with
 | zero => exact absurd HA.1 (by simp [impl_bitList.l0])
 | succ k1 => ?_
 have H := HA.1
 clear HA
 simp only [impl_bitList.l0] at H
 replace H := ifB H; rcases H with ⟨c8b0, H⟩ | ⟨c8b0, H⟩
 · replace H := ifP H; obtain ⟨c9, H⟩ := H
   have c9b0 := eq_true c9
   have c9b1 := decide_eq_true c9
   clear c9
   obtain ⟨ji10, hji10⟩ : ∃ j_ : Int, (shr .i64 a0 x11_1) = j_ := ⟨_, rfl⟩
   replace H : (if x11_1 < (x5_1.length : Int) then (impl_bitList.l0 k1 a0 (x5_1.set (x11_1 : Int).toNat (Go.bits .and .i64 (ji10) 1)) (y380.length : Int) (wrap64 (x11_1 + 1))) else (none)) = some r := by first | (rw [hji10] at H; exact H) | (simp only [hji10] at H ⊢; exact H)
   have hji10_ : (a0 / 2 ^ min x11_1.toNat 64) = ji10 := hji10
   have hji10z : x11_1 <= 64 -> (a0 / 2 ^ x11_1.toNat) = ji10 := shr_small hji10
   replace H := ifN H; obtain ⟨c11b0, H⟩ := H
   generalize hy383 : ((x5_1.set (x11_1 : Int).toNat (Go.bits .and .i64 (ji10) 1)) : List Int) = y383 at H
   have Ny383 := Aside0.mk hy383.symm; clear hy383
   have H' := Aside0.mk H
   clear H
   have p12 : 0 <= (x11_1 : Int) := OD
   have q12 : (x11_1 : Int) < ((x5_1.length : Int) : Int) := OD
   obtain ⟨go12, co12, eo12, gb12, gl12, cl12, HG12⟩ := R_form HO_5.1 (by omega)
   (first | cases eo12 | (injection eo12 with ea_ en_ ec_; (first | subst ea_ | (injection ea_ with ea_; subst ea_)); subst ec_; clear en_))
   have GB12 := Aside0.mk gb12
   have GG12 := Aside0.mk HG12
   clear gb12 gl12 HG12
   obtain ⟨hx12_0, hf12_0⟩ := R_celln 0 HO_5.1 (x11_1 : Int) p12 q12
   replace p12 := eq_true p12
   replace q12 := eq_true q12
   have HP13 := R_putg HO_5.1 (x11_1 : Int) (Go.bits .and .i64 (ji10) 1)
   go_wp2_with (first | ((with_reducible refine gate_store (t := 3) (p := 20) rfl ?_); refine storeE (t := 3) (p := 20) (w1 := (wr.setCell ⟨go12, (x11_1 : Int).toNat, none⟩ (.int .i64 (Go.bits .and .i64 (ji10) 1)))) ?_; intro w14 hw; have hg : wr.grownBy w14 (some go12) := (by rw [hw]; exact HP13.2); have hp_ : Kd.R (Kd.int .i64) 3 w14 w.heap.size (fun _ => True) (.slice (some ⟨go12, 0, none⟩) x5_1.length co7) y383 := (by rw [hw, Ny383.1]; exact HP13.1); clear HP13; refine E2 (hp_) ((by rw [hw]; exact below_set (HB.1) GB12.1 : Below w.heap.size w w14)) ?_; clear HO_5 HB; intro HO_5 HB; clear hg hw hp_))
   (try simp only [<- hl5_1])
   go_roundg k1
   case measure => have := HK1.1; omega
   case rel => exact ⟨(y383), (wrap64 (x11_1 + 1)), RG, H', ⟨by have := HK1.1; omega⟩, ⟨PR1 HO_5.1 hl5_1⟩, ⟨BL HB.1⟩⟩
 (try simp only [hl5_1] at c8b0)
 obtain rfl := Option.some.inj H
 go_wp2
 go_ret
 exact ⟨_, RF, RPE (HO_5.1), BL HB.1⟩
/-! ### impl_tableOfDiagram: function 59 -/
open Kd
def impl_tableOfDiagram.l0 : Nat -> Int -> Int -> Int -> List (S63) -> Int -> Int -> List Int -> Option (Int × List Int)
 | 0, _, _, _, _, _, _, _ => none
 | k + 1, x14, x15, x385000, x385001, x385002, x390000, x390001 => if x15 < x14 then ((impl_bitList.f k x15 x385000).bind fun t390 => ((impl_diagramValue.f k x385000 x385001 x385002 t390).bind fun t393 => (if 0 <= x15 then (if x15 < (x390001.length : Int) then (impl_tableOfDiagram.l0 k x14 (wrap64 (x15 + 1)) x385000 x385001 x385002 x390000 (x390001.set (x15 : Int).toNat t393)) else (none)) else (none)))) else (some (x390000, x390001))
def impl_tableOfDiagram.f (k : Nat) (a0_0 : Int) (l0_1 : List (S63)) (a0_2 : Int) : Option (Int × List Int) := if 0 <= a0_0 then (if 0 <= (shl .i64 1 a0_0) then (if (shl .i64 1 a0_0 : Int).toNat <= 35184372088832 then ((some (List.replicate (shl .i64 1 a0_0 : Int).toNat 0 : List Int)).bind fun y386 => (impl_tableOfDiagram.l0 k (y386.length : Int) 0 a0_0 l0_1 a0_2 a0_0 y386)) else (none)) else (none)) else (none)
theorem impl_tableOfDiagram.mono_l : ∀ k, (∀ y0 y1 y2 y3 y4 y5 y6, LeO (impl_tableOfDiagram.l0 k y0 y1 y2 y3 y4 y5 y6) (impl_tableOfDiagram.l0 (k + 1) y0 y1 y2 y3 y4 y5 y6))
 | 0 => fun _ _ _ _ _ _ _ r h => by simp [impl_tableOfDiagram.l0] at h
 | k + 1 => by
  have ih0 := impl_tableOfDiagram.mono_l k
  intros
  first | unfold impl_tableOfDiagram.l0
  repeat' first | (with_reducible first | apply ih0 | apply impl_bitList.mono | apply impl_diagramValue.mono | exact LeO.refl _ | exact LeO.none _ | refine LeO.ite ?_ ?_ | refine LeO.bind ?_ (fun _ => ?_)) | exact LeO.none _ | refine LeO.ite ?_ ?_ | refine LeO.bind ?_ (fun _ => ?_)
theorem impl_tableOfDiagram.mono : ∀ a0 a1 a2 k, LeO (impl_tableOfDiagram.f k a0 a1 a2) (impl_tableOfDiagram.f (k + 1) a0 a1 a2) := by
 intro a0 a1 a2 k
 have ih0 := impl_tableOfDiagram.mono_l k
 unfold impl_tableOfDiagram.f
 repeat' first | (with_reducible first | apply ih0 | apply impl_bitList.mono | apply impl_diagramValue.mono | exact LeO.refl _ | exact LeO.none _ | refine LeO.ite ?_ ?_ | refine LeO.bind ?_ (fun _ => ?_)) | exact LeO.none _ | refine LeO.ite ?_ ?_ | refine LeO.bind ?_ (fun _ => ?_)
def impl_tableOfDiagram.T1 : Bool × List (List Nat × List Nat) := (true, [([], []), ([0], [0]), ([], []), ([2], [2]), ([3], [3]), ([4, 4], [4]), ([1, 5], [1, 5]), ([], []), ([7, 6, 0, 1, 2, 3, 4, 5, 6, 7], [6, 7])])
def impl_tableOfDiagram.B1 : List Nat := [0, 1, 0, 4, 12, 28, 63, 0, 255]
theorem impl_tableOfDiagram.tab1 : rtab .any (opsOf Try.f59 1) = impl_tableOfDiagram.T1 := by kernel_rfl
theorem impl_tableOfDiagram.bits1 : waitsOk impl_tableOfDiagram.T1.2 impl_tableOfDiagram.B1 = true := by kernel_rfl
def impl_tableOfDiagram.T5 : Bool × List (List Nat × List Nat) := (true, [([], []), ([0], [0]), ([], []), ([], []), ([], []), ([], []), ([5], [5]), ([4, 6], [4, 6]), ([3, 7, 7], [3, 7]), ([1, 2, 0, 1, 2, 3, 4, 5, 6, 7, 8], [1, 2]), ([9, 8, 8, 0, 1, 2, 3, 4, 5, 6, 7, 8], [8, 9])])
def impl_tableOfDiagram.B5 : List Nat := [0, 1, 0, 0, 0, 0, 32, 112, 248, 511, 1023]
theorem impl_tableOfDiagram.tab5 : rtab .any (opsOf Try.f59 5) = impl_tableOfDiagram.T5 := by kernel_rfl
theorem impl_tableOfDiagram.bits5 : waitsOk impl_tableOfDiagram.T5.2 impl_tableOfDiagram.B5 = true := by kernel_rfl
set_option maxHeartbeats 8000000 in
set_option maxRecDepth 100000 in
theorem impl_tableOfDiagram.calls (k : Nat) (a0_0 : Int) (A0_1 : Option Addr) (c0_1 : Nat) (l0_1 : List (S63)) (a0_2 : Int) (r1 : Int) (r2 : List Int) (w : World) (hr0_1 : Kd.C k63 w A0_1 l0_1.length l0_1) (hc0_1 : l0_1.length <= c0_1) (h : impl_tableOfDiagram.f k a0_0 l0_1 a0_2 = some (r1, r2)) :
 Calls Try.prog 59 #[.agg #[.int .i64 a0_0, .slice A0_1 l0_1.length c0_1, .int .i64 a0_2]] w fun e w' => ∃ v1_ : Value, e = .returned (.agg #[.int .i64 r1, v1_]) /\ Kd.R (Kd.int .i64) 3 w' w.heap.size (fun _ => True) v1_ r2 /\ Below w.heap.size w w' := by
 have hu29 := Try.underlying29
 have hu41 := Try.underlying41
 have HR0_1 := Aside0.mk hr0_1
 have HC0_1 := Aside0.mk hc0_1
 clear hr0_1 hc0_1
 have HB := Aside0.mk (Below.refl w.heap.size w)
 have H := h
 clear h
 unfold impl_tableOfDiagram.f at H
 replace H := ifP H; obtain ⟨c2, H⟩ := H
 have c2b0 := eq_true c2
 have c2b1 := decide_eq_true c2
 clear c2
 obtain ⟨ji3, hji3⟩ : ∃ j_ : Int, (shl .i64 1 a0_0) = j_ := ⟨_, rfl⟩
 replace H : (if 0 <= (ji3) then (if (ji3 : Int).toNat <= 35184372088832 then ((some (List.replicate (ji3 : Int).toNat 0 : List Int)).bind fun y386 => (impl_tableOfDiagram.l0 k (y386.length : Int) 0 a0_0 l0_1 a0_2 a0_0 y386)) else (none)) else (none)) = some (r1, r2) := by first | (rw [hji3] at H; exact H) | (simp only [hji3] at H ⊢; exact H)
 have hji3_ : (IntKind.i64.wrap (1 * 2 ^ min a0_0.toNat 64)) = ji3 := hji3
 have hji3z : a0_0 <= 64 -> (IntKind.i64.wrap (1 * 2 ^ a0_0.toNat)) = ji3 := shl_small hji3
 have hji3u : (IntKind.i64.wrap (2 ^ min a0_0.toNat 64)) = ji3 := by have h_ := hji3_; rw [Int.one_mul] at h_; exact h_
 have hji3v : a0_0 <= 64 -> (IntKind.i64.wrap (2 ^ a0_0.toNat)) = ji3 := fun hle_ => by have h_ := hji3z hle_; rw [Int.one_mul] at h_; exact h_
 have hji3y : (wrap64 (1 * 2 ^ min a0_0.toNat 64)) = ji3 := (i64_w _).symm.trans hji3_
 have hji3x : a0_0 <= 64 -> (wrap64 (1 * 2 ^ a0_0.toNat)) = ji3 := fun h_ => (i64_w _).symm.trans (hji3z h_)
 replace H := ifP H; obtain ⟨c4, H⟩ := H
 have c4b0 := eq_true c4
 have c4b1 := decide_eq_true c4
 clear c4
 replace H := ifP H; obtain ⟨c5, H⟩ := H
 have c5b0 := eq_true c5
 have c5b1 := decide_eq_true c5
 clear c5
 replace H := nameB H; obtain ⟨y386, Ny386, H⟩ := H
 have H' := Aside0.mk H
 clear H
 go_enter Try.func59, Try.ntmps59
 try go_wp2_with (first | ((with_reducible refine gate_dst (N := 1) rfl ?_); refine boxE (cs := #[.int .i64 a0_0, .slice A0_1 l0_1.length c0_1, .int .i64 a0_2]) (t := 29) ?_; intro gb384 hg w6 hbox hb; refine E4b HB.1 hg hbox hb ?_; clear HB; intro HB BK384 GW384 GE384; clear hb hbox hg) | ((with_reducible refine gate_dst (N := 2) rfl ?_); refine boxE (cs := #[.int .i64 0, .slice none 0 0]) (t := 41) ?_; intro gb385 hg w7 hbox hb; refine E7 (bB BK384.1 hb) (bS HB.1 hb) (hbox) (gX HB.1 hg) (gX HB.1 hg) (nB BK384.1 hg) (nC BK384.1 hg) ?_; clear BK384 HB; intro BK384 HB BK385 GW385 GE385 NB384_385 NB385_384; clear hb hbox hg))
 refine E3 (blk_drew BK384.1) (blk_drew BK385.1) (below_drew1 HB.1) ?_
 clear BK384 BK385 HB
 intro BK384 BK385 HB
 refine start_ (n := 9) (S := fun w' => w'.cell? ⟨gb384, 0, none⟩ = some (.int .i64 a0_0) /\ w'.cell? ⟨gb384, 1, none⟩ = some (.slice A0_1 l0_1.length c0_1) /\ w'.cell? ⟨gb384, 2, none⟩ = some (.int .i64 a0_2)) (ds := []) #[Zz,Zz,Zz,Zz,Zz,Zz,Zz,Zz,Zz] (by kernel_rfl) rfl rfl ⟨(blk_cell BK384.1 0).trans rfl, (blk_cell BK384.1 1).trans rfl, (blk_cell BK384.1 2).trans rfl⟩ (fun hHeld => ?_); refine with_tabW impl_tableOfDiagram.tab1 impl_tableOfDiagram.bits1 (fun HT_ HW_ => ?_)
 generalize w7.drew = w8 at BK384 BK385 HB hHeld ⊢
 refine pureF 0 (N := some 5) HT_.1 ?_
 refine pureF 2 (N := some 7) HT_.1 ?_
 refine takeE 1 (N := some 6) HT_.1 HW_.1 hHeld ?_
 refine takeE 3 (N := some 8) HT_.1 HW_.1 hHeld ?_
 refine pureF 4 (N := some 9) HT_.1 ?_
 refine join_ (σ := Value × Nat) 1 #[Yy,Yy,Yy,Yy,Yy,Yy,Yy,Yy,Zz] (fun s_ => [(10, s_.1), (3, .pointer (some ⟨s_.2, 0, none⟩)), (11, .agg #[.int .i64 a0_0, s_.1])]) (fun s_ w' => (w'.cell? ⟨gb384, 0, none⟩ = some (.int .i64 a0_0) /\ w'.cell? ⟨gb384, 1, none⟩ = some (.slice A0_1 l0_1.length c0_1) /\ w'.cell? ⟨gb384, 2, none⟩ = some (.int .i64 a0_2)) /\ (Kd.R (Kd.int .i64) 3 w' w.heap.size (fun _ => True) s_.1 y386) /\ (w'.heap[gb384]? = some (.cells #[.int .i64 a0_0, .slice A0_1 l0_1.length c0_1, .int .i64 a0_2] 29 (0, 0))) /\ (w'.heap[gb385]? = some (.cells #[.int .i64 0, .slice none 0 0] 41 (0, 0))) /\ (w'.heap[s_.2]? = some (.cells #[.int .i64 0, .slice none 0 0] 41 (0, 0))) /\ (w.heap.size <= s_.2) /\ (w.heap.size <= s_.2) /\ (gb384 ≠ s_.2) /\ (s_.2 ≠ gb384) /\ (gb385 ≠ s_.2) /\ (s_.2 ≠ gb385) /\ (Below w.heap.size w w')) ?_ ?_
 rotate_left
 · intro hCont
   refine two_ (i := 5) (j := 7) (Ni := some 10) (Nj := some 3) #[Yy,Yy,Yy,Yy,Yy,Yy,Zz,Zz,Zz] #[Yy,Yy,Yy,Yy,Yy,Zz,Zz,Yy,Zz] rfl rfl rfl rfl (two_of HT_.1 (by kernel_rfl)) (by decide) (by decide) (fun K hK => ?_) (fun K hK => ?_)
   · skip
     refine R_make_step (Kd.int .i64) _ 3 (by rfl) (N := 10) rfl 35 _ _ rfl ji3 rfl rfl Try.underlying35 (.int .i64 0) 8 info3 rfl (by decide) (by omega) 0 (ok := fun _ => True) (okp := fun _ => True) rfl (fun _ hk => hk) trivial (OD) (Nat.le_trans (Nat.mul_le_mul_right _ (OD : ji3.toNat <= 35184372088832)) (by omega)) (Below.refl _ _) (Nat.le_refl _) ?_
     intro v387 w9 ho10 hb hg_ hnew_
     clear hg_ hnew_
     (first | rw [<- Ny386.1] at ho10 | (simp only [Int.reduceToNat] at ho10; rw [<- Ny386.1] at ho10))
     refine E4 (R_lower ho10 (bZ HB.1)) (bB BK384.1 hb) (bB BK385.1 hb) (bS HB.1 hb) ?_
     clear BK384 BK385 HB
     intro HO388 BK384 BK385 HB
     clear hb ho10
     obtain ⟨Ao11, co11, eo11⟩ := R_slice HO388.1
     (first | subst eo11 | (injection eo11 with f1_ f2_ f3_; have f4_ := f1_.symm; have f5_ := f3_.symm; clear f1_ f2_ f3_; subst f4_; subst f5_))
     refine hK.out _ _ ⟨(blk_cell BK384.1 0).trans rfl, (blk_cell BK384.1 1).trans rfl, (blk_cell BK384.1 2).trans rfl⟩ (fun hHeld => ?_)
     clear hK K
     refine norm_ (a' := ?_) ?_ ?_
     rotate_left
     · show Act.put _ (some 10) _ = _
       simp only [Act.put, List.setIfInBounds_toArray, List.set_cons_zero, List.set_cons_succ, i64_w, i32_w]
       rfl
     refine pureF 6 (N := some 11) HT_.1 ?_
     refine one_ (i := 7) (N := some 3) #[Yy,Yy,Yy,Yy,Yy,Yy,Yy,Yy,Zz] rfl rfl (one_of HT_.1 (by kernel_rfl)) (by decide) (fun K hK => ?_)
     refine box_step ?hg (N := 3) ?hd (cs := #[.int .i64 0, .slice none 0 0]) (t := 41) ?hr ?_; (case hd => rfl); (case hg => rfl); (case hr => first | (go_simp; done) | (go_simp; rfl))
     intro gb389 hg w12 hbox hb
     refine E11 (rB HO388.1 hb) (bB BK384.1 hb) (bB BK385.1 hb) (bS HB.1 hb) (hbox) (gX HB.1 hg) (gX HB.1 hg) (nB BK384.1 hg) (nC BK384.1 hg) (nB BK385.1 hg) (nC BK385.1 hg) ?_
     clear HO388 BK384 BK385 HB
     intro HO388 BK384 BK385 HB BK389 GW389 GE389 NB384_389 NB389_384 NB385_389 NB389_385
     clear hb hbox hg
     refine hK.out _ _ ⟨(blk_cell BK384.1 0).trans rfl, (blk_cell BK384.1 1).trans rfl, (blk_cell BK384.1 2).trans rfl⟩ (fun hHeld => ?_)
     clear hK K
     refine norm_ (a' := ?_) ?_ ?_
     rotate_left
     · show Act.put _ (some 3) _ = _
       simp only [Act.put, List.setIfInBounds_toArray, List.set_cons_zero, List.set_cons_succ, i64_w, i32_w]
       rfl
     exact norm_ NA (hCont (.slice Ao11 y386.length co11, gb389) _ ⟨hHeld, (PR HO388.1), (PB BK384.1), (PB BK385.1), (PB BK389.1), GW389.1, GE389.1, NB384_389.1, NB389_384.1, NB385_389.1, NB389_385.1, (BL HB.1)⟩)
   skip
   refine box_step ?hg (N := 3) ?hd (cs := #[.int .i64 0, .slice none 0 0]) (t := 41) ?hr ?_; (case hd => rfl); (case hg => rfl); (case hr => first | (go_simp; done) | (go_simp; rfl))
   intro gb389 hg w9 hbox hb
   refine E10 (bB BK384.1 hb) (bB BK385.1 hb) (bS HB.1 hb) (hbox) (gX HB.1 hg) (gX HB.1 hg) (nB BK384.1 hg) (nC BK384.1 hg) (nB BK385.1 hg) (nC BK385.1 hg) ?_
   clear BK384 BK385 HB
   intro BK384 BK385 HB BK389 GW389 GE389 NB384_389 NB389_384 NB385_389 NB389_385
   clear hb hbox hg
   refine hK.out _ _ ⟨(blk_cell BK384.1 0).trans rfl, (blk_cell BK384.1 1).trans rfl, (blk_cell BK384.1 2).trans rfl⟩ (fun hHeld => ?_)
   clear hK K
   refine norm_ (a' := ?_) ?_ ?_
   rotate_left
   · show Act.put _ (some 3) _ = _
     simp only [Act.put, List.setIfInBounds_toArray, List.set_cons_zero, List.set_cons_succ, i64_w, i32_w]
     rfl
   refine one_ (i := 5) (N := some 10) #[Yy,Yy,Yy,Yy,Yy,Yy,Zz,Yy,Zz] rfl rfl (one_of HT_.1 (by kernel_rfl)) (by decide) (fun K hK => ?_)
   refine R_make_step (Kd.int .i64) _ 3 (by rfl) (N := 10) rfl 35 _ _ rfl ji3 rfl rfl Try.underlying35 (.int .i64 0) 8 info3 rfl (by decide) (by omega) 0 (ok := fun _ => True) (okp := fun _ => True) rfl (fun _ hk => hk) trivial (OD) (Nat.le_trans (Nat.mul_le_mul_right _ (OD : ji3.toNat <= 35184372088832)) (by omega)) (Below.refl _ _) (Nat.le_refl _) ?_
   intro v387 w10 ho11 hb hg_ hnew_
   clear hg_ hnew_
   (first | rw [<- Ny386.1] at ho11 | (simp only [Int.reduceToNat] at ho11; rw [<- Ny386.1] at ho11))
   refine E5 (R_lower ho11 (bZ HB.1)) (bB BK384.1 hb) (bB BK385.1 hb) (bB BK389.1 hb) (bS HB.1 hb) ?_
   clear BK384 BK385 BK389 HB
   intro HO388 BK384 BK385 BK389 HB
   clear hb ho11
   obtain ⟨Ao12, co12, eo12⟩ := R_slice HO388.1
   (first | subst eo12 | (injection eo12 with f1_ f2_ f3_; have f4_ := f1_.symm; have f5_ := f3_.symm; clear f1_ f2_ f3_; subst f4_; subst f5_))
   refine hK.out _ _ ⟨(blk_cell BK384.1 0).trans rfl, (blk_cell BK384.1 1).trans rfl, (blk_cell BK384.1 2).trans rfl⟩ (fun hHeld => ?_)
   clear hK K
   refine norm_ (a' := ?_) ?_ ?_
   rotate_left
   · show Act.put _ (some 10) _ = _
     simp only [Act.put, List.setIfInBounds_toArray, List.set_cons_zero, List.set_cons_succ, i64_w, i32_w]
     rfl
   refine pureF 6 (N := some 11) HT_.1 ?_
   exact norm_ NA (hCont (.slice Ao12 y386.length co12, gb389) _ ⟨hHeld, (PR HO388.1), (PB BK384.1), (PB BK385.1), (PB BK389.1), GW389.1, GE389.1, NB384_389.1, NB389_384.1, NB385_389.1, NB389_385.1, (BL HB.1)⟩)
 rintro ⟨v387, gb389⟩ w13 ⟨hS_, h0_, h1_, h2_, h3_, h4_, h5_, h6_, h7_, h8_, h9_, h10_⟩
 refine E11 (show Kd.R (Kd.int .i64) 3 w13 w.heap.size (fun _ => True) v387 y386 from h0_) (show w13.heap[gb384]? = some (.cells #[.int .i64 a0_0, .slice A0_1 l0_1.length c0_1, .int .i64 a0_2] 29 (0, 0)) from h1_) (show w13.heap[gb385]? = some (.cells #[.int .i64 0, .slice none 0 0] 41 (0, 0)) from h2_) (show w13.heap[gb389]? = some (.cells #[.int .i64 0, .slice none 0 0] 41 (0, 0)) from h3_) (show w.heap.size <= gb389 from h4_) (show w.heap.size <= gb389 from h5_) (show gb384 ≠ gb389 from h6_) (show gb389 ≠ gb384 from h7_) (show gb385 ≠ gb389 from h8_) (show gb389 ≠ gb385 from h9_) (show Below w.heap.size w w13 from h10_) ?_
 clear BK384 BK385 HB h0_ h1_ h2_ h3_ h4_ h5_ h6_ h7_ h8_ h9_ h10_
 intro HO388 BK384 BK385 BK389 GW389 GE389 NB384_389 NB389_384 NB385_389 NB389_385 HB
 have hHeld : w13.cell? ⟨gb384, 0, none⟩ = some (.int .i64 a0_0) /\ w13.cell? ⟨gb384, 1, none⟩ = some (.slice A0_1 l0_1.length c0_1) /\ w13.cell? ⟨gb384, 2, none⟩ = some (.int .i64 a0_2) := hS_
 obtain ⟨Ao14, co14, eo14⟩ := R_slice HO388.1
 (first | subst eo14 | (injection eo14 with f1_ f2_ f3_; have f4_ := f1_.symm; have f5_ := f3_.symm; clear f1_ f2_ f3_; subst f4_; subst f5_))
 refine norm_ (a' := ?_) ?_ ?_
 rotate_left
 · simp only [putAll, Act.put, List.setIfInBounds_toArray, List.set_cons_zero, List.set_cons_succ]
   rfl
 refine one_ (i := 8) (N := none) #[Yy,Yy,Yy,Yy,Yy,Yy,Yy,Yy,Yy] rfl rfl (one_of HT_.1 (by kernel_rfl)) (by decide) (fun K hK => ?_)
 obtain ⟨hs15, hs16, hfs15, hfs16⟩ := cz2 BK389.1
 have hns15_0 := NB384_389.1
 have hns15_1 := NB385_389.1
 have hms15_0 := NB389_384.1
 have hms15_1 := NB389_385.1
 refine skip_ (w1 := ?_) (by rfl) rfl ?_ ?_
 rotate_left
 · go_simp
   rfl
 refine hK.out _ _ ⟨(CF2 NB384_389.1 hHeld.1), (CF2 NB384_389.1 hHeld.2.1), (CF2 NB384_389.1 hHeld.2.2)⟩ (fun hHeld => ?_)
 clear hK K
 refine done_ (done_of HT_.1 (by kernel_rfl)) ?_
 obtain ⟨hcz19_0, hcz19_1, hfz19_0, hfz19_1⟩ := cz2 BK389.1
 try go_wp2
 go_loopg [15] k (fun kq v15 w' => ∃ (x15_1 : Int) (x390001_1 : List Int) (u390001 : Value), v15 = .int .i64 x15_1 /\ Aside0 (impl_tableOfDiagram.l0 kq (y386.length : Int) x15_1 a0_0 l0_1 a0_2 a0_0 x390001_1 = some (r1, r2)) /\ Aside0 (kq <= k) /\ Aside0 (Kd.R (Kd.int .i64) 3 w' w.heap.size (fun _ => True) u390001 x390001_1) /\ Aside0 (w'.heap[gb384]? = some (.cells #[.int .i64 a0_0, (.slice A0_1 l0_1.length c0_1), .int .i64 a0_2] 29 (0, 0))) /\ Aside0 (w'.heap[gb385]? = some (.cells #[.int .i64 0, (.slice none 0 0)] 41 (0, 0))) /\ Aside0 (w'.heap[gb389]? = some (.cells #[.int .i64 a0_0, u390001] 41 (0, 0))) /\ Aside0 (Below w.heap.size w w'))
 case atStart => exact ⟨(0), (y386), (.slice Ao14 y386.length co14), RG, H', ⟨Nat.le_refl _⟩, ⟨by (with_reducible repeat (first | apply R_alloc | apply R_drewN | apply R_drew)); exact R_mono (RQ gb389 1 (RQ gb389 0 (R_types HO388.1 BK389.1 (by decide)) _) _) (fun _ hk => trivial)⟩, ⟨by (with_reducible repeat (first | refine blk_drewN ?_ _ | refine blk_drew ?_ | refine blk_alloc ?_ _)); refine blk_far ?_ NB384_389.1 _; (with_reducible repeat (first | refine blk_drewN ?_ _ | refine blk_drew ?_ | refine blk_alloc ?_ _)); refine blk_far ?_ NB384_389.1 _; (with_reducible repeat (first | refine blk_drewN ?_ _ | refine blk_drew ?_ | refine blk_alloc ?_ _)); exact BK384.1⟩, ⟨by (with_reducible repeat (first | refine blk_drewN ?_ _ | refine blk_drew ?_ | refine blk_alloc ?_ _)); refine blk_far ?_ NB385_389.1 _; (with_reducible repeat (first | refine blk_drewN ?_ _ | refine blk_drew ?_ | refine blk_alloc ?_ _)); refine blk_far ?_ NB385_389.1 _; (with_reducible repeat (first | refine blk_drewN ?_ _ | refine blk_drew ?_ | refine blk_alloc ?_ _)); exact BK385.1⟩, ⟨by (with_reducible repeat (first | refine blk_drewN ?_ _ | refine blk_drew ?_ | refine blk_alloc ?_ _)); refine blk_put (cs := #[.int .i64 a0_0, .slice none 0 0]) ?_ 1 _ rfl; (with_reducible repeat (first | refine blk_drewN ?_ _ | refine blk_drew ?_ | refine blk_alloc ?_ _)); refine blk_put (cs := #[.int .i64 0, .slice none 0 0]) ?_ 0 _ rfl; (with_reducible repeat (first | refine blk_drewN ?_ _ | refine blk_drew ?_ | refine blk_alloc ?_ _)); exact BK389.1⟩, ⟨BL HB.1⟩⟩
 clear H'
 clear c2b0 c2b1 c4b0 c4b1 c5b0 c5b1 hcz19_0 hcz19_1 hfz19_0 hfz19_1
 obtain ⟨x15_1, x390001_1, u390001, rfl, HA, HK1, HO_390001, BK384, BK385, BK389, HB⟩ := hrel
 cases gk with
 | zero => exact absurd HA.1 (by simp [impl_tableOfDiagram.l0])
 | succ k1 => ?_
 have H := HA.1
 clear HA
 simp only [impl_tableOfDiagram.l0] at H
 replace H := ifB H; rcases H with ⟨c20b0, H⟩ | ⟨c20b0, H⟩
 · replace H := bindA H; obtain ⟨t390, A21, H⟩ := H
   replace H := bindA H; obtain ⟨t393, A22, H⟩ := H
   replace H := ifN H; obtain ⟨c23b0, H⟩ := H
   replace H := ifN H; obtain ⟨c24b0, H⟩ := H
   generalize hy394 : ((x390001_1.set (x15_1 : Int).toNat t393) : List Int) = y394 at H
   have Ny394 := Aside0.mk hy394.symm; clear hy394
   have H' := Aside0.mk H
   clear H
   try go_wp2
   refine E5 (R_drew HO_390001.1) (blk_drew BK384.1) (blk_drew BK385.1) (blk_drew BK389.1) (below_drew1 HB.1) ?_
   clear HO_390001 BK384 BK385 BK389 HB
   intro HO_390001 BK384 BK385 BK389 HB
   refine start_ (n := 11) (S := fun w' => w'.cell? ⟨gb389, 0, none⟩ = some (.int .i64 a0_0) /\ w'.cell? ⟨gb389, 1, none⟩ = some (u390001) /\ w'.cell? ⟨gb384, 0, none⟩ = some (.int .i64 a0_0) /\ w'.cell? ⟨gb384, 1, none⟩ = some (.slice A0_1 l0_1.length c0_1) /\ w'.cell? ⟨gb384, 2, none⟩ = some (.int .i64 a0_2)) (ds := [10]) #[Zz,Zz,Zz,Zz,Zz,Zz,Zz,Zz,Zz,Zz,Zz] (by kernel_rfl) rfl rfl ⟨(blk_cell BK389.1 0).trans rfl, (blk_cell BK389.1 1).trans rfl, (blk_cell BK384.1 0).trans rfl, (blk_cell BK384.1 1).trans rfl, (blk_cell BK384.1 2).trans rfl⟩ (fun hHeld => ?_); refine with_tabW impl_tableOfDiagram.tab5 impl_tableOfDiagram.bits5 (fun HT_ HW_ => ?_)
   generalize wr.drew = w26 at HO_390001 BK384 BK385 BK389 HB hHeld ⊢
   refine pureF 0 (N := some 18) HT_.1 ?_
   refine pureF 2 (N := some 20) HT_.1 ?_
   refine pureF 4 (N := some 22) HT_.1 ?_
   refine pureF 5 (N := some 23) HT_.1 ?_
   refine takeE 1 (N := some 19) HT_.1 HW_.1 hHeld ?_
   refine takeE 3 (N := some 21) HT_.1 HW_.1 hHeld ?_
   refine takeE 6 (N := some 24) HT_.1 HW_.1 hHeld ?_
   refine one_ (i := 7) (N := some 25) #[Yy,Yy,Yy,Yy,Yy,Yy,Yy,Yy,Zz,Zz,Zz] rfl rfl (one_of HT_.1 (by kernel_rfl)) (by decide) (fun K hK => ?_)
   refine goes_ Try.func80 (by kernel_rfl) rfl #[.int .i64 x15_1, .int .i64 a0_0] (by rfl) rfl rfl (by (try simp only [List.map_toArray, List.map_cons, List.map_nil]); first | done | rfl | (simp only [List.length_drop, List.length_take]; rfl)) ?_
   with_reducible refine (impl_bitList.calls k1 x15_1 a0_0 t390 _ A21.1).mono ?_
   rintro e w27 ⟨v391, rfl, ho0, hb⟩
   refine ⟨_, rfl, ?_⟩
   refine E6 (R_elder' (PR HO_390001.1) (R_base ho0) hb) (R_lower (R_new' ho0 (R_lt (PR HO_390001.1))) (bZ HB.1)) (bB BK384.1 hb) (bB BK385.1 hb) (bB BK389.1 hb) (bS HB.1 hb) ?_
   clear HO_390001 BK384 BK385 BK389 HB
   intro HO_390001 HO392 BK384 BK385 BK389 HB
   (try clear hb)
   (try clear hb2)
   (try clear hk)
   (try clear hi)
   (try clear ho0)
   obtain ⟨Ao28, co28, eo28⟩ := R_slice HO392.1
   (first | subst eo28 | (injection eo28 with f1_ f2_ f3_; have f4_ := f1_.symm; have f5_ := f3_.symm; clear f1_ f2_ f3_; subst f4_; subst f5_))
   refine hK.out _ _ ⟨(blk_cell BK389.1 0).trans rfl, (blk_cell BK389.1 1).trans rfl, (blk_cell BK384.1 0).trans rfl, (blk_cell BK384.1 1).trans rfl, (blk_cell BK384.1 2).trans rfl⟩ (fun hHeld => ?_)
   clear hK K
   refine norm_ (a' := ?_) ?_ ?_
   rotate_left
   · show Act.put _ (some 25) _ = _
     simp only [Act.put, List.setIfInBounds_toArray, List.set_cons_zero, List.set_cons_succ, i64_w, i32_w]
     rfl
   refine one_ (i := 8) (N := some 26) #[Yy,Yy,Yy,Yy,Yy,Yy,Yy,Yy,Yy,Zz,Zz] rfl rfl (one_of HT_.1 (by kernel_rfl)) (by decide) (fun K hK => ?_)
   refine goes_ Try.func68 (by kernel_rfl) rfl #[.agg #[.int .i64 a0_0, .slice A0_1 l0_1.length c0_1, .int .i64 a0_2], .slice Ao28 t390.length co28] (by rfl) rfl rfl (by (try simp only [List.map_toArray, List.map_cons, List.map_nil]); first | done | rfl | (simp only [List.length_drop, List.length_take]; rfl)) ?_
   with_reducible refine (impl_diagramValue.calls k1 a0_0 _ _ l0_1 a0_2 _ _ t390 t393 _ ?side1 ?side2 ?side3 ?side4 A22.1).mono ?_
   (case side1 => exact CB (C_below HR0_1.1 HB.1))
   (case side2 => exact HC0_1.1)
   (case side3 => exact CB (R_reads' HO392.1).2.2)
   (case side4 => exact (R_reads' HO392.1).2.1)
   rintro e w29 ⟨rfl, hb⟩
   refine ⟨_, rfl, ?_⟩
   refine E6 (rB HO_390001.1 hb) (rB HO392.1 hb) (bB BK384.1 hb) (bB BK385.1 hb) (bB BK389.1 hb) (bS HB.1 hb) ?_
   clear HO_390001 HO392 BK384 BK385 BK389 HB
   intro HO_390001 HO392 BK384 BK385 BK389 HB
   (try clear hb)
   (try clear hb2)
   (try clear hk)
   (try clear hi)
   have p25 : 0 <= (x15_1 : Int) := OD
   have q25 : (x15_1 : Int) < ((x390001_1.length : Int) : Int) := OD
   obtain ⟨go25, co25, eo25, gb25, gl25, cl25, HG25⟩ := R_form HO_390001.1 (by omega)
   (first | cases eo25 | (injection eo25 with ea_ en_ ec_; (first | subst ea_ | (injection ea_ with ea_; subst ea_)); subst ec_; clear en_))
   have GB25 := Aside0.mk gb25
   have GG25 := Aside0.mk HG25
   clear gb25 gl25 HG25
   obtain ⟨hx25_0, hf25_0⟩ := R_celln 0 HO_390001.1 (x15_1 : Int) p25 q25
   replace p25 := eq_true p25
   replace q25 := eq_true q25
   have HP30 := R_putn HO_390001.1 (x15_1 : Int) t393
   rw [<- Ny394.1] at HP30
   have HQ30 := Aside0.mk HP30
   clear HP30
   refine hK.out _ _ ⟨(blk_cell BK389.1 0).trans rfl, (blk_cell BK389.1 1).trans rfl, (blk_cell BK384.1 0).trans rfl, (blk_cell BK384.1 1).trans rfl, (blk_cell BK384.1 2).trans rfl⟩ (fun hHeld => ?_)
   clear hK K
   refine norm_ (a' := ?_) ?_ ?_
   rotate_left
   · show Act.put _ (some 26) _ = _
     simp only [Act.put, List.setIfInBounds_toArray, List.set_cons_zero, List.set_cons_succ, i64_w, i32_w]
     rfl
   refine pureF 9 (N := some 27) HT_.1 ?_
   refine last_ (i := 10) (N := none) #[Yy,Yy,Yy,Yy,Yy,Yy,Yy,Yy,Yy,Yy,Yy] rfl rfl (one_of HT_.1 (by kernel_rfl)) (by decide) (fun K hK => ?_)
   refine skip_ (w1 := ?_) (by rfl) rfl ?_ ?_
   rotate_left
   · go_simp
     rfl
   refine hK.out _ _ ?_
   clear hK K
   refine done_ (done_of HT_.1 (by kernel_rfl)) ?_
   try go_wp2
   go_roundg k1
   case measure => have := HK1.1; omega
   case rel => exact ⟨(wrap64 (x15_1 + 1)), (y394), (.slice (some ⟨go25, 0, none⟩) x390001_1.length co25), RG, H', ⟨by have := HK1.1; omega⟩, ⟨RPE (R_mono HQ30.1 (fun _ hk => trivial))⟩, ⟨by (with_reducible repeat (first | refine blk_drewN ?_ _ | refine blk_drew ?_ | refine blk_alloc ?_ _)); refine blk_far ?_ (by have h_ := R_ne HO_390001.1 BK384.1 (by decide); intro e_; exact h_ (by rw [e_]; rfl)) _; (with_reducible repeat (first | refine blk_drewN ?_ _ | refine blk_drew ?_ | refine blk_alloc ?_ _)); exact BK384.1⟩, ⟨by (with_reducible repeat (first | refine blk_drewN ?_ _ | refine blk_drew ?_ | refine blk_alloc ?_ _)); refine blk_far ?_ (by have h_ := R_ne HO_390001.1 BK385.1 (by decide); intro e_; exact h_ (by rw [e_]; rfl)) _; (with_reducible repeat (first | refine blk_drewN ?_ _ | refine blk_drew ?_ | refine blk_alloc ?_ _)); exact BK385.1⟩, ⟨by (with_reducible repeat (first | refine blk_drewN ?_ _ | refine blk_drew ?_ | refine blk_alloc ?_ _)); refine blk_far ?_ (by have h_ := R_ne HO_390001.1 BK389.1 (by decide); intro e_; exact h_ (by rw [e_]; rfl)) _; (with_reducible repeat (first | refine blk_drewN ?_ _ | refine blk_drew ?_ | refine blk_alloc ?_ _)); exact BK389.1⟩, ⟨BL HB.1⟩⟩
 simp only [Option.some.injEq, Prod.mk.injEq] at H
 obtain ⟨rfl, rfl⟩ := H
 obtain ⟨hcz33_0, hcz33_1, hfz33_0, hfz33_1⟩ := cz2 BK389.1
 have hnb34 := NB385_384.1
 have hnc34 := NB384_385.1
 obtain ⟨hcz35_0, hcz35_1, hfz35_0, hfz35_1⟩ := cz2 BK385.1
 obtain ⟨Ao36, co36, eo36⟩ := R_slice HO_390001.1
 subst eo36
 go_wp2
 refine bodyPost_ret (results_cell_row rfl _ _ gb385 41 #[.int .i64 a0_0, .slice Ao36 x390001_1.length co36] (0, 0) _ rfl (PF0 BK385.1) Try.underlying41 rfl (by kernel_rfl)) rfl ?_
 exact ⟨_, by first | rfl | (simp [errW_none, errW_some] <;> rfl) | (simp only [<- hji3]; first | rfl | (simp [errW_none, errW_some] <;> rfl)) | (simp [*, errW_none, errW_some] <;> rfl), by (with_reducible repeat (first | apply R_alloc | apply R_drewN | apply R_drew)); exact R_mono (RQ gb385 1 (RQ gb385 0 (R_types HO_390001.1 BK385.1 (by decide)) _) _) (fun _ hk => trivial), BL HB.1⟩
end Go.Proofs.Ytdkfgomjfigmbaa.P
