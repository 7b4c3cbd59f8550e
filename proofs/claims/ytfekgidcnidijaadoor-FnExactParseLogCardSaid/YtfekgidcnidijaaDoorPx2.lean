-- PRINTED by print.py (a twelfth state) out of the translation. Not trusted: Lean checks it.
import Derived.Test.YtfekgidcnidijaaDoorPx0
import Derived.Test.YtfekgidcnidijaaDoorPx1
import Derived.Test.YtfekgidcnidijaaDoorSplitLib
namespace Go.Proofs.YtfekgidcnidijaaDoor.P
open Go.RowKit Go.Proofs.YtfekgidcnidijaaDoorW.PrintWords Go.Proofs.YtfekgidcnidijaaDoorW.PrintLast Go.Proofs.YtfekgidcnidijaaDoorW.PrintMore
attribute [local go_sem] max2_int min2_int max_two min_two max_three min_three max_four min_four   -- for this text's walks alone
set_option linter.unusedVariables false
set_option linter.unusedSimpArgs false
set_option maxHeartbeats 8000000
set_option maxRecDepth 100000

/-! ### spec_l1Split: function 39 -/
open Kd
def spec_l1Split.l0 : Nat -> ByteArray -> Int -> List ByteArray -> Int -> Int -> Option (List ByteArray)
 | 0, _, _, _, _, _ => none
 | k + 1, x0, x1, x5, x6, x7 => if x7 < (x0.size : Int) then (if 0 <= x7 then (if (bt x0 x7) = x1 then (if 0 <= x6 then (if x6 <= x7 then (if x7 <= (x0.size : Int) then (if x5.length < 8796093022208 then (spec_l1Split.l0 k x0 x1 (x5 ++ [x0.extract (x6 : Int).toNat (x7 : Int).toNat]) (wrap64 (x7 + 1)) (wrap64 (x7 + 1))) else (none)) else (none)) else (none)) else (none)) else (spec_l1Split.l0 k x0 x1 x5 x6 (wrap64 (x7 + 1)))) else (none)) else (if 0 <= x6 then (if x6 <= (x0.size : Int) then (if x5.length < 8796093022208 then (some (x5 ++ [x0.extract (x6 : Int).toNat x0.size])) else (none)) else (none)) else (none))
def spec_l1Split.f (k : Nat) (a0 : ByteArray) (a1 : Int) : Option (List ByteArray) := spec_l1Split.l0 k a0 a1 ([] : List ByteArray) 0 0
theorem spec_l1Split.mono_l : ∀ k, (∀ y0 y1 y2 y3 y4, LeO (spec_l1Split.l0 k y0 y1 y2 y3 y4) (spec_l1Split.l0 (k + 1) y0 y1 y2 y3 y4))
 | 0 => fun _ _ _ _ _ r h => by simp [spec_l1Split.l0] at h
 | k + 1 => by
  have ih0 := spec_l1Split.mono_l k
  intros
  first | unfold spec_l1Split.l0
  exact LM1 ih0
theorem spec_l1Split.mono : ∀ a0 a1 k, LeO (spec_l1Split.f k a0 a1) (spec_l1Split.f (k + 1) a0 a1) := by
 intro a0 a1 k
 have ih0 := spec_l1Split.mono_l k
 unfold spec_l1Split.f
 exact LM1 ih0
theorem spec_l1Split.calls (k : Nat) (a0 : ByteArray) (a1 : Int) (r : List ByteArray) (w : World) (h : spec_l1Split.f k a0 a1 = some r) :
 Calls Tryd.prog 39 #[.string a0, .int .u8 a1] w fun e w' => ∃ v0_ : Value, e = .returned (v0_) /\ Kd.R Kd.string 9 w' w.heap.size (fun _ => True) v0_ r /\ Below w.heap.size w w' := by
 have HB := Aside0.mk (Below.refl w.heap.size w)
 have H := h
 clear h
 unfold spec_l1Split.f at H
 have H' := Aside0.mk H
 clear H
 go_enter Tryd.func39, Tryd.ntmps39
 go_wp2
 go_loopg [5, 6, 7] k (fun kq v5 v6 v7 w' => ∃ (x5_1 : List ByteArray) (x6_1 : Int) (x7_1 : Int), v6 = .int .i64 x6_1 /\ v7 = .int .i64 x7_1 /\ Aside0 (spec_l1Split.l0 kq a0 a1 x5_1 x6_1 x7_1 = some r) /\ Aside0 (kq <= k) /\ Aside0 (Kd.R Kd.string 9 w' w.heap.size (fun _ => True) v5 x5_1) /\ Aside0 (Below w.heap.size w w'))
 case atStart => exact ⟨(([] : List ByteArray)), (0), (0), RG, RG, H', ⟨Nat.le_refl _⟩, ⟨by first | exact R_nil _ _ _ _ _ | exact N_nil _ _ _ _ _ | exact V_nil _ _ _ _ _ | exact Q_nil _ _ _ _ _ | exact S_nil _ _ _ _ _⟩, ⟨BL HB.1⟩⟩
 clear H'
 obtain ⟨x5_1, x6_1, x7_1, rfl, rfl, HA, HK1, HO_5, HB⟩ := hrel
 cases gk with
 | zero => exact absurd HA.1 (by simp [spec_l1Split.l0])
 | succ k1 => ?_
 have H := HA.1
 clear HA
 simp only [spec_l1Split.l0] at H
 replace H := ifB H; rcases H with ⟨c3b0, H⟩ | ⟨c3b0, H⟩
 · replace H := ifN H; obtain ⟨c4b0, H⟩ := H
   replace H := ifQ H; rcases H with ⟨c6, H⟩ | ⟨c6, H⟩
   · have c6b0 := beq_iff_eq.mpr c6
     have c6b1 := bne_eq_false_iff_eq.mpr c6
     clear c6
     replace H := ifP H; obtain ⟨c7, H⟩ := H
     have c7b0 := eq_true c7
     have c7b1 := decide_eq_true c7
     clear c7
     replace H := ifP H; obtain ⟨c8, H⟩ := H
     have c8b0 := eq_true c8
     have c8b1 := decide_eq_true c8
     clear c8
     replace H := ifP H; obtain ⟨c9, H⟩ := H
     have c9b0 := eq_true c9
     have c9b1 := decide_eq_true c9
     clear c9
     replace H := ifP H; obtain ⟨c10, H⟩ := H
     have LMc10 := Aside0.mk c10
     clear c10
     generalize hy142 : ((x5_1 ++ [a0.extract (x6_1 : Int).toNat (x7_1 : Int).toNat]) : List ByteArray) = y142 at H
     have Ny142 := Aside0.mk hy142.symm; clear hy142
     have H' := Aside0.mk H
     clear H
     have p5 : 0 <= (x7_1 : Int) := OD
     have q5 : x7_1 < (a0.size : Int) := OD
     have hx5 := bt_at a0 x7_1
     replace p5 := eq_true p5
     replace q5 := eq_true q5
     go_wp2_with (first | ((with_reducible refine gate_builtin (b := .append) (xs := #[.tmp 19, .tmp 24]) rfl ?_); at_builtin; refine R_append Kd.string (w0 := w) w.heap.size rfl (.tmp 19) (.tmp 24) 74 9 (.string ⟨#[]⟩) 16 rfl Tryd.underlying74 info9 rfl (by decide) (by omega) u5 x5_1 (a0.extract (x6_1 : Int).toNat (x7_1 : Int).toNat) [.string (a0.extract (x6_1 : Int).toNat (x7_1 : Int).toNat)] (fun _ => True) (fun _ => False) rfl rfl ?aP (fun _ hk => hk.elim) ?aF ?aO ?aB ?aS ?aL ?_; (case aP => exact rfl); (case aB => exact (BL HB.1)); (case aF => exact (fun _ _ => trivial)); (case aO => exact (PR HO_5.1)); (case aS => exact (bZ HB.1)); (case aL => have := LMc10.1; omega); intro v143 w11 ho hb hg hat; rw [<- Ny142.1] at ho; refine E2 (hb) (ho) ?_; clear HB HO_5; intro HB HO144; clear ho hb hg hat))
     go_roundg k1
     case measure => have := HK1.1; omega
     case rel => exact ⟨(y142), (wrap64 (x7_1 + 1)), (wrap64 (x7_1 + 1)), RG, RG, H', ⟨by have := HK1.1; omega⟩, ⟨PR HO144.1⟩, ⟨BL HB.1⟩⟩
   have c6b0 := beq_eq_false_iff_ne.mpr c6
   have c6b1 := bne_iff_ne.mpr c6
   have H' := Aside0.mk H
   clear H
   have p5 : 0 <= (x7_1 : Int) := OD
   have q5 : x7_1 < (a0.size : Int) := OD
   have hx5 := bt_at a0 x7_1
   replace p5 := eq_true p5
   replace q5 := eq_true q5
   go_wp2
   go_roundg k1
   case measure => have := HK1.1; omega
   case rel => exact ⟨(x5_1), (x6_1), (wrap64 (x7_1 + 1)), RG, RG, H', ⟨by have := HK1.1; omega⟩, ⟨PR HO_5.1⟩, ⟨BL HB.1⟩⟩
 replace H := ifP H; obtain ⟨c12, H⟩ := H
 have c12b0 := eq_true c12
 have c12b1 := decide_eq_true c12
 clear c12
 replace H := ifP H; obtain ⟨c13, H⟩ := H
 have c13b0 := eq_true c13
 have c13b1 := decide_eq_true c13
 clear c13
 replace H := ifP H; obtain ⟨c14, H⟩ := H
 have LMc14 := Aside0.mk c14
 clear c14
 generalize hy145 : ((x5_1 ++ [a0.extract (x6_1 : Int).toNat a0.size]) : List ByteArray) = y145 at H
 have Ny145 := Aside0.mk hy145.symm; clear hy145
 obtain rfl := Option.some.inj H
 go_wp2_with (first | ((with_reducible refine gate_builtin (b := .append) (xs := #[.tmp 28, .tmp 32]) rfl ?_); at_builtin; refine R_append Kd.string (w0 := w) w.heap.size rfl (.tmp 28) (.tmp 32) 74 9 (.string ⟨#[]⟩) 16 rfl Tryd.underlying74 info9 rfl (by decide) (by omega) u5 x5_1 (a0.extract (x6_1 : Int).toNat a0.size) [.string (a0.extract (x6_1 : Int).toNat a0.size)] (fun _ => True) (fun _ => False) rfl rfl ?aP (fun _ hk => hk.elim) ?aF ?aO ?aB ?aS ?aL ?_; (case aP => exact rfl); (case aB => exact (BL HB.1)); (case aF => exact (fun _ _ => trivial)); (case aO => exact (PR HO_5.1)); (case aS => exact (bZ HB.1)); (case aL => have := LMc14.1; omega); intro v146 w15 ho hb hg hat; rw [<- Ny145.1] at ho; refine E2 (hb) (ho) ?_; clear HB HO_5; intro HB HO147; clear ho hb hg hat))
 go_ret
 exact ⟨_, RF, RPE (HO147.1), BL HB.1⟩
/-! ### spec_loName: function 40 -/
open Kd
def spec_loName.l0 : Nat -> ByteArray -> List ByteArray -> Int -> Int -> Option (Int)
 | 0, _, _, _, _ => none
 | k + 1, x1, x7, x8, x9 => if x9 < x8 then (if 0 <= x9 then (if x9 < (x7.length : Int) then (if (rdOf ByteArray.empty x7 x9).toList = x1.toList then (some x9) else (spec_loName.l0 k x1 x7 x8 (wrap64 (x9 + 1)))) else (none)) else (none)) else (some (-1))
def spec_loName.f (k : Nat) (l0 : List ByteArray) (a1 : ByteArray) : Option (Int) := spec_loName.l0 k a1 l0 (l0.length : Int) 0
theorem spec_loName.mono_l : ∀ k, (∀ y0 y1 y2 y3, LeO (spec_loName.l0 k y0 y1 y2 y3) (spec_loName.l0 (k + 1) y0 y1 y2 y3))
 | 0 => fun _ _ _ _ r h => by simp [spec_loName.l0] at h
 | k + 1 => by
  have ih0 := spec_loName.mono_l k
  intros
  first | unfold spec_loName.l0
  exact LM1 ih0
theorem spec_loName.mono : ∀ a0 a1 k, LeO (spec_loName.f k a0 a1) (spec_loName.f (k + 1) a0 a1) := by
 intro a0 a1 k
 have ih0 := spec_loName.mono_l k
 unfold spec_loName.f
 exact LM1 ih0
theorem spec_loName.calls (k : Nat) (A0 : Option Addr) (c0 : Nat) (l0 : List ByteArray) (a1 : ByteArray) (r : Int) (w : World) (hr0 : Kd.C Kd.string w A0 l0.length l0) (hc0 : l0.length <= c0) (h : spec_loName.f k l0 a1 = some r) :
 Calls Tryd.prog 40 #[.slice A0 l0.length c0, .string a1] w fun e w' => e = .returned (.int .i64 r) /\ Drawn0 w w' := by
 have HR0 := Aside0.mk hr0
 have HC0 := Aside0.mk hc0
 clear hr0 hc0
 have H := h
 clear h
 unfold spec_loName.f at H
 have H' := Aside0.mk H
 clear H
 go_enter Tryd.func40, Tryd.ntmps40
 go_wp2
 go_loopg [9] k (fun kq v9 w' => ∃ (x9_1 : Int), v9 = .int .i64 x9_1 /\ Aside0 (spec_loName.l0 kq a1 l0 (l0.length : Int) x9_1 = some r) /\ Aside0 (kq <= k) /\ Drawn0 w w')
 case atStart => exact ⟨(0), RG, H', ⟨Nat.le_refl _⟩, DR⟩
 clear H'
 obtain ⟨x9_1, rfl, HA, HK1, ⟨m1, rfl⟩⟩ := hrel
 cases gk with
 | zero => exact absurd HA.1 (by simp [spec_loName.l0])
 | succ k1 => ?_
 have H := HA.1
 clear HA
 simp only [spec_loName.l0] at H
 replace H := ifB H; rcases H with ⟨c3b0, H⟩ | ⟨c3b0, H⟩
 · replace H := ifN H; obtain ⟨c4b0, H⟩ := H
   replace H := ifN H; obtain ⟨c5b0, H⟩ := H
   replace H := ifQ H; rcases H with ⟨c6, H⟩ | ⟨c6, H⟩
   · have c6b0 := beq_iff_eq.mpr c6
     have c6b1 := bne_eq_false_iff_eq.mpr c6
     clear c6
     obtain rfl := Option.some.inj H
     have p148 : 0 <= (x9_1 : Int) := OD
     have q148 : x9_1 < (l0.length : Int) := OD
     obtain ⟨ad148, e148, hx148_0⟩ := Kd.at_string HR0.1 x9_1 p148 q148
     cases e148
     replace p148 := eq_true p148
     replace q148 := eq_true q148
     go_wp2
     go_ret
     exact ⟨RG, DR⟩
   have c6b0 := beq_eq_false_iff_ne.mpr c6
   have c6b1 := bne_iff_ne.mpr c6
   have H' := Aside0.mk H
   clear H
   have p148 : 0 <= (x9_1 : Int) := OD
   have q148 : x9_1 < (l0.length : Int) := OD
   obtain ⟨ad148, e148, hx148_0⟩ := Kd.at_string HR0.1 x9_1 p148 q148
   cases e148
   replace p148 := eq_true p148
   replace q148 := eq_true q148
   go_wp2
   go_roundg k1
   case measure => have := HK1.1; omega
   case rel => exact ⟨(wrap64 (x9_1 + 1)), RG, H', ⟨by have := HK1.1; omega⟩, DR⟩
 obtain rfl := Option.some.inj H
 go_wp2
 go_ret
 exact ⟨RG, DR⟩
/-! ### spec_l1Read: function 43 -/
open Kd
mutual
def spec_l1Read.j0 : Nat -> ByteArray -> Bool -> Option (Int)
 | 0, _, _ => none
 | k + 1, x0, x18 => if x18 = true then (some (-1)) else (spec_l1Read.l0 k x0 0 0)
def spec_l1Read.l0 : Nat -> ByteArray -> Int -> Int -> Option (Int)
 | 0, _, _, _ => none
 | k + 1, x0, x3, x4 => if x4 < (x0.size : Int) then (if 0 <= x4 then (if (bt x0 x4) < 48 then (some (-1)) else (if (bt x0 x4) > 57 then (some (-1)) else (spec_l1Read.l0 k x0 (wrap64 ((wrap64 (10 * x3)) + (((bt x0 x4) - 48) % 256))) (wrap64 (x4 + 1))))) else (none)) else (some x3)
end
def spec_l1Read.f (k : Nat) (a0 : ByteArray) : Option (Int) := (spec_l1In.f (a0.size : Int) 1 6).bind fun t149 => (if t149 = true then (if 0 < (a0.size : Int) then (if (bt a0 0) = 48 then (spec_l1Read.j0 k a0 (decide ((a0.size : Int) > 1))) else (spec_l1Read.j0 k a0 false)) else (none)) else (spec_l1Read.j0 k a0 true))
theorem spec_l1Read.mono_l : ∀ k, (∀ y0 y1, LeO (spec_l1Read.j0 k y0 y1) (spec_l1Read.j0 (k + 1) y0 y1)) /\ (∀ y0 y1 y2, LeO (spec_l1Read.l0 k y0 y1 y2) (spec_l1Read.l0 (k + 1) y0 y1 y2))
 | 0 => by refine ⟨?_, ?_⟩ <;> (intros; intro r h; first | (simp [spec_l1Read.j0] at h; done) | (simp [spec_l1Read.l0] at h; done))
 | k + 1 => by
  obtain ⟨ih0, ih1⟩ := spec_l1Read.mono_l k
  refine ⟨?_, ?_⟩ <;> (
   intros
   first | unfold spec_l1Read.j0 | unfold spec_l1Read.l0
   exact LM2 ih0 ih1)
theorem spec_l1Read.mono : ∀ a0 k, LeO (spec_l1Read.f k a0) (spec_l1Read.f (k + 1) a0) := by
 intro a0 k
 obtain ⟨ih0, ih1⟩ := spec_l1Read.mono_l k
 unfold spec_l1Read.f
 exact LM2 ih0 ih1
theorem spec_l1Read.calls (k : Nat) (a0 : ByteArray) (r : Int) (w : World) (h : spec_l1Read.f k a0 = some r) :
 Calls Tryd.prog 43 #[.string a0] w fun e w' => e = .returned (.int .i64 r) /\ Drawn0 w w' := by
 have H := h
 clear h
 unfold spec_l1Read.f at H
 have HC2 := Aside0.mk H
 clear H
 go_enter Tryd.func43, Tryd.ntmps43
 go_upto_region 1 with (fail)
 go_cut [18] (fun v18 wc => ∃ (kq : Nat) (x18_1 : Bool), v18 = .bool x18_1 /\ Aside0 (spec_l1Read.j0 kq a0 x18_1 = some r) /\ Aside0 (kq <= k) /\ Drawn0 w wc)
 case first =>
  have H := HC2.1
  clear HC2
  replace H := bindA H; obtain ⟨t149, A3, H⟩ := H
  replace H := ifX H; rcases H with ⟨rfl, H⟩ | ⟨rfl, H⟩
  · replace H := ifP H; obtain ⟨c5, H⟩ := H
    have c5b0 := decide_eq_true c5
    have c5b1 : decide (0 < a0.size) = true := decide_eq_true (by omega)
    clear c5
    (first | rw [c5b0] | (simp only [i64_w, i32_w]; rw [c5b0]) | skip)
    replace H := ifQ H; rcases H with ⟨c7, H⟩ | ⟨c7, H⟩
    · have c7b0 := beq_iff_eq.mpr c7
      have c7b1 := bne_eq_false_iff_eq.mpr c7
      clear c7
      have H' := Aside0.mk H
      clear H
      go_wp2_with (first | ((with_reducible refine gate_callee (f := 60) rfl ?_); refine goesM (N := (some 7)) #[.int .i64 (a0.size : Int), .int .i64 1, .int .i64 6] Tryd.func60 ?_; (with_reducible refine (spec_l1In.calls (a0.size : Int) 1 6 true _ A3.1).mono ?_); rintro e w' ⟨rfl, ⟨nd, rfl⟩⟩; refine ⟨_, rfl, ?_⟩; have p6 : 0 <= (0 : Int) := (by omega); have q6 : 0 < a0.size := (by have : (0 : Int) < (a0.size : Int) := OD; omega); have hx6 : ∀ h : 0 < a0.size, ((a0[0]'h).toNat : Int) = bt a0 0 := bt_at a0 0; clear p6; have qi6 : (0 < (a0.size : Int)) = True := eq_true (OD); replace q6 := eq_true q6))
      go_meet
      case rel => exact ⟨_, (decide ((a0.size : Int) > 1)), RG, H', ⟨by first | omega | exact Nat.le_refl _⟩, DR⟩
    have c7b0 := beq_eq_false_iff_ne.mpr c7
    have c7b1 := bne_iff_ne.mpr c7
    have H' := Aside0.mk H
    clear H
    go_wp2_with (first | ((with_reducible refine gate_callee (f := 60) rfl ?_); refine goesM (N := (some 7)) #[.int .i64 (a0.size : Int), .int .i64 1, .int .i64 6] Tryd.func60 ?_; (with_reducible refine (spec_l1In.calls (a0.size : Int) 1 6 true _ A3.1).mono ?_); rintro e w' ⟨rfl, ⟨nd, rfl⟩⟩; refine ⟨_, rfl, ?_⟩; have p6 : 0 <= (0 : Int) := (by omega); have q6 : 0 < a0.size := (by have : (0 : Int) < (a0.size : Int) := OD; omega); have hx6 : ∀ h : 0 < a0.size, ((a0[0]'h).toNat : Int) = bt a0 0 := bt_at a0 0; clear p6; have qi6 : (0 < (a0.size : Int)) = True := eq_true (OD); replace q6 := eq_true q6))
    go_meet
    case rel => exact ⟨_, (false), RG, H', ⟨by first | omega | exact Nat.le_refl _⟩, DR⟩
  have H' := Aside0.mk H
  clear H
  go_wp2_with (first | ((with_reducible refine gate_callee (f := 60) rfl ?_); refine goesM (N := (some 7)) #[.int .i64 (a0.size : Int), .int .i64 1, .int .i64 6] Tryd.func60 ?_; (with_reducible refine (spec_l1In.calls (a0.size : Int) 1 6 false _ A3.1).mono ?_); rintro e w' ⟨rfl, ⟨nd, rfl⟩⟩; refine ⟨_, rfl, ?_⟩))
  go_meet
  case rel => exact ⟨_, (true), RG, H', ⟨by first | omega | exact Nat.le_refl _⟩, DR⟩
 clear HC2
 obtain ⟨kq, x18_1, rfl, HA, HJ1, ⟨mc1, rfl⟩⟩ := hcut
 cases kq with
 | zero => exact absurd HA.1 (by simp [spec_l1Read.j0])
 | succ kj1 => ?_
 have H := HA.1
 clear HA
 simp only [spec_l1Read.j0] at H
 replace H := ifX H; rcases H with ⟨rfl, H⟩ | ⟨rfl, H⟩
 · obtain rfl := Option.some.inj H
   go_wp2
   go_ret
   exact ⟨RG, DR⟩
 have H' := Aside0.mk H
 clear H
 go_wp2
 go_loopg [3, 4] kj1 (fun kq v3 v4 w' => ∃ (x3_2 : Int) (x4_2 : Int), v3 = .int .i64 x3_2 /\ v4 = .int .i64 x4_2 /\ Aside0 (spec_l1Read.l0 kq a0 x3_2 x4_2 = some r) /\ Aside0 (kq <= kj1) /\ Drawn0 w w')
 case atStart => exact ⟨(0), (0), RG, RG, H', ⟨Nat.le_refl _⟩, DR⟩
 clear H'
 obtain ⟨x3_2, x4_2, rfl, rfl, HA, HK2, ⟨m2, rfl⟩⟩ := hrel
 cases gk with
 | zero => exact absurd HA.1 (by simp [spec_l1Read.l0])
 | succ k2 => ?_
 have H := HA.1
 clear HA
 simp only [spec_l1Read.l0] at H
 replace H := ifB H; rcases H with ⟨c9b0, H⟩ | ⟨c9b0, H⟩
 · replace H := ifN H; obtain ⟨c10b0, H⟩ := H
   replace H := ifB H; rcases H with ⟨c12b0, H⟩ | ⟨c12b0, H⟩
   · obtain rfl := Option.some.inj H
     have p11 : 0 <= (x4_2 : Int) := OD
     have q11 : x4_2 < (a0.size : Int) := OD
     have hx11 := bt_at a0 x4_2
     replace p11 := eq_true p11
     replace q11 := eq_true q11
     go_wp2
     go_ret
     exact ⟨RG, DR⟩
   replace H := ifQ H; rcases H with ⟨c14, H⟩ | ⟨c14, H⟩
   · have c14b0 : decide (57 < (bt a0 x4_2)) = true := decide_eq_true c14
     clear c14
     obtain rfl := Option.some.inj H
     have p11 : 0 <= (x4_2 : Int) := OD
     have q11 : x4_2 < (a0.size : Int) := OD
     have hx11 := bt_at a0 x4_2
     replace p11 := eq_true p11
     replace q11 := eq_true q11
     have p13 : 0 <= (x4_2 : Int) := OD
     have q13 : x4_2 < (a0.size : Int) := OD
     have hx13 := bt_at a0 x4_2
     replace p13 := eq_true p13
     replace q13 := eq_true q13
     go_wp2
     go_ret
     exact ⟨RG, DR⟩
   have c14b0 : decide (57 < (bt a0 x4_2)) = false := decide_eq_false c14
   clear c14
   have H' := Aside0.mk H
   clear H
   have p11 : 0 <= (x4_2 : Int) := OD
   have q11 : x4_2 < (a0.size : Int) := OD
   have hx11 := bt_at a0 x4_2
   replace p11 := eq_true p11
   replace q11 := eq_true q11
   have p13 : 0 <= (x4_2 : Int) := OD
   have q13 : x4_2 < (a0.size : Int) := OD
   have hx13 := bt_at a0 x4_2
   replace p13 := eq_true p13
   replace q13 := eq_true q13
   have p15 : 0 <= (x4_2 : Int) := OD
   have q15 : x4_2 < (a0.size : Int) := OD
   have hx15 := bt_at a0 x4_2
   replace p15 := eq_true p15
   replace q15 := eq_true q15
   go_wp2
   go_roundg k2
   case measure => have := HJ1.1; have := HK2.1; omega
   case rel => exact ⟨(wrap64 ((wrap64 (10 * x3_2)) + (((bt a0 x4_2) - 48) % 256))), (wrap64 (x4_2 + 1)), RG, RG, H', ⟨by have := HJ1.1; have := HK2.1; omega⟩, DR⟩
 obtain rfl := Option.some.inj H
 go_wp2
 go_ret
 exact ⟨RG, DR⟩
/-! ### spec_ParseLog: function 17 -/
open Kd
open Kd
def spec_ParseLog.l0 : Nat -> ByteArray -> List (S66) -> List ByteArray -> Int -> Int -> Option ((List (S66)) × Bool)
 | 0, _, _, _, _, _ => none
 | k + 1, x0, x5, x18, x19, x20 => if x20 < x19 then (if 0 <= x20 then (if x20 < (x18.length : Int) then ((spec_l1Split.f k (rdOf ByteArray.empty x18 x20) 32).bind fun t158 => (if (t158.length : Int) = 4 then ((spec_loColours.f).bind fun t161 => (if 0 < (t158.length : Int) then ((spec_loName.f k t161 (rdOf ByteArray.empty t158 0)).bind fun t165 => ((spec_loEnds.f).bind fun t166 => (if 1 < (t158.length : Int) then ((spec_loName.f k t166 (rdOf ByteArray.empty t158 1)).bind fun t170 => (if 2 < (t158.length : Int) then ((spec_l1Read.f k (rdOf ByteArray.empty t158 2)).bind fun t172 => (if 3 < (t158.length : Int) then ((spec_l1Read.f k (rdOf ByteArray.empty t158 3)).bind fun t174 => (if x5.length < 4398046511104 then (spec_ParseLog.l0 k x0 (x5 ++ [(⟨t165, (⟨t170, t172, t174⟩ : S64)⟩ : S66)]) x18 x19 (wrap64 (x20 + 1))) else (none))) else (none))) else (none))) else (none)))) else (none))) else (some (([] : List (S66)), false)))) else (none)) else (none)) else ((spec_loGood.f k x5).bind fun t178 => (if t178 = true then ((spec_loText.f k x5).bind fun t179 => (if t179.toList = x0.toList then (some (x5, true)) else (some (([] : List (S66)), false)))) else (some (([] : List (S66)), false))))
def spec_ParseLog.f (k : Nat) (a0 : ByteArray) : Option ((List (S66)) × Bool) := (spec_l1Split.f k a0 10).bind fun t150 => (if (t150.length : Int) > 61 then (some (([] : List (S66)), false)) else (if 0 <= (wrap64 ((t150.length : Int) - 1)) then (if (wrap64 ((t150.length : Int) - 1)) <= (t150.length : Int) then ((some (t150.take ((wrap64 ((t150.length : Int) - 1)) : Int).toNat : List ByteArray)).bind fun y153 => (spec_ParseLog.l0 k a0 ([] : List (S66)) y153 (y153.length : Int) 0)) else (none)) else (none)))
theorem spec_ParseLog.mono_l : ∀ k, (∀ y0 y1 y2 y3 y4, LeO (spec_ParseLog.l0 k y0 y1 y2 y3 y4) (spec_ParseLog.l0 (k + 1) y0 y1 y2 y3 y4))
 | 0 => fun _ _ _ _ _ r h => by simp [spec_ParseLog.l0] at h
 | k + 1 => by
  have ih0 := spec_ParseLog.mono_l k
  intros
  first | unfold spec_ParseLog.l0
  exact LM6 ih0 spec_l1Read.mono spec_l1Split.mono spec_loGood.mono spec_loName.mono spec_loText.mono
theorem spec_ParseLog.mono : ∀ a0 k, LeO (spec_ParseLog.f k a0) (spec_ParseLog.f (k + 1) a0) := by
 intro a0 k
 have ih0 := spec_ParseLog.mono_l k
 unfold spec_ParseLog.f
 exact LM6 ih0 spec_l1Read.mono spec_l1Split.mono spec_loGood.mono spec_loName.mono spec_loText.mono
def spec_ParseLog.T11 : Bool × List (List Nat × List Nat) := (true, [([], []), ([], []), ([], []), ([2], [2]), ([3], [3]), ([1, 4, 1], [1, 4]), ([5], []), ([], []), ([7], [7]), ([8], [8]), ([6, 9, 6], [6, 9]), ([], []), ([11], [11]), ([12], [12]), ([13, 10], [13]), ([], []), ([15], [15]), ([16], [16]), ([17, 14], [17]), ([10, 14, 18], [10, 14, 18]), ([5, 19], [5, 19]), ([20], [20]), ([0, 21, 18], [0, 21]), ([22, 22, 0, 1, 2, 3, 4, 5, 6, 7, 8, 9, 10, 11, 12, 13, 14, 15, 16, 17, 18, 19, 20, 21, 22], [0, 22])])
def spec_ParseLog.B11 : List Nat := [0, 0, 0, 4, 12, 30, 62, 0, 128, 384, 1022, 0, 2048, 6144, 16382, 0, 32768, 98304, 262142, 524286, 1048574, 2097150, 4194303, 8388607]
theorem spec_ParseLog.tab11 : rtab .any (opsOf Tryd.f17 11) = spec_ParseLog.T11 := by kernel_rfl
theorem spec_ParseLog.bits11 : waitsOk spec_ParseLog.T11.2 spec_ParseLog.B11 = true := by kernel_rfl
theorem spec_ParseLog.calls (k : Nat) (a0 : ByteArray) (r1 : List (S66)) (r2 : Bool) (w : World) (h : spec_ParseLog.f k a0 = some (r1, r2)) :
 Calls Tryd.prog 17 #[.string a0] w fun e w' => ∃ v0_ : Value, e = .returned (.tuple #[v0_, .bool r2]) /\ Kd.R k66 66 w' w.heap.size (fun _ => True) v0_ r1 /\ Below w.heap.size w w' := by
 have hu64 := Tryd.underlying64
 have hu66 := Tryd.underlying66
 have HB := Aside0.mk (Below.refl w.heap.size w)
 have H := h
 clear h
 unfold spec_ParseLog.f at H
 replace H := bindA H; obtain ⟨t150, A2, H⟩ := H
 replace H := ifQ H; rcases H with ⟨c3, H⟩ | ⟨c3, H⟩
 · have c3b0 : decide (61 < (t150.length : Int)) = true := decide_eq_true c3
   have c3b1 : decide (61 < t150.length) = true := decide_eq_true (by omega)
   clear c3
   simp only [Option.some.injEq, Prod.mk.injEq] at H
   obtain ⟨rfl, rfl⟩ := H
   go_enter Tryd.func17, Tryd.ntmps17
   go_wp2_with (first | ((with_reducible refine gate_callee (f := 39) rfl ?_); refine goesM (N := (some 10)) #[.string a0, .int .u8 10] Tryd.func39 ?_; (with_reducible refine (spec_l1Split.calls k a0 10 t150 _ A2.1).mono ?_); rintro e w4 ⟨v151, rfl, ho0, hb⟩; refine ⟨_, rfl, ?_⟩; refine E2 (R_lower ho0 (bZ HB.1)) (bS HB.1 hb) ?_; clear HB; intro HO152 HB; (try clear hb); (try clear ho0); obtain ⟨Ao5, co5, eo5⟩ := R_slice HO152.1; subst eo5))
   go_ret2
   exact ⟨_, RF, by first | exact R_nil _ _ _ _ _ | exact N_nil _ _ _ _ _ | exact V_nil _ _ _ _ _ | exact Q_nil _ _ _ _ _ | exact S_nil _ _ _ _ _, BL HB.1⟩
 have c3b0 : decide (61 < (t150.length : Int)) = false := decide_eq_false c3
 have c3b1 : decide (61 < t150.length) = false := decide_eq_false (by omega)
 clear c3
 obtain ⟨ji6, hji6⟩ : ∃ j_ : Int, (wrap64 ((t150.length : Int) - 1)) = j_ := ⟨_, rfl⟩
 replace H : (if 0 <= (ji6) then (if (ji6) <= (t150.length : Int) then ((some (t150.take ((ji6) : Int).toNat : List ByteArray)).bind fun y153 => (spec_ParseLog.l0 k a0 ([] : List (S66)) y153 (y153.length : Int) 0)) else (none)) else (none)) = some (r1, r2) := by first | (rw [hji6] at H; exact H) | (simp only [hji6] at H ⊢; exact H)
 (try rw [hji6] at A2)
 have hji6w : (IntKind.i64.wrap ((t150.length : Int) - 1)) = ji6 := (i64_w _).trans hji6
 replace H := ifP H; obtain ⟨c7, H⟩ := H
 have c7b0 := eq_true c7
 have c7b1 := decide_eq_true c7
 clear c7
 replace H := ifP H; obtain ⟨c8, H⟩ := H
 have c8b0 := eq_true c8
 have c8b1 := decide_eq_true c8
 clear c8
 replace H := nameB H; obtain ⟨y153, Ny153, H⟩ := H
 have H' := Aside0.mk H
 clear H
 go_enter Tryd.func17, Tryd.ntmps17
 go_wp2_with (first | ((with_reducible refine gate_callee (f := 39) rfl ?_); refine goesM (N := (some 10)) #[.string a0, .int .u8 10] Tryd.func39 ?_; (with_reducible refine (spec_l1Split.calls k a0 10 t150 _ A2.1).mono ?_); rintro e w9 ⟨v151, rfl, ho0, hb⟩; refine ⟨_, rfl, ?_⟩; refine E2 (R_lower ho0 (bZ HB.1)) (bS HB.1 hb) ?_; clear HB; intro HO152 HB; (try clear hb); (try clear ho0); obtain ⟨Ao10, co10, eo10⟩ := R_slice HO152.1; subst eo10; have q11 : ((ji6) : Int) <= ((t150.length : Int) : Int) := OD; obtain ⟨i011, hi011, _, hsz11, _⟩ := info_parts info9; have hroom11 : t150.length <= co10 := (R_reads' HO152.1).2.1; have hC11 : Kd.C Kd.string _ Ao10 t150.length t150 := (R_reads' HO152.1).2.2; have hcut11 := cut_to (P := Tryd.prog) 74 9 .i64 Tryd.underlying74 hi011 Ao10 t150.length co10 (ji6) (OD) q11 hroom11; have hr11 := C_take (m := ((ji6) : Int).toNat) hC11 (by omega); have hy11 : y153.length = ((ji6) : Int).toNat := (by rw [Ny153.1, List.length_take]; omega); rw [<- Ny153.1] at hr11; rw [<- hy11] at hcut11; have HR156 := Aside0.mk hr11; have HC156 := Aside0.mk (show y153.length <= co10 from by omega); clear hr11 hC11 hroom11 hi011 hsz11; have KY11 := Aside0.mk hy11; clear hy11; have KL11 := Aside0.mk (show ((ji6) : Int).toNat <= t150.length from by omega); replace q11 := eq_true q11))
 have HW0 := Aside0.mk HB.1
 clear HB
 have HB := Aside0.mk (Below.refl w9.heap.size w9)
 go_loopg [5, 20] k (fun kq v5 v20 w' => ∃ (x5_1 : List (S66)) (x20_1 : Int), v20 = .int .i64 x20_1 /\ Aside0 (spec_ParseLog.l0 kq a0 x5_1 y153 (y153.length : Int) x20_1 = some (r1, r2)) /\ Aside0 (kq <= k) /\ Aside0 (Kd.R k66 66 w' w9.heap.size (fun _ => True) v5 x5_1) /\ Aside0 (Below w9.heap.size w9 w'))
 case atStart => exact ⟨(([] : List (S66))), (0), RG, H', ⟨Nat.le_refl _⟩, ⟨by first | exact R_nil _ _ _ _ _ | exact N_nil _ _ _ _ _ | exact V_nil _ _ _ _ _ | exact Q_nil _ _ _ _ _ | exact S_nil _ _ _ _ _⟩, ⟨BL HB.1⟩⟩
 clear H'
 try clear q11
 obtain ⟨x5_1, x20_1, rfl, HA, HK1, HO_5, HB⟩ := hrel
 cases gk with
 | zero => exact absurd HA.1 (by simp [spec_ParseLog.l0])
 | succ k1 => ?_
 have H := HA.1
 clear HA
 simp only [spec_ParseLog.l0] at H
 replace H := ifB H; rcases H with ⟨c12b0, H⟩ | ⟨c12b0, H⟩
 · replace H := ifN H; obtain ⟨c13b0, H⟩ := H
   replace H := ifN H; obtain ⟨c14b0, H⟩ := H
   replace H := bindA H; obtain ⟨t158, A15, H⟩ := H
   replace H := ifQ H; rcases H with ⟨c16, H⟩ | ⟨c16, H⟩
   · have c16b0 := beq_iff_eq.mpr c16
     have c16b1 := bne_eq_false_iff_eq.mpr c16
     clear c16
     replace H := bindA H; obtain ⟨t161, A17, H⟩ := H
     replace H := ifP H; obtain ⟨c18, H⟩ := H
     have c18b0 := decide_eq_true c18
     have c18b1 : decide (0 < t158.length) = true := decide_eq_true (by omega)
     clear c18
     replace H := bindA H; obtain ⟨t165, A19, H⟩ := H
     replace H := bindA H; obtain ⟨t166, A20, H⟩ := H
     replace H := ifP H; obtain ⟨c21, H⟩ := H
     have c21b0 := decide_eq_true c21
     have c21b1 : decide (1 < t158.length) = true := decide_eq_true (by omega)
     clear c21
     replace H := bindA H; obtain ⟨t170, A22, H⟩ := H
     replace H := ifP H; obtain ⟨c23, H⟩ := H
     have c23b0 := decide_eq_true c23
     have c23b1 : decide (2 < t158.length) = true := decide_eq_true (by omega)
     clear c23
     replace H := bindA H; obtain ⟨t172, A24, H⟩ := H
     replace H := ifP H; obtain ⟨c25, H⟩ := H
     have c25b0 := decide_eq_true c25
     have c25b1 : decide (3 < t158.length) = true := decide_eq_true (by omega)
     clear c25
     replace H := bindA H; obtain ⟨t174, A26, H⟩ := H
     replace H := ifP H; obtain ⟨c27, H⟩ := H
     have LMc27 := Aside0.mk c27
     clear c27
     generalize hy175 : ((x5_1 ++ [(⟨t165, (⟨t170, t172, t174⟩ : S64)⟩ : S66)]) : List (S66)) = y175 at H
     have Ny175 := Aside0.mk hy175.symm; clear hy175
     have H' := Aside0.mk H
     clear H
     have p157 : 0 <= (x20_1 : Int) := OD
     have q157 : x20_1 < (y153.length : Int) := OD
     obtain ⟨ad157, e157, hx157_0⟩ := Kd.at_string HR156.1 x20_1 p157 q157
     cases e157
     replace hx157_0 := (HB.1.cell (World.block_lt_of_cell? w9 _ hx157_0)).trans hx157_0
     replace p157 := eq_true p157
     replace q157 := eq_true q157
     try go_wp2_with (first | ((with_reducible refine gate_callee (f := 39) rfl ?_); refine goesM (N := (some 25)) #[.string (rdOf ByteArray.empty y153 x20_1), .int .u8 32] Tryd.func39 ?_; (with_reducible refine (spec_l1Split.calls k1 (rdOf ByteArray.empty y153 x20_1) 32 t158 _ A15.1).mono ?_); rintro e w28 ⟨v159, rfl, ho0, hb⟩; refine ⟨_, rfl, ?_⟩; refine E3 (rB HO_5.1 hb) (R_lower ho0 (bZ HB.1)) (bS HB.1 hb) ?_; clear HO_5 HB; intro HO_5 HO160 HB; (try clear hb); (try clear ho0); obtain ⟨Ao29, co29, eo29⟩ := R_slice HO160.1; subst eo29))
     refine E3 (R_drew HO_5.1) (R_drew HO160.1) (below_drew1 HB.1) ?_
     clear HO_5 HO160 HB
     intro HO_5 HO160 HB
     have p164 : 0 <= (0 : Int) := (by omega)
     have q164 : 0 < (t158.length : Int) := OD
     obtain ⟨ad164, e164, hx164_0⟩ := Kd.at_string (R_reads' HO160.1).2.2 0 p164 q164
     cases e164
     have qi164 : (0 < t158.length) = True := eq_true (by omega)
     (try rw [show ((0 : Int)).toNat = 0 from rfl] at hx164_0)
     (try rw [Addr.add_zero'] at hx164_0)
     replace p164 := eq_true p164
     replace q164 := eq_true q164
     have p169 : 0 <= (1 : Int) := (by omega)
     have q169 : 1 < (t158.length : Int) := OD
     obtain ⟨ad169, e169, hx169_0⟩ := Kd.at_string (R_reads' HO160.1).2.2 1 p169 q169
     obtain rfl : ad164 = ad169 := (by injection e169)
     (try simp only [show (1 : Int).toNat = 1 from rfl, Nat.reduceMul, Nat.reduceEqDiff, Go.Addr.add, ↓reduceIte] at hx169_0)
     have qi169 : (1 < t158.length) = True := eq_true (by omega)
     (try rw [show ((1 : Int)).toNat = 1 from rfl] at hx169_0)
     replace p169 := eq_true p169
     replace q169 := eq_true q169
     have p171 : 0 <= (2 : Int) := (by omega)
     have q171 : 2 < (t158.length : Int) := OD
     obtain ⟨ad171, e171, hx171_0⟩ := Kd.at_string (R_reads' HO160.1).2.2 2 p171 q171
     obtain rfl : ad164 = ad171 := (by injection e171)
     (try simp only [show (2 : Int).toNat = 2 from rfl, Nat.reduceMul, Nat.reduceEqDiff, Go.Addr.add, ↓reduceIte] at hx171_0)
     have qi171 : (2 < t158.length) = True := eq_true (by omega)
     (try rw [show ((2 : Int)).toNat = 2 from rfl] at hx171_0)
     replace p171 := eq_true p171
     replace q171 := eq_true q171
     have p173 : 0 <= (3 : Int) := (by omega)
     have q173 : 3 < (t158.length : Int) := OD
     obtain ⟨ad173, e173, hx173_0⟩ := Kd.at_string (R_reads' HO160.1).2.2 3 p173 q173
     obtain rfl : ad164 = ad173 := (by injection e173)
     (try simp only [show (3 : Int).toNat = 3 from rfl, Nat.reduceMul, Nat.reduceEqDiff, Go.Addr.add, ↓reduceIte] at hx173_0)
     have qi173 : (3 < t158.length) = True := eq_true (by omega)
     (try rw [show ((3 : Int)).toNat = 3 from rfl] at hx173_0)
     replace p173 := eq_true p173
     replace q173 := eq_true q173
     refine start_ (n := 24) (S := fun w' => w'.cell? ad164 = some (.string (rdOf ByteArray.empty t158 0)) /\ w'.cell? ⟨ad164.block, ad164.off + 1, none⟩ = some (.string (rdOf ByteArray.empty t158 1)) /\ w'.cell? ⟨ad164.block, ad164.off + 2, none⟩ = some (.string (rdOf ByteArray.empty t158 2)) /\ w'.cell? ⟨ad164.block, ad164.off + 3, none⟩ = some (.string (rdOf ByteArray.empty t158 3))) (ds := [21, 22]) #[Zz,Zz,Zz,Zz,Zz,Zz,Zz,Zz,Zz,Zz,Zz,Zz,Zz,Zz,Zz,Zz,Zz,Zz,Zz,Zz,Zz,Zz,Zz,Zz] (by kernel_rfl) rfl rfl ⟨hx164_0, hx169_0, hx171_0, hx173_0⟩ (fun hHeld => ?_); refine with_tabW spec_ParseLog.tab11 spec_ParseLog.bits11 (fun HT_ HW_ => ?_)
     generalize w28.drew = w30 at HO_5 HO160 HB hx164_0 hx169_0 hx171_0 hx173_0 hHeld ⊢
     refine pureF 0 (N := some 29) HT_.1 ?_
     refine pureF 2 (N := some 31) HT_.1 ?_
     refine pureF 3 (N := some 32) HT_.1 ?_
     refine pureF 7 (N := some 36) HT_.1 ?_
     refine pureF 8 (N := some 37) HT_.1 ?_
     refine pureF 11 (N := some 40) HT_.1 ?_
     refine pureF 12 (N := some 41) HT_.1 ?_
     refine pureF 15 (N := some 44) HT_.1 ?_
     refine pureF 16 (N := some 45) HT_.1 ?_
     refine takeE 4 (N := some 33) HT_.1 HW_.1 hHeld ?_
     refine takeE 9 (N := some 38) HT_.1 HW_.1 hHeld ?_
     refine takeE 13 (N := some 42) HT_.1 HW_.1 hHeld ?_
     refine takeE 17 (N := some 46) HT_.1 HW_.1 hHeld ?_
     refine one_ (i := 1) (N := some 30) #[Yy,Yy,Yy,Yy,Yy,Zz,Zz,Yy,Yy,Yy,Zz,Yy,Yy,Yy,Zz,Yy,Yy,Yy,Zz,Zz,Zz,Zz,Zz,Zz] rfl rfl (one_of HT_.1 (by kernel_rfl)) (by decide) (fun K hK => ?_)
     refine goes_ Tryd.func41 (by kernel_rfl) rfl #[] (by rfl) rfl rfl (by (try simp only [List.map_toArray, List.map_cons, List.map_nil]); first | done | rfl | (simp only [List.length_drop, List.length_take]; rfl)) ?_
     with_reducible refine (spec_loColours.calls  t161 _ A17.1).mono ?_
     rintro e w31 ⟨v162, rfl, ho0, hb⟩
     have HS0_ := (hb.cell (World.block_lt_of_cell? _ _ (hHeld.1))).trans (hHeld.1)
     have HS1_ := (hb.cell (World.block_lt_of_cell? _ _ (hHeld.2.1))).trans (hHeld.2.1)
     have HS2_ := (hb.cell (World.block_lt_of_cell? _ _ (hHeld.2.2.1))).trans (hHeld.2.2.1)
     have HS3_ := (hb.cell (World.block_lt_of_cell? _ _ (hHeld.2.2.2))).trans (hHeld.2.2.2)
     refine ⟨_, rfl, ?_⟩
     refine E4 (rB HO_5.1 hb) (R_elder' (PR HO160.1) (R_base ho0) hb) (R_lower (R_new' ho0 (R_lt (PR HO160.1))) (bZ HB.1)) (bS HB.1 hb) ?_
     clear HO_5 HO160 HB
     intro HO_5 HO160 HO163 HB
     (try clear hb)
     (try clear hb2)
     (try clear hk)
     (try clear hi)
     (try clear ho0)
     obtain ⟨Ao32, co32, eo32⟩ := R_slice HO163.1
     (first | subst eo32 | (injection eo32 with f1_ f2_ f3_; have f4_ := f1_.symm; have f5_ := f3_.symm; clear f1_ f2_ f3_; subst f4_; subst f5_))
     refine hK.out _ _ ⟨HS0_, HS1_, HS2_, HS3_⟩ (fun hHeld => ?_)
     clear hK K
     refine norm_ (a' := ?_) ?_ ?_
     rotate_left
     · show Act.put _ (some 30) _ = _
       simp only [Act.put, List.setIfInBounds_toArray, List.set_cons_zero, List.set_cons_succ, i64_w, i32_w]
       rfl
     refine one_ (i := 5) (N := some 34) #[Yy,Yy,Yy,Yy,Yy,Yy,Zz,Yy,Yy,Yy,Zz,Yy,Yy,Yy,Zz,Yy,Yy,Yy,Zz,Zz,Zz,Zz,Zz,Zz] rfl rfl (one_of HT_.1 (by kernel_rfl)) (by decide) (fun K hK => ?_)
     refine goes_ Tryd.func40 (by kernel_rfl) rfl #[.slice Ao32 t161.length co32, .string (rdOf ByteArray.empty t158 0)] (by rfl) rfl rfl (by (try simp only [List.map_toArray, List.map_cons, List.map_nil]); first | done | rfl | (simp only [List.length_drop, List.length_take]; rfl)) ?_
     with_reducible refine (spec_loName.calls k1 _ _ t161 (rdOf ByteArray.empty t158 0) t165 _ ?side1 ?side2 A19.1).mono ?_
     (case side1 => exact CB (R_reads' HO163.1).2.2)
     (case side2 => exact (R_reads' HO163.1).2.1)
     rintro e w' ⟨rfl, ⟨nd, rfl⟩⟩
     refine ⟨_, rfl, ?_⟩
     refine hK.out _ _ ⟨hHeld.1, hHeld.2.1, hHeld.2.2.1, hHeld.2.2.2⟩ (fun hHeld => ?_)
     clear hK K
     refine norm_ (a' := ?_) ?_ ?_
     rotate_left
     · show Act.put _ (some 34) _ = _
       simp only [Act.put, List.setIfInBounds_toArray, List.set_cons_zero, List.set_cons_succ, i64_w, i32_w]
       rfl
     refine one_ (i := 6) (N := some 35) #[Yy,Yy,Yy,Yy,Yy,Yy,Yy,Yy,Yy,Yy,Zz,Yy,Yy,Yy,Zz,Yy,Yy,Yy,Zz,Zz,Zz,Zz,Zz,Zz] rfl rfl (one_of HT_.1 (by kernel_rfl)) (by decide) (fun K hK => ?_)
     refine goes_ Tryd.func42 (by kernel_rfl) rfl #[] (by rfl) rfl rfl (by (try simp only [List.map_toArray, List.map_cons, List.map_nil]); first | done | rfl | (simp only [List.length_drop, List.length_take]; rfl)) ?_
     with_reducible refine (spec_loEnds.calls  t166 _ A20.1).mono ?_
     rintro e w33 ⟨v167, rfl, ho0, hb⟩
     have HS0_ := (hb.cell (World.block_lt_of_cell? _ _ (hHeld.1))).trans (hHeld.1)
     have HS1_ := (hb.cell (World.block_lt_of_cell? _ _ (hHeld.2.1))).trans (hHeld.2.1)
     have HS2_ := (hb.cell (World.block_lt_of_cell? _ _ (hHeld.2.2.1))).trans (hHeld.2.2.1)
     have HS3_ := (hb.cell (World.block_lt_of_cell? _ _ (hHeld.2.2.2))).trans (hHeld.2.2.2)
     refine ⟨_, rfl, ?_⟩
     refine E5 (rB HO_5.1 hb) (R_elder' (PR HO160.1) (R_base ho0) hb) (R_elder' (PR HO163.1) (R_base ho0) hb) (R_lower (R_new' (R_new' ho0 (R_lt (PR HO160.1))) (R_lt (PR HO163.1))) (bZ HB.1)) (bS HB.1 hb) ?_
     clear HO_5 HO160 HO163 HB
     intro HO_5 HO160 HO163 HO168 HB
     (try clear hb)
     (try clear hb2)
     (try clear hk)
     (try clear hi)
     (try clear ho0)
     obtain ⟨Ao34, co34, eo34⟩ := R_slice HO168.1
     (first | subst eo34 | (injection eo34 with f1_ f2_ f3_; have f4_ := f1_.symm; have f5_ := f3_.symm; clear f1_ f2_ f3_; subst f4_; subst f5_))
     refine hK.out _ _ ⟨HS0_, HS1_, HS2_, HS3_⟩ (fun hHeld => ?_)
     clear hK K
     refine norm_ (a' := ?_) ?_ ?_
     rotate_left
     · show Act.put _ (some 35) _ = _
       simp only [Act.put, List.setIfInBounds_toArray, List.set_cons_zero, List.set_cons_succ, i64_w, i32_w]
       rfl
     refine one_ (i := 10) (N := some 39) #[Yy,Yy,Yy,Yy,Yy,Yy,Yy,Yy,Yy,Yy,Yy,Yy,Yy,Yy,Zz,Yy,Yy,Yy,Zz,Zz,Zz,Zz,Zz,Zz] rfl rfl (one_of HT_.1 (by kernel_rfl)) (by decide) (fun K hK => ?_)
     refine goes_ Tryd.func40 (by kernel_rfl) rfl #[.slice Ao34 t166.length co34, .string (rdOf ByteArray.empty t158 1)] (by rfl) rfl rfl (by (try simp only [List.map_toArray, List.map_cons, List.map_nil]); first | done | rfl | (simp only [List.length_drop, List.length_take]; rfl)) ?_
     with_reducible refine (spec_loName.calls k1 _ _ t166 (rdOf ByteArray.empty t158 1) t170 _ ?side1 ?side2 A22.1).mono ?_
     (case side1 => exact CB (R_reads' HO168.1).2.2)
     (case side2 => exact (R_reads' HO168.1).2.1)
     rintro e w' ⟨rfl, ⟨nd, rfl⟩⟩
     refine ⟨_, rfl, ?_⟩
     refine hK.out _ _ ⟨hHeld.1, hHeld.2.1, hHeld.2.2.1, hHeld.2.2.2⟩ (fun hHeld => ?_)
     clear hK K
     refine norm_ (a' := ?_) ?_ ?_
     rotate_left
     · show Act.put _ (some 39) _ = _
       simp only [Act.put, List.setIfInBounds_toArray, List.set_cons_zero, List.set_cons_succ, i64_w, i32_w]
       rfl
     refine one_ (i := 14) (N := some 43) #[Yy,Yy,Yy,Yy,Yy,Yy,Yy,Yy,Yy,Yy,Yy,Yy,Yy,Yy,Yy,Yy,Yy,Yy,Zz,Zz,Zz,Zz,Zz,Zz] rfl rfl (one_of HT_.1 (by kernel_rfl)) (by decide) (fun K hK => ?_)
     refine goes_ Tryd.func43 (by kernel_rfl) rfl #[.string (rdOf ByteArray.empty t158 2)] (by rfl) rfl rfl (by (try simp only [List.map_toArray, List.map_cons, List.map_nil]); first | done | rfl | (simp only [List.length_drop, List.length_take]; rfl)) ?_
     with_reducible refine (spec_l1Read.calls k1 (rdOf ByteArray.empty t158 2) t172 _ A24.1).mono ?_
     rintro e w' ⟨rfl, ⟨nd, rfl⟩⟩
     refine ⟨_, rfl, ?_⟩
     refine hK.out _ _ ⟨hHeld.1, hHeld.2.1, hHeld.2.2.1, hHeld.2.2.2⟩ (fun hHeld => ?_)
     clear hK K
     refine norm_ (a' := ?_) ?_ ?_
     rotate_left
     · show Act.put _ (some 43) _ = _
       simp only [Act.put, List.setIfInBounds_toArray, List.set_cons_zero, List.set_cons_succ, i64_w, i32_w]
       rfl
     refine one_ (i := 18) (N := some 47) #[Yy,Yy,Yy,Yy,Yy,Yy,Yy,Yy,Yy,Yy,Yy,Yy,Yy,Yy,Yy,Yy,Yy,Yy,Yy,Zz,Zz,Zz,Zz,Zz] rfl rfl (one_of HT_.1 (by kernel_rfl)) (by decide) (fun K hK => ?_)
     refine goes_ Tryd.func43 (by kernel_rfl) rfl #[.string (rdOf ByteArray.empty t158 3)] (by rfl) rfl rfl (by (try simp only [List.map_toArray, List.map_cons, List.map_nil]); first | done | rfl | (simp only [List.length_drop, List.length_take]; rfl)) ?_
     with_reducible refine (spec_l1Read.calls k1 (rdOf ByteArray.empty t158 3) t174 _ A26.1).mono ?_
     rintro e w' ⟨rfl, ⟨nd, rfl⟩⟩
     refine ⟨_, rfl, ?_⟩
     refine hK.out _ _ ⟨hHeld.1, hHeld.2.1, hHeld.2.2.1, hHeld.2.2.2⟩ (fun hHeld => ?_)
     clear hK K
     refine norm_ (a' := ?_) ?_ ?_
     rotate_left
     · show Act.put _ (some 47) _ = _
       simp only [Act.put, List.setIfInBounds_toArray, List.set_cons_zero, List.set_cons_succ, i64_w, i32_w]
       rfl
     refine pureF 19 (N := some 48) HT_.1 ?_
     refine pureF 20 (N := some 49) HT_.1 ?_
     refine last_ (i := 21) (N := some 50) #[Yy,Yy,Yy,Yy,Yy,Yy,Yy,Yy,Yy,Yy,Yy,Yy,Yy,Yy,Yy,Yy,Yy,Yy,Yy,Yy,Yy,Yy,Zz,Zz] rfl rfl (one_of HT_.1 (by kernel_rfl)) (by decide) (fun K hK => ?_)
     refine value_ (w1 := ?_) (v := ?_) (by rfl) rfl ?_ ?_
     rotate_left 2
     · go_simp
       constructor
       · rfl
       rfl
     refine hK.out _ _ ?_
     clear hK K
     refine norm_ (a' := ?_) ?_ ?_
     rotate_left
     · show Act.put _ (some 50) _ = _
       simp only [Act.put, List.setIfInBounds_toArray, List.set_cons_zero, List.set_cons_succ, i64_w, i32_w]
       rfl
     refine last_ (i := 22) (N := some 51) #[Yy,Yy,Yy,Yy,Yy,Yy,Yy,Yy,Yy,Yy,Yy,Yy,Yy,Yy,Yy,Yy,Yy,Yy,Yy,Yy,Yy,Yy,Yy,Zz] rfl rfl (one_of HT_.1 (by kernel_rfl)) (by decide) (fun K hK => ?_)
     refine R_append_step k66 (w0 := w9) w9.heap.size (by rfl) (.tmp 29) (.tmp 50) 35 66 (.agg #[(.int .i64 0), (.int .i64 0), (.int .i64 0), (.int .i64 0)]) 32 rfl Tryd.underlying35 info66 rfl (by decide) (by omega) u5 x5_1 (⟨t165, (⟨t170, t172, t174⟩ : S64)⟩ : S66) [.int .i64 t165, .int .i64 t170, .int .i64 t172, .int .i64 t174] (fun _ => True) (fun _ => False) rfl rfl ?aP (fun _ hk => hk.elim) ?aF ?aO ?aB ?aS ?aL ?_
     (case aP => exact k66_mkM _ _ _ (⟨t165, (⟨t170, t172, t174⟩ : S64)⟩ : S66))
     (case aB => exact (BL HB.1))
     (case aF => exact (fun _ _ => trivial))
     (case aO => exact (PR HO_5.1))
     (case aS => exact (bZ HB.1))
     (case aL => have := LMc27.1; omega)
     intro v176 w35 ho hb hg hat
     rw [<- Ny175.1] at ho
     refine E5 (R_over' (PR HO160.1) (R_typed (PR HO_5.1)) (by decide) hg) (R_over' (PR HO163.1) (R_typed (PR HO_5.1)) (by decide) hg) (R_over' (PR HO168.1) (R_typed (PR HO_5.1)) (by decide) hg) (hb) (ho) ?_
     clear HO160 HO163 HO168 HB HO_5
     intro HO160 HO163 HO168 HB HO177
     clear ho hb hg hat
     refine hK.out _ _ ?_
     clear hK K
     refine norm_ (a' := ?_) ?_ ?_
     rotate_left
     · show Act.put _ (some 51) _ = _
       simp only [Act.put, List.setIfInBounds_toArray, List.set_cons_zero, List.set_cons_succ, i64_w, i32_w]
       rfl
     refine pureF 23 (N := some 5) HT_.1 ?_
     refine done_ (done_of HT_.1 (by kernel_rfl)) ?_
     try go_wp2
     go_roundg k1
     case measure => have := HK1.1; omega
     case rel => exact ⟨(y175), (wrap64 (x20_1 + 1)), RG, H', ⟨by have := HK1.1; omega⟩, ⟨PR HO177.1⟩, ⟨BL HB.1⟩⟩
   have c16b0 := beq_eq_false_iff_ne.mpr c16
   have c16b1 := bne_iff_ne.mpr c16
   simp only [Option.some.injEq, Prod.mk.injEq] at H
   obtain ⟨rfl, rfl⟩ := H
   have p157 : 0 <= (x20_1 : Int) := OD
   have q157 : x20_1 < (y153.length : Int) := OD
   obtain ⟨ad157, e157, hx157_0⟩ := Kd.at_string HR156.1 x20_1 p157 q157
   cases e157
   replace hx157_0 := (HB.1.cell (World.block_lt_of_cell? w9 _ hx157_0)).trans hx157_0
   replace p157 := eq_true p157
   replace q157 := eq_true q157
   go_wp2_with (first | ((with_reducible refine gate_callee (f := 39) rfl ?_); refine goesM (N := (some 25)) #[.string (rdOf ByteArray.empty y153 x20_1), .int .u8 32] Tryd.func39 ?_; (with_reducible refine (spec_l1Split.calls k1 (rdOf ByteArray.empty y153 x20_1) 32 t158 _ A15.1).mono ?_); rintro e w36 ⟨v159, rfl, ho0, hb⟩; refine ⟨_, rfl, ?_⟩; refine E3 (rB HO_5.1 hb) (R_lower ho0 (bZ HB.1)) (bS HB.1 hb) ?_; clear HO_5 HB; intro HO_5 HO160 HB; (try clear hb); (try clear ho0); obtain ⟨Ao37, co37, eo37⟩ := R_slice HO160.1; subst eo37))
   go_ret2
   exact ⟨_, by first | rfl | (simp [errW_none, errW_some] <;> rfl) | (simp only [<- hji6]; first | rfl | (simp [errW_none, errW_some] <;> rfl)) | (simp [*, errW_none, errW_some] <;> rfl), by first | exact R_nil _ _ _ _ _ | exact N_nil _ _ _ _ _ | exact V_nil _ _ _ _ _ | exact Q_nil _ _ _ _ _ | exact S_nil _ _ _ _ _, below_step HW0.1 (BL HB.1)⟩
 replace H := bindA H; obtain ⟨t178, A38, H⟩ := H
 replace H := ifX H; rcases H with ⟨rfl, H⟩ | ⟨rfl, H⟩
 · replace H := bindA H; obtain ⟨t179, A40, H⟩ := H
   replace H := ifQ H; rcases H with ⟨c41, H⟩ | ⟨c41, H⟩
   · have c41b0 := beq_iff_eq.mpr c41
     have c41b1 := bne_eq_false_iff_eq.mpr c41
     clear c41
     simp only [Option.some.injEq, Prod.mk.injEq] at H
     obtain ⟨rfl, rfl⟩ := H
     obtain ⟨Ao42, co42, eo42⟩ := R_slice HO_5.1
     subst eo42
     go_wp2_with (first | ((with_reducible refine gate_callee (f := 34) rfl ?_); refine goesM (N := (some 54)) #[.slice Ao42 x5_1.length co42] Tryd.func34 ?_; (with_reducible refine (spec_loGood.calls k1 _ _ x5_1 true _ ?side1 ?side2 A38.1).mono ?_); (case side1 => exact CB (R_reads' HO_5.1).2.2); (case side2 => exact (R_reads' HO_5.1).2.1); rintro e w43 ⟨rfl, hb⟩; refine ⟨_, rfl, ?_⟩; refine E2 (rB HO_5.1 hb) (bS HB.1 hb) ?_; clear HO_5 HB; intro HO_5 HB; (try clear hb)) | (go_at_call 35; (with_reducible refine (spec_loText.calls k1 _ _ x5_1 t179 _ ?side1 ?side2 A40.1).mono ?_); (case side1 => exact CB (R_reads' HO_5.1).2.2); (case side2 => exact (R_reads' HO_5.1).2.1); rintro e w44 ⟨rfl, hb⟩; refine E2 (rB HO_5.1 hb) (bS HB.1 hb) ?_; clear HO_5 HB; intro HO_5 HB; (try clear hb)))
     go_ret2
     exact ⟨_, by first | rfl | (simp [errW_none, errW_some] <;> rfl) | (simp only [<- hji6]; first | rfl | (simp [errW_none, errW_some] <;> rfl)) | (simp [*, errW_none, errW_some] <;> rfl), RPE (R_lower HO_5.1 (below_size HW0.1)), below_step HW0.1 (BL HB.1)⟩
   have c41b0 := beq_eq_false_iff_ne.mpr c41
   have c41b1 := bne_iff_ne.mpr c41
   simp only [Option.some.injEq, Prod.mk.injEq] at H
   obtain ⟨rfl, rfl⟩ := H
   obtain ⟨Ao45, co45, eo45⟩ := R_slice HO_5.1
   subst eo45
   go_wp2_with (first | ((with_reducible refine gate_callee (f := 34) rfl ?_); refine goesM (N := (some 54)) #[.slice Ao45 x5_1.length co45] Tryd.func34 ?_; (with_reducible refine (spec_loGood.calls k1 _ _ x5_1 true _ ?side1 ?side2 A38.1).mono ?_); (case side1 => exact CB (R_reads' HO_5.1).2.2); (case side2 => exact (R_reads' HO_5.1).2.1); rintro e w46 ⟨rfl, hb⟩; refine ⟨_, rfl, ?_⟩; refine E2 (rB HO_5.1 hb) (bS HB.1 hb) ?_; clear HO_5 HB; intro HO_5 HB; (try clear hb)) | (go_at_call 35; (with_reducible refine (spec_loText.calls k1 _ _ x5_1 t179 _ ?side1 ?side2 A40.1).mono ?_); (case side1 => exact CB (R_reads' HO_5.1).2.2); (case side2 => exact (R_reads' HO_5.1).2.1); rintro e w47 ⟨rfl, hb⟩; refine E2 (rB HO_5.1 hb) (bS HB.1 hb) ?_; clear HO_5 HB; intro HO_5 HB; (try clear hb)))
   go_ret2
   exact ⟨_, by first | rfl | (simp [errW_none, errW_some] <;> rfl) | (simp only [<- hji6]; first | rfl | (simp [errW_none, errW_some] <;> rfl)) | (simp [*, errW_none, errW_some] <;> rfl), by first | exact R_nil _ _ _ _ _ | exact N_nil _ _ _ _ _ | exact V_nil _ _ _ _ _ | exact Q_nil _ _ _ _ _ | exact S_nil _ _ _ _ _, below_step HW0.1 (BL HB.1)⟩
 simp only [Option.some.injEq, Prod.mk.injEq] at H
 obtain ⟨rfl, rfl⟩ := H
 obtain ⟨Ao48, co48, eo48⟩ := R_slice HO_5.1
 subst eo48
 go_wp2_with (first | ((with_reducible refine gate_callee (f := 34) rfl ?_); refine goesM (N := (some 54)) #[.slice Ao48 x5_1.length co48] Tryd.func34 ?_; (with_reducible refine (spec_loGood.calls k1 _ _ x5_1 false _ ?side1 ?side2 A38.1).mono ?_); (case side1 => exact CB (R_reads' HO_5.1).2.2); (case side2 => exact (R_reads' HO_5.1).2.1); rintro e w49 ⟨rfl, hb⟩; refine ⟨_, rfl, ?_⟩; refine E2 (rB HO_5.1 hb) (bS HB.1 hb) ?_; clear HO_5 HB; intro HO_5 HB; (try clear hb)))
 go_ret2
 exact ⟨_, by first | rfl | (simp [errW_none, errW_some] <;> rfl) | (simp only [<- hji6]; first | rfl | (simp [errW_none, errW_some] <;> rfl)) | (simp [*, errW_none, errW_some] <;> rfl), by first | exact R_nil _ _ _ _ _ | exact N_nil _ _ _ _ _ | exact V_nil _ _ _ _ _ | exact Q_nil _ _ _ _ _ | exact S_nil _ _ _ _ _, below_step HW0.1 (BL HB.1)⟩

/-! ### impl_IsLog: function 37 -/
open Kd
def impl_IsLog.l0 : Nat -> List (S66) -> Int -> Int -> Option (Bool)
 | 0, _, _, _ => none
 | k + 1, x9, x10, x11 => if x11 < x10 then (if 0 <= x11 then (if x11 < (x9.length : Int) then (if ((rd_T66 x9 x11).f0) < 0 then (some false) else (if ((rd_T66 x9 x11).f0) > 1 then (some false) else (if ((rd_T66 x9 x11).f1.f0) < 1 then (some false) else (if ((rd_T66 x9 x11).f1.f0) > 3 then (some false) else (if ((rd_T66 x9 x11).f1.f1) < 0 then (some false) else (if ((rd_T66 x9 x11).f1.f1) > 10 then (some false) else (if ((rd_T66 x9 x11).f1.f2) < (-1) then (some false) else (if ((rd_T66 x9 x11).f1.f2) > 9 then (some false) else (impl_IsLog.l0 k x9 x10 (wrap64 (x11 + 1))))))))))) else (none)) else (none)) else (some true)
def impl_IsLog.f (k : Nat) (l0 : List (S66)) : Option (Bool) := if (l0.length : Int) > 60 then (some false) else (impl_IsLog.l0 k l0 (l0.length : Int) 0)
theorem impl_IsLog.mono_l : ∀ k, (∀ y0 y1 y2, LeO (impl_IsLog.l0 k y0 y1 y2) (impl_IsLog.l0 (k + 1) y0 y1 y2))
 | 0 => fun _ _ _ r h => by simp [impl_IsLog.l0] at h
 | k + 1 => by
  have ih0 := impl_IsLog.mono_l k
  intros
  first | unfold impl_IsLog.l0
  exact LM1 ih0
theorem impl_IsLog.mono : ∀ a0 k, LeO (impl_IsLog.f k a0) (impl_IsLog.f (k + 1) a0) := by
 intro a0 k
 have ih0 := impl_IsLog.mono_l k
 unfold impl_IsLog.f
 exact LM1 ih0
theorem impl_IsLog.calls (k : Nat) (A0 : Option Addr) (c0 : Nat) (l0 : List (S66)) (r : Bool) (w : World) (hr0 : Kd.C k66 w A0 l0.length l0) (hc0 : l0.length <= c0) (h : impl_IsLog.f k l0 = some r) :
 Calls Tryd.prog 37 #[.slice A0 l0.length c0] w fun e w' => e = .returned (.bool r) /\ Below w.heap.size w w' := by
 have hu66 := Tryd.underlying66
 have hu64 := Tryd.underlying64
 have HR0 := Aside0.mk hr0
 have HC0 := Aside0.mk hc0
 clear hr0 hc0
 have HB := Aside0.mk (Below.refl w.heap.size w)
 have H := h
 clear h
 unfold impl_IsLog.f at H
 replace H := ifQ H; rcases H with ⟨c2, H⟩ | ⟨c2, H⟩
 · have c2b0 : decide (60 < (l0.length : Int)) = true := decide_eq_true c2
   have c2b1 : decide (60 < l0.length) = true := decide_eq_true (by omega)
   clear c2
   obtain rfl := Option.some.inj H
   go_enter Tryd.func37, Tryd.ntmps37
   go_wp2
   go_ret
   exact ⟨RF, BL HB.1⟩
 have c2b0 : decide (60 < (l0.length : Int)) = false := decide_eq_false c2
 have c2b1 : decide (60 < l0.length) = false := decide_eq_false (by omega)
 clear c2
 have H' := Aside0.mk H
 clear H
 go_enter Tryd.func37, Tryd.ntmps37
 go_wp2
 go_loopg [11] k (fun kq v11 w' => ∃ (x11_1 : Int), v11 = .int .i64 x11_1 /\ Aside0 (impl_IsLog.l0 kq l0 (l0.length : Int) x11_1 = some r) /\ Aside0 (kq <= k) /\ Aside0 (Below w.heap.size w w'))
 case atStart => exact ⟨(0), RG, H', ⟨Nat.le_refl _⟩, ⟨BL HB.1⟩⟩
 clear H'
 clear c2b0 c2b1
 obtain ⟨x11_1, rfl, HA, HK1, HB⟩ := hrel
 cases gk with
 | zero => exact absurd HA.1 (by simp [impl_IsLog.l0])
 | succ k1 => ?_
 have H := HA.1
 clear HA
 simp only [impl_IsLog.l0] at H
 replace H := ifB H; rcases H with ⟨c3b0, H⟩ | ⟨c3b0, H⟩
 · replace H := ifN H; obtain ⟨c4b0, H⟩ := H
   replace H := ifN H; obtain ⟨c5b0, H⟩ := H
   replace H := ifB H; rcases H with ⟨c6b0, H⟩ | ⟨c6b0, H⟩
   · obtain rfl := Option.some.inj H
     have p150 : 0 <= (x11_1 : Int) := OD
     have q150 : x11_1 < (l0.length : Int) := OD
     obtain ⟨ad150, e150, hx150_0, hx150_1, hx150_2, hx150_3⟩ := at_T66 HR0.1 x11_1 p150 q150
     cases e150
     replace hx150_0 := (HB.1.cell (World.block_lt_of_cell? w _ hx150_0)).trans hx150_0
     replace hx150_1 := (HB.1.cell (World.block_lt_of_cell? w _ hx150_1)).trans hx150_1
     replace hx150_2 := (HB.1.cell (World.block_lt_of_cell? w _ hx150_2)).trans hx150_2
     replace hx150_3 := (HB.1.cell (World.block_lt_of_cell? w _ hx150_3)).trans hx150_3
     replace p150 := eq_true p150
     replace q150 := eq_true q150
     go_wp2_with (first | ((with_reducible refine gate_dst (N := 4) rfl ?_); refine boxE (cs := #[.int .i64 0, .int .i64 0, .int .i64 0, .int .i64 0]) (t := 66) ?_; intro gb151 hg w7 hbox hb; refine E4b HB.1 hg hbox hb ?_; clear HB; intro HB BK151 GW151 GE151; clear hb hbox hg; obtain ⟨hcz8_0, hcz8_1, hcz8_2, hcz8_3, hfz8_0, hfz8_1, hfz8_2, hfz8_3⟩ := cz4 BK151.1) | ((with_reducible refine gate_dst (N := 5) rfl ?_); refine boxE (cs := #[.int .i64 0, .int .i64 0, .int .i64 0]) (t := 64) ?_; intro gb152 hg w9 hbox hb; refine E7 (blk_below (g := gb151) (o := .cells #[.int .i64 ((rd_T66 l0 x11_1).f0), .int .i64 ((rd_T66 l0 x11_1).f1.f0), .int .i64 ((rd_T66 l0 x11_1).f1.f1), .int .i64 ((rd_T66 l0 x11_1).f1.f2)] 66 (0, 0)) (PF0 BK151.1) hb) (bS HB.1 hb) (hbox) (gX HB.1 hg) (gX HB.1 hg) ((by rw [hg]; exact Nat.ne_of_lt (blk_lt (g := gb151) (o := .cells #[.int .i64 ((rd_T66 l0 x11_1).f0), .int .i64 ((rd_T66 l0 x11_1).f1.f0), .int .i64 ((rd_T66 l0 x11_1).f1.f1), .int .i64 ((rd_T66 l0 x11_1).f1.f2)] 66 (0, 0)) (PF0 BK151.1)) : gb151 ≠ gb152)) ((by rw [hg]; exact Nat.ne_of_gt (blk_lt (g := gb151) (o := .cells #[.int .i64 ((rd_T66 l0 x11_1).f0), .int .i64 ((rd_T66 l0 x11_1).f1.f0), .int .i64 ((rd_T66 l0 x11_1).f1.f1), .int .i64 ((rd_T66 l0 x11_1).f1.f2)] 66 (0, 0)) (PF0 BK151.1)) : gb152 ≠ gb151)) ?_; clear BK151 HB; intro BK151 HB BK152 GW152 GE152 NB151_152 NB152_151; clear hb hbox hg; have hnb10 := NB152_151.1; have hnc10 := NB151_152.1; obtain ⟨hcz11_0, hcz11_1, hcz11_2, hfz11_0, hfz11_1, hfz11_2⟩ := cz3 BK152.1; obtain ⟨hcz12_0, hcz12_1, hcz12_2, hcz12_3, hfz12_0, hfz12_1, hfz12_2, hfz12_3⟩ := cz4 BK151.1))
     go_ret
     exact ⟨RF, BL HB.1⟩
   replace H := ifQ H; rcases H with ⟨c13, H⟩ | ⟨c13, H⟩
   · have c13b0 : decide (1 < ((rd_T66 l0 x11_1).f0)) = true := decide_eq_true c13
     clear c13
     obtain rfl := Option.some.inj H
     have p150 : 0 <= (x11_1 : Int) := OD
     have q150 : x11_1 < (l0.length : Int) := OD
     obtain ⟨ad150, e150, hx150_0, hx150_1, hx150_2, hx150_3⟩ := at_T66 HR0.1 x11_1 p150 q150
     cases e150
     replace hx150_0 := (HB.1.cell (World.block_lt_of_cell? w _ hx150_0)).trans hx150_0
     replace hx150_1 := (HB.1.cell (World.block_lt_of_cell? w _ hx150_1)).trans hx150_1
     replace hx150_2 := (HB.1.cell (World.block_lt_of_cell? w _ hx150_2)).trans hx150_2
     replace hx150_3 := (HB.1.cell (World.block_lt_of_cell? w _ hx150_3)).trans hx150_3
     replace p150 := eq_true p150
     replace q150 := eq_true q150
     go_wp2_with (first | ((with_reducible refine gate_dst (N := 4) rfl ?_); refine boxE (cs := #[.int .i64 0, .int .i64 0, .int .i64 0, .int .i64 0]) (t := 66) ?_; intro gb151 hg w14 hbox hb; refine E4b HB.1 hg hbox hb ?_; clear HB; intro HB BK151 GW151 GE151; clear hb hbox hg; obtain ⟨hcz15_0, hcz15_1, hcz15_2, hcz15_3, hfz15_0, hfz15_1, hfz15_2, hfz15_3⟩ := cz4 BK151.1) | ((with_reducible refine gate_dst (N := 5) rfl ?_); refine boxE (cs := #[.int .i64 0, .int .i64 0, .int .i64 0]) (t := 64) ?_; intro gb152 hg w16 hbox hb; refine E7 (blk_below (g := gb151) (o := .cells #[.int .i64 ((rd_T66 l0 x11_1).f0), .int .i64 ((rd_T66 l0 x11_1).f1.f0), .int .i64 ((rd_T66 l0 x11_1).f1.f1), .int .i64 ((rd_T66 l0 x11_1).f1.f2)] 66 (0, 0)) (PF0 BK151.1) hb) (bS HB.1 hb) (hbox) (gX HB.1 hg) (gX HB.1 hg) ((by rw [hg]; exact Nat.ne_of_lt (blk_lt (g := gb151) (o := .cells #[.int .i64 ((rd_T66 l0 x11_1).f0), .int .i64 ((rd_T66 l0 x11_1).f1.f0), .int .i64 ((rd_T66 l0 x11_1).f1.f1), .int .i64 ((rd_T66 l0 x11_1).f1.f2)] 66 (0, 0)) (PF0 BK151.1)) : gb151 ≠ gb152)) ((by rw [hg]; exact Nat.ne_of_gt (blk_lt (g := gb151) (o := .cells #[.int .i64 ((rd_T66 l0 x11_1).f0), .int .i64 ((rd_T66 l0 x11_1).f1.f0), .int .i64 ((rd_T66 l0 x11_1).f1.f1), .int .i64 ((rd_T66 l0 x11_1).f1.f2)] 66 (0, 0)) (PF0 BK151.1)) : gb152 ≠ gb151)) ?_; clear BK151 HB; intro BK151 HB BK152 GW152 GE152 NB151_152 NB152_151; clear hb hbox hg; have hnb17 := NB152_151.1; have hnc17 := NB151_152.1; obtain ⟨hcz18_0, hcz18_1, hcz18_2, hfz18_0, hfz18_1, hfz18_2⟩ := cz3 BK152.1; obtain ⟨hcz19_0, hcz19_1, hcz19_2, hcz19_3, hfz19_0, hfz19_1, hfz19_2, hfz19_3⟩ := cz4 BK151.1))
     go_ret
     exact ⟨RF, BL HB.1⟩
   have c13b0 : decide (1 < ((rd_T66 l0 x11_1).f0)) = false := decide_eq_false c13
   clear c13
   replace H := ifB H; rcases H with ⟨c20b0, H⟩ | ⟨c20b0, H⟩
   · obtain rfl := Option.some.inj H
     have p150 : 0 <= (x11_1 : Int) := OD
     have q150 : x11_1 < (l0.length : Int) := OD
     obtain ⟨ad150, e150, hx150_0, hx150_1, hx150_2, hx150_3⟩ := at_T66 HR0.1 x11_1 p150 q150
     cases e150
     replace hx150_0 := (HB.1.cell (World.block_lt_of_cell? w _ hx150_0)).trans hx150_0
     replace hx150_1 := (HB.1.cell (World.block_lt_of_cell? w _ hx150_1)).trans hx150_1
     replace hx150_2 := (HB.1.cell (World.block_lt_of_cell? w _ hx150_2)).trans hx150_2
     replace hx150_3 := (HB.1.cell (World.block_lt_of_cell? w _ hx150_3)).trans hx150_3
     replace p150 := eq_true p150
     replace q150 := eq_true q150
     go_wp2_with (first | ((with_reducible refine gate_dst (N := 4) rfl ?_); refine boxE (cs := #[.int .i64 0, .int .i64 0, .int .i64 0, .int .i64 0]) (t := 66) ?_; intro gb151 hg w21 hbox hb; refine E4b HB.1 hg hbox hb ?_; clear HB; intro HB BK151 GW151 GE151; clear hb hbox hg; obtain ⟨hcz22_0, hcz22_1, hcz22_2, hcz22_3, hfz22_0, hfz22_1, hfz22_2, hfz22_3⟩ := cz4 BK151.1) | ((with_reducible refine gate_dst (N := 5) rfl ?_); refine boxE (cs := #[.int .i64 0, .int .i64 0, .int .i64 0]) (t := 64) ?_; intro gb152 hg w23 hbox hb; refine E7 (blk_below (g := gb151) (o := .cells #[.int .i64 ((rd_T66 l0 x11_1).f0), .int .i64 ((rd_T66 l0 x11_1).f1.f0), .int .i64 ((rd_T66 l0 x11_1).f1.f1), .int .i64 ((rd_T66 l0 x11_1).f1.f2)] 66 (0, 0)) (PF0 BK151.1) hb) (bS HB.1 hb) (hbox) (gX HB.1 hg) (gX HB.1 hg) ((by rw [hg]; exact Nat.ne_of_lt (blk_lt (g := gb151) (o := .cells #[.int .i64 ((rd_T66 l0 x11_1).f0), .int .i64 ((rd_T66 l0 x11_1).f1.f0), .int .i64 ((rd_T66 l0 x11_1).f1.f1), .int .i64 ((rd_T66 l0 x11_1).f1.f2)] 66 (0, 0)) (PF0 BK151.1)) : gb151 ≠ gb152)) ((by rw [hg]; exact Nat.ne_of_gt (blk_lt (g := gb151) (o := .cells #[.int .i64 ((rd_T66 l0 x11_1).f0), .int .i64 ((rd_T66 l0 x11_1).f1.f0), .int .i64 ((rd_T66 l0 x11_1).f1.f1), .int .i64 ((rd_T66 l0 x11_1).f1.f2)] 66 (0, 0)) (PF0 BK151.1)) : gb152 ≠ gb151)) ?_; clear BK151 HB; intro BK151 HB BK152 GW152 GE152 NB151_152 NB152_151; clear hb hbox hg; have hnb24 := NB152_151.1; have hnc24 := NB151_152.1; obtain ⟨hcz25_0, hcz25_1, hcz25_2, hfz25_0, hfz25_1, hfz25_2⟩ := cz3 BK152.1; obtain ⟨hcz26_0, hcz26_1, hcz26_2, hcz26_3, hfz26_0, hfz26_1, hfz26_2, hfz26_3⟩ := cz4 BK151.1))
     go_ret
     exact ⟨RF, BL HB.1⟩
   replace H := ifQ H; rcases H with ⟨c27, H⟩ | ⟨c27, H⟩
   · have c27b0 : decide (3 < ((rd_T66 l0 x11_1).f1.f0)) = true := decide_eq_true c27
     clear c27
     obtain rfl := Option.some.inj H
     have p150 : 0 <= (x11_1 : Int) := OD
     have q150 : x11_1 < (l0.length : Int) := OD
     obtain ⟨ad150, e150, hx150_0, hx150_1, hx150_2, hx150_3⟩ := at_T66 HR0.1 x11_1 p150 q150
     cases e150
     replace hx150_0 := (HB.1.cell (World.block_lt_of_cell? w _ hx150_0)).trans hx150_0
     replace hx150_1 := (HB.1.cell (World.block_lt_of_cell? w _ hx150_1)).trans hx150_1
     replace hx150_2 := (HB.1.cell (World.block_lt_of_cell? w _ hx150_2)).trans hx150_2
     replace hx150_3 := (HB.1.cell (World.block_lt_of_cell? w _ hx150_3)).trans hx150_3
     replace p150 := eq_true p150
     replace q150 := eq_true q150
     go_wp2_with (first | ((with_reducible refine gate_dst (N := 4) rfl ?_); refine boxE (cs := #[.int .i64 0, .int .i64 0, .int .i64 0, .int .i64 0]) (t := 66) ?_; intro gb151 hg w28 hbox hb; refine E4b HB.1 hg hbox hb ?_; clear HB; intro HB BK151 GW151 GE151; clear hb hbox hg; obtain ⟨hcz29_0, hcz29_1, hcz29_2, hcz29_3, hfz29_0, hfz29_1, hfz29_2, hfz29_3⟩ := cz4 BK151.1) | ((with_reducible refine gate_dst (N := 5) rfl ?_); refine boxE (cs := #[.int .i64 0, .int .i64 0, .int .i64 0]) (t := 64) ?_; intro gb152 hg w30 hbox hb; refine E7 (blk_below (g := gb151) (o := .cells #[.int .i64 ((rd_T66 l0 x11_1).f0), .int .i64 ((rd_T66 l0 x11_1).f1.f0), .int .i64 ((rd_T66 l0 x11_1).f1.f1), .int .i64 ((rd_T66 l0 x11_1).f1.f2)] 66 (0, 0)) (PF0 BK151.1) hb) (bS HB.1 hb) (hbox) (gX HB.1 hg) (gX HB.1 hg) ((by rw [hg]; exact Nat.ne_of_lt (blk_lt (g := gb151) (o := .cells #[.int .i64 ((rd_T66 l0 x11_1).f0), .int .i64 ((rd_T66 l0 x11_1).f1.f0), .int .i64 ((rd_T66 l0 x11_1).f1.f1), .int .i64 ((rd_T66 l0 x11_1).f1.f2)] 66 (0, 0)) (PF0 BK151.1)) : gb151 ≠ gb152)) ((by rw [hg]; exact Nat.ne_of_gt (blk_lt (g := gb151) (o := .cells #[.int .i64 ((rd_T66 l0 x11_1).f0), .int .i64 ((rd_T66 l0 x11_1).f1.f0), .int .i64 ((rd_T66 l0 x11_1).f1.f1), .int .i64 ((rd_T66 l0 x11_1).f1.f2)] 66 (0, 0)) (PF0 BK151.1)) : gb152 ≠ gb151)) ?_; clear BK151 HB; intro BK151 HB BK152 GW152 GE152 NB151_152 NB152_151; clear hb hbox hg; have hnb31 := NB152_151.1; have hnc31 := NB151_152.1; obtain ⟨hcz32_0, hcz32_1, hcz32_2, hfz32_0, hfz32_1, hfz32_2⟩ := cz3 BK152.1; obtain ⟨hcz33_0, hcz33_1, hcz33_2, hcz33_3, hfz33_0, hfz33_1, hfz33_2, hfz33_3⟩ := cz4 BK151.1))
     go_ret
     exact ⟨RF, BL HB.1⟩
   have c27b0 : decide (3 < ((rd_T66 l0 x11_1).f1.f0)) = false := decide_eq_false c27
   clear c27
   replace H := ifB H; rcases H with ⟨c34b0, H⟩ | ⟨c34b0, H⟩
   · obtain rfl := Option.some.inj H
     have p150 : 0 <= (x11_1 : Int) := OD
     have q150 : x11_1 < (l0.length : Int) := OD
     obtain ⟨ad150, e150, hx150_0, hx150_1, hx150_2, hx150_3⟩ := at_T66 HR0.1 x11_1 p150 q150
     cases e150
     replace hx150_0 := (HB.1.cell (World.block_lt_of_cell? w _ hx150_0)).trans hx150_0
     replace hx150_1 := (HB.1.cell (World.block_lt_of_cell? w _ hx150_1)).trans hx150_1
     replace hx150_2 := (HB.1.cell (World.block_lt_of_cell? w _ hx150_2)).trans hx150_2
     replace hx150_3 := (HB.1.cell (World.block_lt_of_cell? w _ hx150_3)).trans hx150_3
     replace p150 := eq_true p150
     replace q150 := eq_true q150
     go_wp2_with (first | ((with_reducible refine gate_dst (N := 4) rfl ?_); refine boxE (cs := #[.int .i64 0, .int .i64 0, .int .i64 0, .int .i64 0]) (t := 66) ?_; intro gb151 hg w35 hbox hb; refine E4b HB.1 hg hbox hb ?_; clear HB; intro HB BK151 GW151 GE151; clear hb hbox hg; obtain ⟨hcz36_0, hcz36_1, hcz36_2, hcz36_3, hfz36_0, hfz36_1, hfz36_2, hfz36_3⟩ := cz4 BK151.1) | ((with_reducible refine gate_dst (N := 5) rfl ?_); refine boxE (cs := #[.int .i64 0, .int .i64 0, .int .i64 0]) (t := 64) ?_; intro gb152 hg w37 hbox hb; refine E7 (blk_below (g := gb151) (o := .cells #[.int .i64 ((rd_T66 l0 x11_1).f0), .int .i64 ((rd_T66 l0 x11_1).f1.f0), .int .i64 ((rd_T66 l0 x11_1).f1.f1), .int .i64 ((rd_T66 l0 x11_1).f1.f2)] 66 (0, 0)) (PF0 BK151.1) hb) (bS HB.1 hb) (hbox) (gX HB.1 hg) (gX HB.1 hg) ((by rw [hg]; exact Nat.ne_of_lt (blk_lt (g := gb151) (o := .cells #[.int .i64 ((rd_T66 l0 x11_1).f0), .int .i64 ((rd_T66 l0 x11_1).f1.f0), .int .i64 ((rd_T66 l0 x11_1).f1.f1), .int .i64 ((rd_T66 l0 x11_1).f1.f2)] 66 (0, 0)) (PF0 BK151.1)) : gb151 ≠ gb152)) ((by rw [hg]; exact Nat.ne_of_gt (blk_lt (g := gb151) (o := .cells #[.int .i64 ((rd_T66 l0 x11_1).f0), .int .i64 ((rd_T66 l0 x11_1).f1.f0), .int .i64 ((rd_T66 l0 x11_1).f1.f1), .int .i64 ((rd_T66 l0 x11_1).f1.f2)] 66 (0, 0)) (PF0 BK151.1)) : gb152 ≠ gb151)) ?_; clear BK151 HB; intro BK151 HB BK152 GW152 GE152 NB151_152 NB152_151; clear hb hbox hg; have hnb38 := NB152_151.1; have hnc38 := NB151_152.1; obtain ⟨hcz39_0, hcz39_1, hcz39_2, hfz39_0, hfz39_1, hfz39_2⟩ := cz3 BK152.1; obtain ⟨hcz40_0, hcz40_1, hcz40_2, hcz40_3, hfz40_0, hfz40_1, hfz40_2, hfz40_3⟩ := cz4 BK151.1))
     go_ret
     exact ⟨RF, BL HB.1⟩
   replace H := ifQ H; rcases H with ⟨c41, H⟩ | ⟨c41, H⟩
   · have c41b0 : decide (10 < ((rd_T66 l0 x11_1).f1.f1)) = true := decide_eq_true c41
     clear c41
     obtain rfl := Option.some.inj H
     have p150 : 0 <= (x11_1 : Int) := OD
     have q150 : x11_1 < (l0.length : Int) := OD
     obtain ⟨ad150, e150, hx150_0, hx150_1, hx150_2, hx150_3⟩ := at_T66 HR0.1 x11_1 p150 q150
     cases e150
     replace hx150_0 := (HB.1.cell (World.block_lt_of_cell? w _ hx150_0)).trans hx150_0
     replace hx150_1 := (HB.1.cell (World.block_lt_of_cell? w _ hx150_1)).trans hx150_1
     replace hx150_2 := (HB.1.cell (World.block_lt_of_cell? w _ hx150_2)).trans hx150_2
     replace hx150_3 := (HB.1.cell (World.block_lt_of_cell? w _ hx150_3)).trans hx150_3
     replace p150 := eq_true p150
     replace q150 := eq_true q150
     go_wp2_with (first | ((with_reducible refine gate_dst (N := 4) rfl ?_); refine boxE (cs := #[.int .i64 0, .int .i64 0, .int .i64 0, .int .i64 0]) (t := 66) ?_; intro gb151 hg w42 hbox hb; refine E4b HB.1 hg hbox hb ?_; clear HB; intro HB BK151 GW151 GE151; clear hb hbox hg; obtain ⟨hcz43_0, hcz43_1, hcz43_2, hcz43_3, hfz43_0, hfz43_1, hfz43_2, hfz43_3⟩ := cz4 BK151.1) | ((with_reducible refine gate_dst (N := 5) rfl ?_); refine boxE (cs := #[.int .i64 0, .int .i64 0, .int .i64 0]) (t := 64) ?_; intro gb152 hg w44 hbox hb; refine E7 (blk_below (g := gb151) (o := .cells #[.int .i64 ((rd_T66 l0 x11_1).f0), .int .i64 ((rd_T66 l0 x11_1).f1.f0), .int .i64 ((rd_T66 l0 x11_1).f1.f1), .int .i64 ((rd_T66 l0 x11_1).f1.f2)] 66 (0, 0)) (PF0 BK151.1) hb) (bS HB.1 hb) (hbox) (gX HB.1 hg) (gX HB.1 hg) ((by rw [hg]; exact Nat.ne_of_lt (blk_lt (g := gb151) (o := .cells #[.int .i64 ((rd_T66 l0 x11_1).f0), .int .i64 ((rd_T66 l0 x11_1).f1.f0), .int .i64 ((rd_T66 l0 x11_1).f1.f1), .int .i64 ((rd_T66 l0 x11_1).f1.f2)] 66 (0, 0)) (PF0 BK151.1)) : gb151 ≠ gb152)) ((by rw [hg]; exact Nat.ne_of_gt (blk_lt (g := gb151) (o := .cells #[.int .i64 ((rd_T66 l0 x11_1).f0), .int .i64 ((rd_T66 l0 x11_1).f1.f0), .int .i64 ((rd_T66 l0 x11_1).f1.f1), .int .i64 ((rd_T66 l0 x11_1).f1.f2)] 66 (0, 0)) (PF0 BK151.1)) : gb152 ≠ gb151)) ?_; clear BK151 HB; intro BK151 HB BK152 GW152 GE152 NB151_152 NB152_151; clear hb hbox hg; have hnb45 := NB152_151.1; have hnc45 := NB151_152.1; obtain ⟨hcz46_0, hcz46_1, hcz46_2, hfz46_0, hfz46_1, hfz46_2⟩ := cz3 BK152.1; obtain ⟨hcz47_0, hcz47_1, hcz47_2, hcz47_3, hfz47_0, hfz47_1, hfz47_2, hfz47_3⟩ := cz4 BK151.1))
     go_ret
     exact ⟨RF, BL HB.1⟩
   have c41b0 : decide (10 < ((rd_T66 l0 x11_1).f1.f1)) = false := decide_eq_false c41
   clear c41
   replace H := ifB H; rcases H with ⟨c48b0, H⟩ | ⟨c48b0, H⟩
   · obtain rfl := Option.some.inj H
     have p150 : 0 <= (x11_1 : Int) := OD
     have q150 : x11_1 < (l0.length : Int) := OD
     obtain ⟨ad150, e150, hx150_0, hx150_1, hx150_2, hx150_3⟩ := at_T66 HR0.1 x11_1 p150 q150
     cases e150
     replace hx150_0 := (HB.1.cell (World.block_lt_of_cell? w _ hx150_0)).trans hx150_0
     replace hx150_1 := (HB.1.cell (World.block_lt_of_cell? w _ hx150_1)).trans hx150_1
     replace hx150_2 := (HB.1.cell (World.block_lt_of_cell? w _ hx150_2)).trans hx150_2
     replace hx150_3 := (HB.1.cell (World.block_lt_of_cell? w _ hx150_3)).trans hx150_3
     replace p150 := eq_true p150
     replace q150 := eq_true q150
     go_wp2_with (first | ((with_reducible refine gate_dst (N := 4) rfl ?_); refine boxE (cs := #[.int .i64 0, .int .i64 0, .int .i64 0, .int .i64 0]) (t := 66) ?_; intro gb151 hg w49 hbox hb; refine E4b HB.1 hg hbox hb ?_; clear HB; intro HB BK151 GW151 GE151; clear hb hbox hg; obtain ⟨hcz50_0, hcz50_1, hcz50_2, hcz50_3, hfz50_0, hfz50_1, hfz50_2, hfz50_3⟩ := cz4 BK151.1) | ((with_reducible refine gate_dst (N := 5) rfl ?_); refine boxE (cs := #[.int .i64 0, .int .i64 0, .int .i64 0]) (t := 64) ?_; intro gb152 hg w51 hbox hb; refine E7 (blk_below (g := gb151) (o := .cells #[.int .i64 ((rd_T66 l0 x11_1).f0), .int .i64 ((rd_T66 l0 x11_1).f1.f0), .int .i64 ((rd_T66 l0 x11_1).f1.f1), .int .i64 ((rd_T66 l0 x11_1).f1.f2)] 66 (0, 0)) (PF0 BK151.1) hb) (bS HB.1 hb) (hbox) (gX HB.1 hg) (gX HB.1 hg) ((by rw [hg]; exact Nat.ne_of_lt (blk_lt (g := gb151) (o := .cells #[.int .i64 ((rd_T66 l0 x11_1).f0), .int .i64 ((rd_T66 l0 x11_1).f1.f0), .int .i64 ((rd_T66 l0 x11_1).f1.f1), .int .i64 ((rd_T66 l0 x11_1).f1.f2)] 66 (0, 0)) (PF0 BK151.1)) : gb151 ≠ gb152)) ((by rw [hg]; exact Nat.ne_of_gt (blk_lt (g := gb151) (o := .cells #[.int .i64 ((rd_T66 l0 x11_1).f0), .int .i64 ((rd_T66 l0 x11_1).f1.f0), .int .i64 ((rd_T66 l0 x11_1).f1.f1), .int .i64 ((rd_T66 l0 x11_1).f1.f2)] 66 (0, 0)) (PF0 BK151.1)) : gb152 ≠ gb151)) ?_; clear BK151 HB; intro BK151 HB BK152 GW152 GE152 NB151_152 NB152_151; clear hb hbox hg; have hnb52 := NB152_151.1; have hnc52 := NB151_152.1; obtain ⟨hcz53_0, hcz53_1, hcz53_2, hfz53_0, hfz53_1, hfz53_2⟩ := cz3 BK152.1; obtain ⟨hcz54_0, hcz54_1, hcz54_2, hcz54_3, hfz54_0, hfz54_1, hfz54_2, hfz54_3⟩ := cz4 BK151.1))
     go_ret
     exact ⟨RF, BL HB.1⟩
   replace H := ifQ H; rcases H with ⟨c55, H⟩ | ⟨c55, H⟩
   · have c55b0 : decide (9 < ((rd_T66 l0 x11_1).f1.f2)) = true := decide_eq_true c55
     clear c55
     obtain rfl := Option.some.inj H
     have p150 : 0 <= (x11_1 : Int) := OD
     have q150 : x11_1 < (l0.length : Int) := OD
     obtain ⟨ad150, e150, hx150_0, hx150_1, hx150_2, hx150_3⟩ := at_T66 HR0.1 x11_1 p150 q150
     cases e150
     replace hx150_0 := (HB.1.cell (World.block_lt_of_cell? w _ hx150_0)).trans hx150_0
     replace hx150_1 := (HB.1.cell (World.block_lt_of_cell? w _ hx150_1)).trans hx150_1
     replace hx150_2 := (HB.1.cell (World.block_lt_of_cell? w _ hx150_2)).trans hx150_2
     replace hx150_3 := (HB.1.cell (World.block_lt_of_cell? w _ hx150_3)).trans hx150_3
     replace p150 := eq_true p150
     replace q150 := eq_true q150
     go_wp2_with (first | ((with_reducible refine gate_dst (N := 4) rfl ?_); refine boxE (cs := #[.int .i64 0, .int .i64 0, .int .i64 0, .int .i64 0]) (t := 66) ?_; intro gb151 hg w56 hbox hb; refine E4b HB.1 hg hbox hb ?_; clear HB; intro HB BK151 GW151 GE151; clear hb hbox hg; obtain ⟨hcz57_0, hcz57_1, hcz57_2, hcz57_3, hfz57_0, hfz57_1, hfz57_2, hfz57_3⟩ := cz4 BK151.1) | ((with_reducible refine gate_dst (N := 5) rfl ?_); refine boxE (cs := #[.int .i64 0, .int .i64 0, .int .i64 0]) (t := 64) ?_; intro gb152 hg w58 hbox hb; refine E7 (blk_below (g := gb151) (o := .cells #[.int .i64 ((rd_T66 l0 x11_1).f0), .int .i64 ((rd_T66 l0 x11_1).f1.f0), .int .i64 ((rd_T66 l0 x11_1).f1.f1), .int .i64 ((rd_T66 l0 x11_1).f1.f2)] 66 (0, 0)) (PF0 BK151.1) hb) (bS HB.1 hb) (hbox) (gX HB.1 hg) (gX HB.1 hg) ((by rw [hg]; exact Nat.ne_of_lt (blk_lt (g := gb151) (o := .cells #[.int .i64 ((rd_T66 l0 x11_1).f0), .int .i64 ((rd_T66 l0 x11_1).f1.f0), .int .i64 ((rd_T66 l0 x11_1).f1.f1), .int .i64 ((rd_T66 l0 x11_1).f1.f2)] 66 (0, 0)) (PF0 BK151.1)) : gb151 ≠ gb152)) ((by rw [hg]; exact Nat.ne_of_gt (blk_lt (g := gb151) (o := .cells #[.int .i64 ((rd_T66 l0 x11_1).f0), .int .i64 ((rd_T66 l0 x11_1).f1.f0), .int .i64 ((rd_T66 l0 x11_1).f1.f1), .int .i64 ((rd_T66 l0 x11_1).f1.f2)] 66 (0, 0)) (PF0 BK151.1)) : gb152 ≠ gb151)) ?_; clear BK151 HB; intro BK151 HB BK152 GW152 GE152 NB151_152 NB152_151; clear hb hbox hg; have hnb59 := NB152_151.1; have hnc59 := NB151_152.1; obtain ⟨hcz60_0, hcz60_1, hcz60_2, hfz60_0, hfz60_1, hfz60_2⟩ := cz3 BK152.1; obtain ⟨hcz61_0, hcz61_1, hcz61_2, hcz61_3, hfz61_0, hfz61_1, hfz61_2, hfz61_3⟩ := cz4 BK151.1))
     go_ret
     exact ⟨RF, BL HB.1⟩
   have c55b0 : decide (9 < ((rd_T66 l0 x11_1).f1.f2)) = false := decide_eq_false c55
   clear c55
   have H' := Aside0.mk H
   clear H
   have p150 : 0 <= (x11_1 : Int) := OD
   have q150 : x11_1 < (l0.length : Int) := OD
   obtain ⟨ad150, e150, hx150_0, hx150_1, hx150_2, hx150_3⟩ := at_T66 HR0.1 x11_1 p150 q150
   cases e150
   replace hx150_0 := (HB.1.cell (World.block_lt_of_cell? w _ hx150_0)).trans hx150_0
   replace hx150_1 := (HB.1.cell (World.block_lt_of_cell? w _ hx150_1)).trans hx150_1
   replace hx150_2 := (HB.1.cell (World.block_lt_of_cell? w _ hx150_2)).trans hx150_2
   replace hx150_3 := (HB.1.cell (World.block_lt_of_cell? w _ hx150_3)).trans hx150_3
   replace p150 := eq_true p150
   replace q150 := eq_true q150
   go_wp2_with (first | ((with_reducible refine gate_dst (N := 4) rfl ?_); refine boxE (cs := #[.int .i64 0, .int .i64 0, .int .i64 0, .int .i64 0]) (t := 66) ?_; intro gb151 hg w62 hbox hb; refine E4b HB.1 hg hbox hb ?_; clear HB; intro HB BK151 GW151 GE151; clear hb hbox hg; obtain ⟨hcz63_0, hcz63_1, hcz63_2, hcz63_3, hfz63_0, hfz63_1, hfz63_2, hfz63_3⟩ := cz4 BK151.1) | ((with_reducible refine gate_dst (N := 5) rfl ?_); refine boxE (cs := #[.int .i64 0, .int .i64 0, .int .i64 0]) (t := 64) ?_; intro gb152 hg w64 hbox hb; refine E7 (blk_below (g := gb151) (o := .cells #[.int .i64 ((rd_T66 l0 x11_1).f0), .int .i64 ((rd_T66 l0 x11_1).f1.f0), .int .i64 ((rd_T66 l0 x11_1).f1.f1), .int .i64 ((rd_T66 l0 x11_1).f1.f2)] 66 (0, 0)) (PF0 BK151.1) hb) (bS HB.1 hb) (hbox) (gX HB.1 hg) (gX HB.1 hg) ((by rw [hg]; exact Nat.ne_of_lt (blk_lt (g := gb151) (o := .cells #[.int .i64 ((rd_T66 l0 x11_1).f0), .int .i64 ((rd_T66 l0 x11_1).f1.f0), .int .i64 ((rd_T66 l0 x11_1).f1.f1), .int .i64 ((rd_T66 l0 x11_1).f1.f2)] 66 (0, 0)) (PF0 BK151.1)) : gb151 ≠ gb152)) ((by rw [hg]; exact Nat.ne_of_gt (blk_lt (g := gb151) (o := .cells #[.int .i64 ((rd_T66 l0 x11_1).f0), .int .i64 ((rd_T66 l0 x11_1).f1.f0), .int .i64 ((rd_T66 l0 x11_1).f1.f1), .int .i64 ((rd_T66 l0 x11_1).f1.f2)] 66 (0, 0)) (PF0 BK151.1)) : gb152 ≠ gb151)) ?_; clear BK151 HB; intro BK151 HB BK152 GW152 GE152 NB151_152 NB152_151; clear hb hbox hg; have hnb65 := NB152_151.1; have hnc65 := NB151_152.1; obtain ⟨hcz66_0, hcz66_1, hcz66_2, hfz66_0, hfz66_1, hfz66_2⟩ := cz3 BK152.1; obtain ⟨hcz67_0, hcz67_1, hcz67_2, hcz67_3, hfz67_0, hfz67_1, hfz67_2, hfz67_3⟩ := cz4 BK151.1))
   go_roundg k1
   case measure => have := HK1.1; omega
   case rel => exact ⟨(wrap64 (x11_1 + 1)), RG, H', ⟨by have := HK1.1; omega⟩, ⟨BL HB.1⟩⟩
 obtain rfl := Option.some.inj H
 go_wp2
 go_ret
 exact ⟨RF, BL HB.1⟩
/-! ### strings_HasSuffix: function 61 -/
open Kd
def strings_HasSuffix.f (a0 : ByteArray) (a1 : ByteArray) : Option (Bool) := if a0.size <= 9223372036854775807 then (some (Lib.hasSuffix a0.data.toList a1.data.toList)) else (none)
theorem strings_HasSuffix.calls (a0 : ByteArray) (a1 : ByteArray) (r : Bool) (w : World) (h : strings_HasSuffix.f a0 a1 = some r) :
 Calls Tryd.prog 61 #[.string a0, .string a1] w fun e w' => e = .returned (.bool r) /\ Drawn0 w w' := by
 unfold strings_HasSuffix.f at h
 by_cases h0 : a0.size <= 9223372036854775807
 · rw [if_pos h0] at h
   injection h with h
   subst h
   refine (Tryd.strings_HasSuffix a0 a1 w h0).mono ?_
   rintro e w' ⟨rfl, rfl⟩
   exact ⟨rfl, Drawn0.refl _⟩
 · rw [if_neg h0] at h
   exact absurd h (by simp)

/-! ### strings_Split: function 62 -/
open Kd
/-- The two arrays of names. -/
def cNames : List ByteArray := [⟨#[98, 108, 117, 101]⟩, ⟨#[114, 101, 100]⟩]
def eNames : List ByteArray := [⟨#[98, 111, 116, 116, 111, 109]⟩, ⟨#[115, 116, 111, 112]⟩, ⟨#[108, 111, 115, 116]⟩]
/-- The two package-level arrays hold them; the library's longest length is a whole number. -/
def Globs (w : World) : Prop := (Kd.C Kd.string w (some ⟨0, 0, none⟩) 2 cNames /\ Kd.C Kd.string w (some ⟨1, 0, none⟩) 3 eNames) /\ ∃ m : Int, w.cell? ⟨3, 0, none⟩ = some (.int .i64 m)
theorem glob_at {w : World} {g n : Nat} {xs : List ByteArray} (h : Kd.C Kd.string w (some ⟨g, 0, none⟩) n xs) (i : Int) (h0 : 0 <= i) (h1 : i < n) : w.cell? ⟨g, i.toNat, none⟩ = some (.string (rdOf ByteArray.empty xs i)) := by
 obtain ⟨ad, e, hx⟩ := Kd.at_string h i h0 h1
 cases e
 have e : (⟨g, 0, none⟩ : Addr).add i.toNat = ⟨g, i.toNat, none⟩ := by by_cases h : i.toNat = 0 <;> simp [Addr.add, h]
 rw [e] at hx
 exact hx
theorem Globs.below {w w1 : World} (h : Globs w) (hb : Below w.heap.size w w1) : Globs w1 := ⟨⟨C_below h.1.1 hb, C_below h.1.2 hb⟩, let ⟨m, hm⟩ := h.2; ⟨m, (hb.cell (World.block_lt_of_cell? w _ hm)).trans hm⟩⟩
def strings_Split.f (a0 : ByteArray) (a1 : ByteArray) : Option (List ByteArray) := if a0.size <= 1048576 then (if 1 <= a1.size then (some (Lib.splitB a1 0 (Lib.countB a0 a1) a0)) else (none)) else (none)
theorem strings_Split.calls (a0 : ByteArray) (a1 : ByteArray) (r : List ByteArray) (w : World) (hG : Globs w) (h : strings_Split.f a0 a1 = some r) :
 Calls Tryd.prog 62 #[.string a0, .string a1] w fun e w' => ∃ v0_ : Value, e = .returned (v0_) /\ Kd.R Kd.string 9 w' w.heap.size (fun _ => True) v0_ r /\ Below w.heap.size w w' := by
 unfold strings_Split.f at h
 by_cases h0 : a0.size <= 1048576
 · by_cases h1 : 1 <= a1.size
   · rw [if_pos h0, if_pos h1] at h
     injection h with h
     subst h
     obtain ⟨m, hm⟩ := hG.2
     refine (Tryd.strings_Split a0 a1 m w (by omega) hm h1).mono ?_
     rintro e w' ⟨rfl, rfl⟩
     have hl := Lib.splitB_all a1 h1 0 _ a0 rfl
     have hle := Lib.countB_le a1 h1 a0.size a0 (Nat.le_refl _)
     refine ⟨_, rfl, R_of_own ?_ (fun _ _ => trivial), below_alloc (Below.refl _ _) _⟩
     rw [hl]
     refine ⟨by simp [encs, hl], .inr ⟨w.heap.size, _, _, rfl, Nat.le_refl _, blk_new _ _, Nat.le_refl _, by unfold maxLen; omega, by simp [hl], ?_⟩⟩
     rw [List.take_of_length_le (by simp [hl])]
     simp [encs]
   · rw [if_pos h0, if_neg h1] at h
     exact absurd h (by simp)
 · rw [if_neg h0] at h
   exact absurd h (by simp)

/-! ### impl_linesOf: function 44 -/
open Kd
def impl_linesOf.f (a0 : ByteArray) : Option (List ByteArray × Bool) := if a0.toList = ([] : List UInt8) then (some (([] : List ByteArray), true)) else ((strings_HasSuffix.f a0 (⟨#[10]⟩ : ByteArray)).bind fun t153 => (if t153 = true then (if 0 <= (wrap64 ((a0.size : Int) - 1)) then (if (wrap64 ((a0.size : Int) - 1)) <= (a0.size : Int) then ((strings_Split.f (a0.extract 0 ((wrap64 ((a0.size : Int) - 1)) : Int).toNat) (⟨#[10]⟩ : ByteArray)).bind fun t154 => (some (t154, true))) else (none)) else (none)) else (some (([] : List ByteArray), false))))
theorem impl_linesOf.calls (a0 : ByteArray) (r1 : List ByteArray) (r2 : Bool) (w : World) (hG : Globs w) (h : impl_linesOf.f a0 = some (r1, r2)) :
 Calls Tryd.prog 44 #[.string a0] w fun e w' => ∃ v0_ : Value, e = .returned (.tuple #[v0_, .bool r2]) /\ Kd.R Kd.string 9 w' w.heap.size (fun _ => True) v0_ r1 /\ Below w.heap.size w w' := by
 have HB := Aside0.mk (Below.refl w.heap.size w)
 have H := h
 clear h
 unfold impl_linesOf.f at H
 replace H := ifQ H; rcases H with ⟨c2, H⟩ | ⟨c2, H⟩
 · have c2b0 := beq_iff_eq.mpr c2
   have c2b1 := bne_eq_false_iff_eq.mpr c2
   clear c2
   simp only [Option.some.injEq, Prod.mk.injEq] at H
   obtain ⟨rfl, rfl⟩ := H
   go_enter Tryd.func44, Tryd.ntmps44
   go_wp2
   go_ret2
   exact ⟨_, RF, by first | exact R_nil _ _ _ _ _ | exact N_nil _ _ _ _ _ | exact V_nil _ _ _ _ _ | exact Q_nil _ _ _ _ _ | exact S_nil _ _ _ _ _, BL HB.1⟩
 have c2b0 := beq_eq_false_iff_ne.mpr c2
 have c2b1 := bne_iff_ne.mpr c2
 replace H := bindA H; obtain ⟨t153, A3, H⟩ := H
 replace H := ifX H; rcases H with ⟨rfl, H⟩ | ⟨rfl, H⟩
 · obtain ⟨ji5, hji5⟩ : ∃ j_ : Int, (wrap64 ((a0.size : Int) - 1)) = j_ := ⟨_, rfl⟩
   replace H : (if 0 <= (ji5) then (if (ji5) <= (a0.size : Int) then ((strings_Split.f (a0.extract 0 ((ji5) : Int).toNat) (⟨#[10]⟩ : ByteArray)).bind fun t154 => (some (t154, true))) else (none)) else (none)) = some (r1, r2) := by first | (rw [hji5] at H; exact H) | (simp only [hji5] at H ⊢; exact H)
   (try rw [hji5] at A3)
   have hji5w : (IntKind.i64.wrap ((a0.size : Int) - 1)) = ji5 := (i64_w _).trans hji5
   replace H := ifP H; obtain ⟨c6, H⟩ := H
   have c6b0 := eq_true c6
   have c6b1 := decide_eq_true c6
   clear c6
   replace H := ifP H; obtain ⟨c7, H⟩ := H
   have c7b0 := eq_true c7
   have c7b1 := decide_eq_true c7
   clear c7
   replace H := bindA H; obtain ⟨t154, A8, H⟩ := H
   simp only [Option.some.injEq, Prod.mk.injEq] at H
   obtain ⟨rfl, rfl⟩ := H
   go_enter Tryd.func44, Tryd.ntmps44
   go_wp2_with (first | ((with_reducible refine gate_callee (f := 61) rfl ?_); refine goesM (N := (some 7)) #[.string a0, .string (⟨#[10]⟩ : ByteArray)] Tryd.func61 ?_; (with_reducible refine (strings_HasSuffix.calls a0 (⟨#[10]⟩ : ByteArray) true _ A3.1).mono ?_); rintro e w' ⟨rfl, ⟨nd, rfl⟩⟩; refine ⟨_, rfl, ?_⟩) | ((with_reducible refine gate_callee (f := 62) rfl ?_); refine goesL_ (some 14) rfl rfl Tryd.func62 (by kernel_rfl) rfl #[.string (a0.extract 0 ((ji5) : Int).toNat), .string (⟨#[10]⟩ : ByteArray)] rfl (by (try simp only [List.map_toArray, List.map_cons, List.map_nil]); first | done | (simp only [hji5]; rfl) | rfl | (simp only [List.length_drop, List.length_take]; rfl)) ?_; (with_reducible refine (strings_Split.calls (a0.extract 0 ((ji5) : Int).toNat) (⟨#[10]⟩ : ByteArray) t154 _ (hG.below (BL HB.1)) A8.1).mono ?_); rintro e w9 ⟨v155, rfl, ho0, hb⟩; refine ⟨_, rfl, ?_⟩; refine E2 (R_lower ho0 (bZ HB.1)) (bS HB.1 hb) ?_; clear HB; intro HO156 HB; (try clear hb); (try clear ho0)))
   go_ret2
   exact ⟨_, by first | rfl | (simp [errW_none, errW_some] <;> rfl) | (simp only [<- hji5]; first | rfl | (simp [errW_none, errW_some] <;> rfl)) | (simp [*, errW_none, errW_some] <;> rfl), RPE (HO156.1), BL HB.1⟩
 simp only [Option.some.injEq, Prod.mk.injEq] at H
 obtain ⟨rfl, rfl⟩ := H
 go_enter Tryd.func44, Tryd.ntmps44
 go_wp2_with (first | ((with_reducible refine gate_callee (f := 61) rfl ?_); refine goesM (N := (some 7)) #[.string a0, .string (⟨#[10]⟩ : ByteArray)] Tryd.func61 ?_; (with_reducible refine (strings_HasSuffix.calls a0 (⟨#[10]⟩ : ByteArray) false _ A3.1).mono ?_); rintro e w' ⟨rfl, ⟨nd, rfl⟩⟩; refine ⟨_, rfl, ?_⟩))
 go_ret2
 exact ⟨_, RF, by first | exact R_nil _ _ _ _ _ | exact N_nil _ _ _ _ _ | exact V_nil _ _ _ _ _ | exact Q_nil _ _ _ _ _ | exact S_nil _ _ _ _ _, BL HB.1⟩
end Go.Proofs.YtfekgidcnidijaaDoor.P
