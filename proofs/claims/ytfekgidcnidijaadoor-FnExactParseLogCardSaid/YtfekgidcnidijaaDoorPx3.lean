-- PRINTED by print.py (a twelfth state) out of the translation. Not trusted: Lean checks it.
import Derived.Test.YtfekgidcnidijaaDoorPx0
import Derived.Test.YtfekgidcnidijaaDoorPx1
import Derived.Test.YtfekgidcnidijaaDoorPx2
namespace Go.Proofs.YtfekgidcnidijaaDoor.P
open Go.RowKit Go.Proofs.YtfekgidcnidijaaDoorW.PrintWords Go.Proofs.YtfekgidcnidijaaDoorW.PrintLast Go.Proofs.YtfekgidcnidijaaDoorW.PrintMore
attribute [local go_sem] max2_int min2_int max_two min_two max_three min_three max_four min_four   -- for this text's walks alone
set_option linter.unusedVariables false
set_option linter.unusedSimpArgs false
set_option maxHeartbeats 8000000
set_option maxRecDepth 100000

/-! ### impl_decimal: function 63 -/
open Kd
mutual
def impl_decimal.j0 : Nat -> ByteArray -> Bool -> Option (Int × Bool)
 | 0, _, _ => none
 | k + 1, x0, x22 => if x22 = true then (some (0, false)) else (impl_decimal.l0 k x0 0 0)
def impl_decimal.l0 : Nat -> ByteArray -> Int -> Int -> Option (Int × Bool)
 | 0, _, _, _ => none
 | k + 1, x0, x4, x5 => if x5 < (x0.size : Int) then (if 0 <= x5 then (if (bt x0 x5) < 48 then (some (0, false)) else (if (bt x0 x5) > 57 then (some (0, false)) else (impl_decimal.l0 k x0 (wrap64 ((wrap64 (10 * x4)) + (((bt x0 x5) - 48) % 256))) (wrap64 (x5 + 1))))) else (none)) else (some (x4, true))
end
def impl_decimal.f (k : Nat) (a0 : ByteArray) : Option (Int × Bool) := if a0.toList = ([] : List UInt8) then (impl_decimal.j0 k a0 true) else (if (a0.size : Int) > 18 then (impl_decimal.j0 k a0 true) else (if 0 < (a0.size : Int) then (if (bt a0 0) = 48 then (impl_decimal.j0 k a0 (decide ((a0.size : Int) > 1))) else (impl_decimal.j0 k a0 false)) else (none)))
theorem impl_decimal.mono_l : ∀ k, (∀ y0 y1, LeO (impl_decimal.j0 k y0 y1) (impl_decimal.j0 (k + 1) y0 y1)) /\ (∀ y0 y1 y2, LeO (impl_decimal.l0 k y0 y1 y2) (impl_decimal.l0 (k + 1) y0 y1 y2))
 | 0 => by refine ⟨?_, ?_⟩ <;> (intros; intro r h; first | (simp [impl_decimal.j0] at h; done) | (simp [impl_decimal.l0] at h; done))
 | k + 1 => by
  obtain ⟨ih0, ih1⟩ := impl_decimal.mono_l k
  refine ⟨?_, ?_⟩ <;> (
   intros
   first | unfold impl_decimal.j0 | unfold impl_decimal.l0
   exact LM2 ih0 ih1)
theorem impl_decimal.mono : ∀ a0 k, LeO (impl_decimal.f k a0) (impl_decimal.f (k + 1) a0) := by
 intro a0 k
 obtain ⟨ih0, ih1⟩ := impl_decimal.mono_l k
 unfold impl_decimal.f
 exact LM2 ih0 ih1
theorem impl_decimal.calls (k : Nat) (a0 : ByteArray) (r1 : Int) (r2 : Bool) (w : World) (h : impl_decimal.f k a0 = some (r1, r2)) :
 Calls Tryd.prog 63 #[.string a0] w fun e w' => e = .returned (.tuple #[.int .i64 r1, .bool r2]) /\ Drawn0 w w' := by
 have H := h
 clear h
 unfold impl_decimal.f at H
 have HC2 := Aside0.mk H
 clear H
 go_enter Tryd.func63, Tryd.ntmps63
 go_upto_region 1 with (fail)
 go_cut [22] (fun v22 wc => ∃ (kq : Nat) (x22_1 : Bool), v22 = .bool x22_1 /\ Aside0 (impl_decimal.j0 kq a0 x22_1 = some (r1, r2)) /\ Aside0 (kq <= k) /\ Drawn0 w wc)
 case first =>
  have H := HC2.1
  clear HC2
  replace H := ifQ H; rcases H with ⟨c3, H⟩ | ⟨c3, H⟩
  · have c3b0 := beq_iff_eq.mpr c3
    have c3b1 := bne_eq_false_iff_eq.mpr c3
    clear c3
    (first | rw [c3b0] | (simp only [i64_w, i32_w]; rw [c3b0]) | skip)
    have H' := Aside0.mk H
    clear H
    go_wp2
    go_meet
    case rel => exact ⟨_, (true), RG, H', ⟨by first | omega | exact Nat.le_refl _⟩, DR⟩
  have c3b0 := beq_eq_false_iff_ne.mpr c3
  have c3b1 := bne_iff_ne.mpr c3
  (first | rw [c3b0] | (simp only [i64_w, i32_w]; rw [c3b0]) | skip)
  replace H := ifQ H; rcases H with ⟨c4, H⟩ | ⟨c4, H⟩
  · have c4b0 : decide (18 < (a0.size : Int)) = true := decide_eq_true c4
    have c4b1 : decide (18 < a0.size) = true := decide_eq_true (by omega)
    clear c4
    have H' := Aside0.mk H
    clear H
    go_wp2
    go_meet
    case rel => exact ⟨_, (true), RG, H', ⟨by first | omega | exact Nat.le_refl _⟩, DR⟩
  have c4b0 : decide (18 < (a0.size : Int)) = false := decide_eq_false c4
  have c4b1 : decide (18 < a0.size) = false := decide_eq_false (by omega)
  clear c4
  replace H := ifP H; obtain ⟨c5, H⟩ := H
  have c5b0 := decide_eq_true c5
  have c5b1 : decide (0 < a0.size) = true := decide_eq_true (by omega)
  clear c5
  replace H := ifQ H; rcases H with ⟨c7, H⟩ | ⟨c7, H⟩
  · have c7b0 := beq_iff_eq.mpr c7
    have c7b1 := bne_eq_false_iff_eq.mpr c7
    clear c7
    have H' := Aside0.mk H
    clear H
    have p6 : 0 <= (0 : Int) := (by omega)
    have q6 : 0 < a0.size := (by have : (0 : Int) < (a0.size : Int) := OD; omega)
    have hx6 : ∀ h : 0 < a0.size, ((a0[0]'h).toNat : Int) = bt a0 0 := bt_at a0 0
    clear p6
    have qi6 : (0 < (a0.size : Int)) = True := eq_true (OD)
    replace q6 := eq_true q6
    go_wp2
    go_meet
    case rel => exact ⟨_, (decide ((a0.size : Int) > 1)), RG, H', ⟨by first | omega | exact Nat.le_refl _⟩, DR⟩
  have c7b0 := beq_eq_false_iff_ne.mpr c7
  have c7b1 := bne_iff_ne.mpr c7
  have H' := Aside0.mk H
  clear H
  have p6 : 0 <= (0 : Int) := (by omega)
  have q6 : 0 < a0.size := (by have : (0 : Int) < (a0.size : Int) := OD; omega)
  have hx6 : ∀ h : 0 < a0.size, ((a0[0]'h).toNat : Int) = bt a0 0 := bt_at a0 0
  clear p6
  have qi6 : (0 < (a0.size : Int)) = True := eq_true (OD)
  replace q6 := eq_true q6
  go_wp2
  go_meet
  case rel => exact ⟨_, (false), RG, H', ⟨by first | omega | exact Nat.le_refl _⟩, DR⟩
 clear HC2
 obtain ⟨kq, x22_1, rfl, HA, HJ1, ⟨mc1, rfl⟩⟩ := hcut
 cases kq with
 | zero => exact absurd HA.1 (by simp [impl_decimal.j0])
 | succ kj1 => ?_
 have H := HA.1
 clear HA
 simp only [impl_decimal.j0] at H
 replace H := ifX H; rcases H with ⟨rfl, H⟩ | ⟨rfl, H⟩
 · simp only [Option.some.injEq, Prod.mk.injEq] at H
   obtain ⟨rfl, rfl⟩ := H
   go_wp2
   go_ret2
   exact ⟨RG, DR⟩
 have H' := Aside0.mk H
 clear H
 go_wp2
 go_loopg [4, 5] kj1 (fun kq v4 v5 w' => ∃ (x4_2 : Int) (x5_2 : Int), v4 = .int .i64 x4_2 /\ v5 = .int .i64 x5_2 /\ Aside0 (impl_decimal.l0 kq a0 x4_2 x5_2 = some (r1, r2)) /\ Aside0 (kq <= kj1) /\ Drawn0 w w')
 case atStart => exact ⟨(0), (0), RG, RG, H', ⟨Nat.le_refl _⟩, DR⟩
 clear H'
 obtain ⟨x4_2, x5_2, rfl, rfl, HA, HK2, ⟨m2, rfl⟩⟩ := hrel
 cases gk with
 | zero => exact absurd HA.1 (by simp [impl_decimal.l0])
 | succ k2 => ?_
 have H := HA.1
 clear HA
 simp only [impl_decimal.l0] at H
 replace H := ifB H; rcases H with ⟨c9b0, H⟩ | ⟨c9b0, H⟩
 · replace H := ifN H; obtain ⟨c10b0, H⟩ := H
   replace H := ifB H; rcases H with ⟨c12b0, H⟩ | ⟨c12b0, H⟩
   · simp only [Option.some.injEq, Prod.mk.injEq] at H
     obtain ⟨rfl, rfl⟩ := H
     have p11 : 0 <= (x5_2 : Int) := OD
     have q11 : x5_2 < (a0.size : Int) := OD
     have hx11 := bt_at a0 x5_2
     replace p11 := eq_true p11
     replace q11 := eq_true q11
     go_wp2
     go_ret2
     exact ⟨RG, DR⟩
   replace H := ifQ H; rcases H with ⟨c14, H⟩ | ⟨c14, H⟩
   · have c14b0 : decide (57 < (bt a0 x5_2)) = true := decide_eq_true c14
     clear c14
     simp only [Option.some.injEq, Prod.mk.injEq] at H
     obtain ⟨rfl, rfl⟩ := H
     have p11 : 0 <= (x5_2 : Int) := OD
     have q11 : x5_2 < (a0.size : Int) := OD
     have hx11 := bt_at a0 x5_2
     replace p11 := eq_true p11
     replace q11 := eq_true q11
     have p13 : 0 <= (x5_2 : Int) := OD
     have q13 : x5_2 < (a0.size : Int) := OD
     have hx13 := bt_at a0 x5_2
     replace p13 := eq_true p13
     replace q13 := eq_true q13
     go_wp2
     go_ret2
     exact ⟨RG, DR⟩
   have c14b0 : decide (57 < (bt a0 x5_2)) = false := decide_eq_false c14
   clear c14
   have H' := Aside0.mk H
   clear H
   have p11 : 0 <= (x5_2 : Int) := OD
   have q11 : x5_2 < (a0.size : Int) := OD
   have hx11 := bt_at a0 x5_2
   replace p11 := eq_true p11
   replace q11 := eq_true q11
   have p13 : 0 <= (x5_2 : Int) := OD
   have q13 : x5_2 < (a0.size : Int) := OD
   have hx13 := bt_at a0 x5_2
   replace p13 := eq_true p13
   replace q13 := eq_true q13
   have p15 : 0 <= (x5_2 : Int) := OD
   have q15 : x5_2 < (a0.size : Int) := OD
   have hx15 := bt_at a0 x5_2
   replace p15 := eq_true p15
   replace q15 := eq_true q15
   go_wp2
   go_roundg k2
   case measure => have := HJ1.1; have := HK2.1; omega
   case rel => exact ⟨(wrap64 ((wrap64 (10 * x4_2)) + (((bt a0 x5_2) - 48) % 256))), (wrap64 (x5_2 + 1)), RG, RG, H', ⟨by have := HJ1.1; have := HK2.1; omega⟩, DR⟩
 simp only [Option.some.injEq, Prod.mk.injEq] at H
 obtain ⟨rfl, rfl⟩ := H
 go_wp2
 go_ret2
 exact ⟨RG, DR⟩
/-! ### impl_readEntry: function 45 -/
open Kd
open Kd
mutual
def impl_readEntry.l0 : Nat -> List ByteArray -> List ByteArray -> List ByteArray -> Int -> Int -> Int -> Int -> Int -> Option (Int × Int × Int × Int × Bool)
 | 0, _, _, _, _, _, _, _, _ => none
 | k + 1, x2, x8, x25, x26, x192000, x192001, x192002, x192003 => if x26 < 2 then (if 0 <= x26 then (if x26 < (x25.length : Int) then (if 0 < (x8.length : Int) then (if (rdOf ByteArray.empty x8 0).toList = (rdOf ByteArray.empty x25 x26).toList then (impl_readEntry.l0 k x2 x8 x25 (wrap64 (x26 + 1)) x26 x192001 x192002 x192003) else (impl_readEntry.l0 k x2 x8 x25 (wrap64 (x26 + 1)) x192000 x192001 x192002 x192003)) else (none)) else (none)) else (none)) else (impl_readEntry.l1 k x8 x2 0 x192000 x192001 x192002 x192003)
def impl_readEntry.l1 : Nat -> List ByteArray -> List ByteArray -> Int -> Int -> Int -> Int -> Int -> Option (Int × Int × Int × Int × Bool)
 | 0, _, _, _, _, _, _, _ => none
 | k + 1, x8, x38, x39, x192000, x192001, x192002, x192003 => if x39 < 3 then (if 0 <= x39 then (if x39 < (x38.length : Int) then (if 1 < (x8.length : Int) then (if (rdOf ByteArray.empty x8 1).toList = (rdOf ByteArray.empty x38 x39).toList then (impl_readEntry.l1 k x8 x38 (wrap64 (x39 + 1)) x192000 (wrap64 (x39 + 1)) x192002 x192003) else (impl_readEntry.l1 k x8 x38 (wrap64 (x39 + 1)) x192000 x192001 x192002 x192003)) else (none)) else (none)) else (none)) else (if 2 < (x8.length : Int) then ((impl_decimal.f k (rdOf ByteArray.empty x8 2)).bind fun bt197 => (if 3 < (x8.length : Int) then ((impl_decimal.f k (rdOf ByteArray.empty x8 3)).bind fun bt200 => (if (rdOf ByteArray.empty x8 3).toList = ([45] : List UInt8) then (if bt197.2 = true then (some (x192000, x192001, bt197.1, (-1), true)) else (some (x192000, x192001, bt197.1, (-1), false))) else (if bt197.2 = true then (some (x192000, x192001, bt197.1, bt200.1, bt200.2)) else (some (x192000, x192001, bt197.1, bt200.1, false))))) else (none))) else (none))
end
def impl_readEntry.g (k : Nat) (a0 : ByteArray) (l1 : List ByteArray) (l2 : List ByteArray) : Option (Int × Int × Int × Int × Bool) := (strings_Split.f a0 (⟨#[32]⟩ : ByteArray)).bind fun t188 => (if (t188.length : Int) = 4 then (impl_readEntry.l0 k l2 t188 l1 0 (-1) 0 0 0) else (some (0, 0, 0, 0, false)))
theorem impl_readEntry.mono_l : ∀ k, (∀ y0 y1 y2 y3 y4 y5 y6 y7, LeO (impl_readEntry.l0 k y0 y1 y2 y3 y4 y5 y6 y7) (impl_readEntry.l0 (k + 1) y0 y1 y2 y3 y4 y5 y6 y7)) /\ (∀ y0 y1 y2 y3 y4 y5 y6, LeO (impl_readEntry.l1 k y0 y1 y2 y3 y4 y5 y6) (impl_readEntry.l1 (k + 1) y0 y1 y2 y3 y4 y5 y6))
 | 0 => by refine ⟨?_, ?_⟩ <;> (intros; intro r h; first | (simp [impl_readEntry.l0] at h; done) | (simp [impl_readEntry.l1] at h; done))
 | k + 1 => by
  obtain ⟨ih0, ih1⟩ := impl_readEntry.mono_l k
  refine ⟨?_, ?_⟩ <;> (
   intros
   first | unfold impl_readEntry.l0 | unfold impl_readEntry.l1
   exact LM3 ih0 ih1 impl_decimal.mono)
theorem impl_readEntry.mong : ∀ a0 a1 a2 k, LeO (impl_readEntry.g k a0 a1 a2) (impl_readEntry.g (k + 1) a0 a1 a2) := by
 intro a0 a1 a2 k
 obtain ⟨ih0, ih1⟩ := impl_readEntry.mono_l k
 unfold impl_readEntry.g
 exact LM3 ih0 ih1 impl_decimal.mono
def impl_readEntry.f (k : Nat) (a0 : ByteArray) : Option (Int × Int × Int × Int × Bool) := impl_readEntry.g k a0 cNames eNames
theorem impl_readEntry.mono : ∀ a0 k, LeO (impl_readEntry.f k a0) (impl_readEntry.f (k + 1) a0) := fun a0 k => impl_readEntry.mong a0 cNames eNames k
theorem idxC (i : Int) (h0 : 0 <= i) (h1 : i < 2) (w : World) : (Instr.index 71 (.agg #[.string ⟨#[98, 108, 117, 101]⟩, .string ⟨#[114, 101, 100]⟩]) (.int .i64 i)).run Tryd.prog w = .ok (.string (rdOf ByteArray.empty cNames i)) w := by
 rcases (by omega : i = 0 ∨ i = 1) with rfl | rfl <;> kernel_rfl
theorem idxE (i : Int) (h0 : 0 <= i) (h1 : i < 3) (w : World) : (Instr.index 72 (.agg #[.string ⟨#[98, 111, 116, 116, 111, 109]⟩, .string ⟨#[115, 116, 111, 112]⟩, .string ⟨#[108, 111, 115, 116]⟩]) (.int .i64 i)).run Tryd.prog w = .ok (.string (rdOf ByteArray.empty eNames i)) w := by
 rcases (by omega : i = 0 ∨ i = 1 ∨ i = 2) with rfl | rfl | rfl <;> kernel_rfl
theorem globC {w w1 : World} (h : Globs w) (hb : Below w.heap.size w w1) : w1.cell? ⟨0, 0, none⟩ = some (.string ⟨#[98, 108, 117, 101]⟩) /\ w1.cell? ⟨0, 1, none⟩ = some (.string ⟨#[114, 101, 100]⟩) :=
 ⟨glob_at (h.below hb).1.1 0 (by omega) (by omega), glob_at (h.below hb).1.1 1 (by omega) (by omega)⟩
theorem globE {w w1 : World} (h : Globs w) (hb : Below w.heap.size w w1) : w1.cell? ⟨1, 0, none⟩ = some (.string ⟨#[98, 111, 116, 116, 111, 109]⟩) /\ w1.cell? ⟨1, 1, none⟩ = some (.string ⟨#[115, 116, 111, 112]⟩) /\ w1.cell? ⟨1, 2, none⟩ = some (.string ⟨#[108, 111, 115, 116]⟩) :=
 ⟨glob_at (h.below hb).1.2 0 (by omega) (by omega), glob_at (h.below hb).1.2 1 (by omega) (by omega), glob_at (h.below hb).1.2 2 (by omega) (by omega)⟩
theorem glob_far {w : World} {a p : Addr} {v0 : Value} (h : w.cell? a = some v0) (hp : w.heap.size <= p.block) (v : Value) : (w.setCell p v).cell? a = some v0 :=
 (cell_far (Nat.ne_of_lt (Nat.lt_of_lt_of_le (World.block_lt_of_cell? w _ h) hp)) v).trans h
theorem impl_readEntry.calls (k : Nat) (a0 : ByteArray) (r1 : Int) (r2 : Int) (r3 : Int) (r4 : Int) (r5 : Bool) (w : World) (hG : Globs w) (h : impl_readEntry.f k a0 = some (r1, r2, r3, r4, r5)) :
 Calls Tryd.prog 45 #[.string a0] w fun e w' => e = .returned (.tuple #[.agg #[.int .i64 r1, .int .i64 r2, .int .i64 r3, .int .i64 r4], .bool r5]) /\ Below w.heap.size w w' := by
 have hu66 := Tryd.underlying66
 have HB := Aside0.mk (Below.refl w.heap.size w)
 have H := h
 clear h
 unfold impl_readEntry.f impl_readEntry.g at H
 replace H := bindA H; obtain ⟨t188, A4, H⟩ := H
 replace H := ifQ H; rcases H with ⟨c5, H⟩ | ⟨c5, H⟩
 · have c5b0 := beq_iff_eq.mpr c5
   have c5b1 := bne_eq_false_iff_eq.mpr c5
   clear c5
   have H' := Aside0.mk H
   clear H
   go_enter Tryd.func45, Tryd.ntmps45
   go_wp2_with (first | ((with_reducible refine gate_dst (N := 2) rfl ?_); refine boxE (cs := #[.int .i64 0, .int .i64 0, .int .i64 0, .int .i64 0]) (t := 66) ?_; intro gb187 hg w6 hbox hb; refine E4b HB.1 hg hbox hb ?_; clear HB; intro HB BK187 GW187 GE187; clear hb hbox hg) | ((with_reducible refine gate_callee (f := 62) rfl ?_); refine goesM (N := (some 15)) #[.string a0, .string (⟨#[32]⟩ : ByteArray)] Tryd.func62 ?_; (with_reducible refine (strings_Split.calls a0 (⟨#[32]⟩ : ByteArray) t188 _ (hG.below (BL HB.1)) A4.1).mono ?_); rintro e w7 ⟨v189, rfl, ho0, hb⟩; refine ⟨_, rfl, ?_⟩; refine E3 (R_lower ho0 (bZ HB.1)) (bB BK187.1 hb) (bS HB.1 hb) ?_; clear BK187 HB; intro HO190 BK187 HB; (try clear hb); (try clear ho0); obtain ⟨Ao8, co8, eo8⟩ := R_slice HO190.1; subst eo8) | ((with_reducible refine gate_dst (N := 5) rfl ?_); refine boxE (cs := #[.int .i64 0, .int .i64 0, .int .i64 0, .int .i64 0]) (t := 66) ?_; intro gb191 hg w9 hbox hb; refine E8 (rB HO190.1 hb) (bB BK187.1 hb) (bS HB.1 hb) (hbox) (gX HB.1 hg) (gX HB.1 hg) (nB BK187.1 hg) (nC BK187.1 hg) ?_; clear HO190 BK187 HB; intro HO190 BK187 HB BK191 GW191 GE191 NB187_191 NB191_187; clear hb hbox hg; have hnb10 := NB191_187.1; have hnc10 := NB187_191.1; obtain ⟨hcz11_0, hcz11_1, hcz11_2, hcz11_3, hfz11_0, hfz11_1, hfz11_2, hfz11_3⟩ := cz4 BK191.1; obtain ⟨hv0, hv1⟩ := globC hG (BL HB.1); have hn0 : (⟨0, 0, none⟩ : Addr).block ≠ gb191 := Nat.ne_of_lt (Nat.lt_of_lt_of_le (World.block_lt_of_cell? _ _ (glob_at hG.1.1 0 (by omega) (by omega))) GW191.1); replace hv0 := (cell_far (p := ⟨gb191, 0, none⟩) hn0 (.int .i64 (-1))).trans hv0; replace hv0 := (cell_far (p := ⟨gb191, 1, none⟩) hn0 (.int .i64 0)).trans hv0; replace hv0 := (cell_far (p := ⟨gb191, 2, none⟩) hn0 (.int .i64 0)).trans hv0; replace hv0 := (cell_far (p := ⟨gb191, 3, none⟩) hn0 (.int .i64 0)).trans hv0; have hn1 : (⟨0, 1, none⟩ : Addr).block ≠ gb191 := Nat.ne_of_lt (Nat.lt_of_lt_of_le (World.block_lt_of_cell? _ _ (glob_at hG.1.1 1 (by omega) (by omega))) GW191.1); replace hv1 := (cell_far (p := ⟨gb191, 0, none⟩) hn1 (.int .i64 (-1))).trans hv1; replace hv1 := (cell_far (p := ⟨gb191, 1, none⟩) hn1 (.int .i64 0)).trans hv1; replace hv1 := (cell_far (p := ⟨gb191, 2, none⟩) hn1 (.int .i64 0)).trans hv1; replace hv1 := (cell_far (p := ⟨gb191, 3, none⟩) hn1 (.int .i64 0)).trans hv1))
   go_loopg [22] k (fun kq v26 w' => ∃ (x26_1 : Int) (x192000_1 : Int), v26 = .int .i64 x26_1 /\ Aside0 (impl_readEntry.l0 kq eNames t188 cNames x26_1 x192000_1 0 0 0 = some (r1, r2, r3, r4, r5)) /\ Aside0 (kq <= k) /\ Aside0 (Kd.R Kd.string 9 w' w.heap.size (fun _ => True) (.slice Ao8 t188.length co8) t188) /\ Aside0 (w'.heap[gb187]? = some (.cells #[.int .i64 0, .int .i64 0, .int .i64 0, .int .i64 0] 66 (0, 0))) /\ Aside0 (w'.heap[gb191]? = some (.cells #[.int .i64 x192000_1, .int .i64 0, .int .i64 0, .int .i64 0] 66 (0, 0))) /\ Aside0 (Below w.heap.size w w'))
   case atStart => exact ⟨(0), ((-1)), RG, H', ⟨Nat.le_refl _⟩, ⟨by (with_reducible repeat (first | apply R_alloc | apply R_drewN | apply R_drew)); exact R_mono (RQ gb191 3 (RQ gb191 2 (RQ gb191 1 (RQ gb191 0 (R_types HO190.1 BK191.1 (by decide)) _) _) _) _) (fun _ hk => trivial)⟩, ⟨by (with_reducible repeat (first | refine blk_drewN ?_ _ | refine blk_drew ?_ | refine blk_alloc ?_ _)); refine blk_far ?_ NB187_191.1 _; (with_reducible repeat (first | refine blk_drewN ?_ _ | refine blk_drew ?_ | refine blk_alloc ?_ _)); refine blk_far ?_ NB187_191.1 _; (with_reducible repeat (first | refine blk_drewN ?_ _ | refine blk_drew ?_ | refine blk_alloc ?_ _)); refine blk_far ?_ NB187_191.1 _; (with_reducible repeat (first | refine blk_drewN ?_ _ | refine blk_drew ?_ | refine blk_alloc ?_ _)); refine blk_far ?_ NB187_191.1 _; (with_reducible repeat (first | refine blk_drewN ?_ _ | refine blk_drew ?_ | refine blk_alloc ?_ _)); exact BK187.1⟩, ⟨by (with_reducible repeat (first | refine blk_drewN ?_ _ | refine blk_drew ?_ | refine blk_alloc ?_ _)); refine blk_put (cs := #[.int .i64 (-1), .int .i64 0, .int .i64 0, .int .i64 0]) ?_ 3 _ rfl; (with_reducible repeat (first | refine blk_drewN ?_ _ | refine blk_drew ?_ | refine blk_alloc ?_ _)); refine blk_put (cs := #[.int .i64 (-1), .int .i64 0, .int .i64 0, .int .i64 0]) ?_ 2 _ rfl; (with_reducible repeat (first | refine blk_drewN ?_ _ | refine blk_drew ?_ | refine blk_alloc ?_ _)); refine blk_put (cs := #[.int .i64 (-1), .int .i64 0, .int .i64 0, .int .i64 0]) ?_ 1 _ rfl; (with_reducible repeat (first | refine blk_drewN ?_ _ | refine blk_drew ?_ | refine blk_alloc ?_ _)); refine blk_put (cs := #[.int .i64 0, .int .i64 0, .int .i64 0, .int .i64 0]) ?_ 0 _ rfl; (with_reducible repeat (first | refine blk_drewN ?_ _ | refine blk_drew ?_ | refine blk_alloc ?_ _)); exact BK191.1⟩, ⟨BL HB.1⟩⟩
   clear H'
   clear c5b0 c5b1 hcz11_0 hcz11_1 hcz11_2 hcz11_3 hfz11_0 hfz11_1 hfz11_2 hfz11_3
   obtain ⟨x26_1, x192000_1, rfl, HA, HK1, HO_8, BK187, BK191, HB⟩ := hrel
   cases gk with
   | zero => exact absurd HA.1 (by simp [impl_readEntry.l0])
   | succ k1 => ?_
   have H := HA.1
   clear HA
   simp only [impl_readEntry.l0] at H
   replace H := ifB H; rcases H with ⟨c12b0, H⟩ | ⟨c12b0, H⟩
   · replace H := ifN H; obtain ⟨c13b0, H⟩ := H
     replace H := ifN H; obtain ⟨c14b0, H⟩ := H
     replace H := ifP H; obtain ⟨c15, H⟩ := H
     have c15b0 := decide_eq_true c15
     have c15b1 : decide (0 < t188.length) = true := decide_eq_true (by omega)
     clear c15
     replace H := ifQ H; rcases H with ⟨c16, H⟩ | ⟨c16, H⟩
     · have c16b0 := beq_iff_eq.mpr c16
       have c16b1 := bne_eq_false_iff_eq.mpr c16
       clear c16
       have H' := Aside0.mk H
       clear H
       have p192 : 0 <= (x26_1 : Int) := OD
       have q192 : x26_1 < (cNames.length : Int) := OD
       have hx192 := fun (w_ : World) => idxC x26_1 p192 (by have := q192; simpa [cNames, eNames] using this) w_
       have p193 : 0 <= (0 : Int) := (by omega)
       have q193 : 0 < (t188.length : Int) := OD
       obtain ⟨ad193, e193, hx193_0⟩ := Kd.at_string (R_reads' HO_8.1).2.2 0 p193 q193
       cases e193
       have qi193 : (0 < t188.length) = True := eq_true (by omega)
       (try rw [show ((0 : Int)).toNat = 0 from rfl] at hx193_0)
       (try rw [Addr.add_zero'] at hx193_0)
       replace p193 := eq_true p193
       replace q193 := eq_true q193
       obtain ⟨hcz18_0, hcz18_1, hcz18_2, hcz18_3, hfz18_0, hfz18_1, hfz18_2, hfz18_3⟩ := cz4 BK191.1
       go_wp2
       go_roundg k1
       case measure => have := HK1.1; omega
       case rel => exact ⟨(wrap64 (x26_1 + 1)), (x26_1), RG, H', ⟨by have := HK1.1; omega⟩, ⟨by (with_reducible repeat (first | apply R_alloc | apply R_drewN | apply R_drew)); exact R_mono (RQ gb191 0 (R_types HO_8.1 BK191.1 (by decide)) _) (fun _ hk => trivial)⟩, ⟨by (with_reducible repeat (first | refine blk_drewN ?_ _ | refine blk_drew ?_ | refine blk_alloc ?_ _)); refine blk_far ?_ NB187_191.1 _; (with_reducible repeat (first | refine blk_drewN ?_ _ | refine blk_drew ?_ | refine blk_alloc ?_ _)); exact BK187.1⟩, ⟨by (with_reducible repeat (first | refine blk_drewN ?_ _ | refine blk_drew ?_ | refine blk_alloc ?_ _)); refine blk_put (cs := #[.int .i64 x192000_1, .int .i64 0, .int .i64 0, .int .i64 0]) ?_ 0 _ rfl; (with_reducible repeat (first | refine blk_drewN ?_ _ | refine blk_drew ?_ | refine blk_alloc ?_ _)); exact BK191.1⟩, ⟨BL HB.1⟩⟩
     have c16b0 := beq_eq_false_iff_ne.mpr c16
     have c16b1 := bne_iff_ne.mpr c16
     have H' := Aside0.mk H
     clear H
     have p192 : 0 <= (x26_1 : Int) := OD
     have q192 : x26_1 < (cNames.length : Int) := OD
     have hx192 := fun (w_ : World) => idxC x26_1 p192 (by have := q192; simpa [cNames, eNames] using this) w_
     have p193 : 0 <= (0 : Int) := (by omega)
     have q193 : 0 < (t188.length : Int) := OD
     obtain ⟨ad193, e193, hx193_0⟩ := Kd.at_string (R_reads' HO_8.1).2.2 0 p193 q193
     cases e193
     have qi193 : (0 < t188.length) = True := eq_true (by omega)
     (try rw [show ((0 : Int)).toNat = 0 from rfl] at hx193_0)
     (try rw [Addr.add_zero'] at hx193_0)
     replace p193 := eq_true p193
     replace q193 := eq_true q193
     go_wp2
     go_roundg k1
     case measure => have := HK1.1; omega
     case rel => exact ⟨(wrap64 (x26_1 + 1)), (x192000_1), RG, H', ⟨by have := HK1.1; omega⟩, ⟨PR HO_8.1⟩, ⟨PB BK187.1⟩, ⟨PB BK191.1⟩, ⟨BL HB.1⟩⟩
   have H' := Aside0.mk H
   clear H
   obtain ⟨hv2, hv3, hv4⟩ := globE hG (BL HB.1)
   go_wp2
   go_loopg [35] k1 (fun kq v39 w' => ∃ (x39_2 : Int) (x192001_2 : Int), v39 = .int .i64 x39_2 /\ Aside0 (impl_readEntry.l1 kq t188 eNames x39_2 x192000_1 x192001_2 0 0 = some (r1, r2, r3, r4, r5)) /\ Aside0 (kq <= k1) /\ Aside0 (Kd.R Kd.string 9 w' w.heap.size (fun _ => True) (.slice Ao8 t188.length co8) t188) /\ Aside0 (w'.heap[gb187]? = some (.cells #[.int .i64 0, .int .i64 0, .int .i64 0, .int .i64 0] 66 (0, 0))) /\ Aside0 (w'.heap[gb191]? = some (.cells #[.int .i64 x192000_1, .int .i64 x192001_2, .int .i64 0, .int .i64 0] 66 (0, 0))) /\ Aside0 (Below w.heap.size w w'))
   case atStart => exact ⟨(0), (0), RG, H', ⟨Nat.le_refl _⟩, ⟨PR HO_8.1⟩, ⟨PB BK187.1⟩, ⟨PB BK191.1⟩, ⟨BL HB.1⟩⟩
   clear H'
   try clear c12b0
   obtain ⟨x39_2, x192001_2, rfl, HA, HK2, HO_8, BK187, BK191, HB⟩ := hrel
   cases gk with
   | zero => exact absurd HA.1 (by simp [impl_readEntry.l1])
   | succ k2 => ?_
   have H := HA.1
   clear HA
   simp only [impl_readEntry.l1] at H
   replace H := ifB H; rcases H with ⟨c19b0, H⟩ | ⟨c19b0, H⟩
   · replace H := ifN H; obtain ⟨c20b0, H⟩ := H
     replace H := ifN H; obtain ⟨c21b0, H⟩ := H
     replace H := ifP H; obtain ⟨c22, H⟩ := H
     have c22b0 := decide_eq_true c22
     have c22b1 : decide (1 < t188.length) = true := decide_eq_true (by omega)
     clear c22
     replace H := ifQ H; rcases H with ⟨c23, H⟩ | ⟨c23, H⟩
     · have c23b0 := beq_iff_eq.mpr c23
       have c23b1 := bne_eq_false_iff_eq.mpr c23
       clear c23
       have H' := Aside0.mk H
       clear H
       have p194 : 0 <= (x39_2 : Int) := OD
       have q194 : x39_2 < (eNames.length : Int) := OD
       have hx194 := fun (w_ : World) => idxE x39_2 p194 (by have := q194; simpa [cNames, eNames] using this) w_
       have p195 : 0 <= (1 : Int) := (by omega)
       have q195 : 1 < (t188.length : Int) := OD
       obtain ⟨ad195, e195, hx195_0⟩ := Kd.at_string (R_reads' HO_8.1).2.2 1 p195 q195
       cases e195
       (try simp only [show (1 : Int).toNat = 1 from rfl, Nat.reduceMul, Nat.reduceEqDiff, Go.Addr.add, ↓reduceIte] at hx195_0)
       have qi195 : (1 < t188.length) = True := eq_true (by omega)
       (try rw [show ((1 : Int)).toNat = 1 from rfl] at hx195_0)
       replace p195 := eq_true p195
       replace q195 := eq_true q195
       obtain ⟨hcz25_0, hcz25_1, hcz25_2, hcz25_3, hfz25_0, hfz25_1, hfz25_2, hfz25_3⟩ := cz4 BK191.1
       go_wp2
       go_roundg k2
       case measure => have := HK1.1; have := HK2.1; omega
       case rel => exact ⟨(wrap64 (x39_2 + 1)), (wrap64 (x39_2 + 1)), RG, H', ⟨by have := HK1.1; have := HK2.1; omega⟩, ⟨by (with_reducible repeat (first | apply R_alloc | apply R_drewN | apply R_drew)); exact R_mono (RQ gb191 1 (R_types HO_8.1 BK191.1 (by decide)) _) (fun _ hk => trivial)⟩, ⟨by (with_reducible repeat (first | refine blk_drewN ?_ _ | refine blk_drew ?_ | refine blk_alloc ?_ _)); refine blk_far ?_ NB187_191.1 _; (with_reducible repeat (first | refine blk_drewN ?_ _ | refine blk_drew ?_ | refine blk_alloc ?_ _)); exact BK187.1⟩, ⟨by (with_reducible repeat (first | refine blk_drewN ?_ _ | refine blk_drew ?_ | refine blk_alloc ?_ _)); refine blk_put (cs := #[.int .i64 x192000_1, .int .i64 x192001_2, .int .i64 0, .int .i64 0]) ?_ 1 _ rfl; (with_reducible repeat (first | refine blk_drewN ?_ _ | refine blk_drew ?_ | refine blk_alloc ?_ _)); exact BK191.1⟩, ⟨BL HB.1⟩⟩
     have c23b0 := beq_eq_false_iff_ne.mpr c23
     have c23b1 := bne_iff_ne.mpr c23
     have H' := Aside0.mk H
     clear H
     have p194 : 0 <= (x39_2 : Int) := OD
     have q194 : x39_2 < (eNames.length : Int) := OD
     have hx194 := fun (w_ : World) => idxE x39_2 p194 (by have := q194; simpa [cNames, eNames] using this) w_
     have p195 : 0 <= (1 : Int) := (by omega)
     have q195 : 1 < (t188.length : Int) := OD
     obtain ⟨ad195, e195, hx195_0⟩ := Kd.at_string (R_reads' HO_8.1).2.2 1 p195 q195
     cases e195
     (try simp only [show (1 : Int).toNat = 1 from rfl, Nat.reduceMul, Nat.reduceEqDiff, Go.Addr.add, ↓reduceIte] at hx195_0)
     have qi195 : (1 < t188.length) = True := eq_true (by omega)
     (try rw [show ((1 : Int)).toNat = 1 from rfl] at hx195_0)
     replace p195 := eq_true p195
     replace q195 := eq_true q195
     go_wp2
     go_roundg k2
     case measure => have := HK1.1; have := HK2.1; omega
     case rel => exact ⟨(wrap64 (x39_2 + 1)), (x192001_2), RG, H', ⟨by have := HK1.1; have := HK2.1; omega⟩, ⟨PR HO_8.1⟩, ⟨PB BK187.1⟩, ⟨PB BK191.1⟩, ⟨BL HB.1⟩⟩
   replace H := ifP H; obtain ⟨c26, H⟩ := H
   have c26b0 := decide_eq_true c26
   have c26b1 : decide (2 < t188.length) = true := decide_eq_true (by omega)
   clear c26
   replace H := bindA H; obtain ⟨⟨t197, t198⟩, A27, H⟩ := H
   dsimp only at H
   replace H := ifP H; obtain ⟨c28, H⟩ := H
   have c28b0 := decide_eq_true c28
   have c28b1 : decide (3 < t188.length) = true := decide_eq_true (by omega)
   clear c28
   replace H := bindA H; obtain ⟨⟨t200, t201⟩, A29, H⟩ := H
   dsimp only at H
   replace H := ifQ H; rcases H with ⟨c30, H⟩ | ⟨c30, H⟩
   · have c30b0 := beq_iff_eq.mpr c30
     have c30b1 := bne_eq_false_iff_eq.mpr c30
     clear c30
     replace H := ifX H; rcases H with ⟨rfl, H⟩ | ⟨rfl, H⟩
     · simp only [Option.some.injEq, Prod.mk.injEq] at H
       obtain ⟨rfl, rfl, rfl, rfl, rfl⟩ := H
       have p196 : 0 <= (2 : Int) := (by omega)
       have q196 : 2 < (t188.length : Int) := OD
       obtain ⟨ad196, e196, hx196_0⟩ := Kd.at_string (R_reads' HO_8.1).2.2 2 p196 q196
       cases e196
       (try simp only [show (2 : Int).toNat = 2 from rfl, Nat.reduceMul, Nat.reduceEqDiff, Go.Addr.add, ↓reduceIte] at hx196_0)
       have qi196 : (2 < t188.length) = True := eq_true (by omega)
       (try rw [show ((2 : Int)).toNat = 2 from rfl] at hx196_0)
       replace p196 := eq_true p196
       replace q196 := eq_true q196
       go_wp2_with (first | ((with_reducible refine gate_callee (f := 63) rfl ?_); refine goesM (N := (some 53)) #[.string (rdOf ByteArray.empty t188 2)] Tryd.func63 ?_; (with_reducible refine (impl_decimal.calls k2 (rdOf ByteArray.empty t188 2) t197 true _ A27.1).mono ?_); rintro e w' ⟨rfl, ⟨nd, rfl⟩⟩; refine ⟨_, rfl, ?_⟩; (try (rw [drewN_self wr]; generalize hq_ : World.drewN wr _ = wr; have n0_ : Aside0 (Kd.R Kd.string 9 wr w.heap.size (fun _ => True) (.slice (some ad196) t188.length co8) t188) := ⟨by rw [<- hq_]; exact (PR HO_8.1)⟩; have n1_ : Aside0 (wr.heap[gb187]? = some (.cells #[.int .i64 0, .int .i64 0, .int .i64 0, .int .i64 0] 66 (0, 0))) := ⟨by rw [<- hq_]; exact (PB BK187.1)⟩; have n2_ : Aside0 (wr.heap[gb191]? = some (.cells #[.int .i64 x192000_1, .int .i64 x192001_2, .int .i64 0, .int .i64 0] 66 (0, 0))) := ⟨by rw [<- hq_]; exact (PB BK191.1)⟩; have n3_ : Aside0 (Below w.heap.size w wr) := ⟨by rw [<- hq_]; exact (BL HB.1)⟩; clear HO_8 BK187 BK191 HB hq_; have HO_8 := n0_; have BK187 := n1_; have BK191 := n2_; have HB := n3_; clear n0_ n1_ n2_ n3_)); have p199 : 0 <= (3 : Int) := (by omega); have q199 : 3 < (t188.length : Int) := OD; obtain ⟨ad199, e199, hx199_0⟩ := Kd.at_string (R_reads' HO_8.1).2.2 3 p199 q199; obtain rfl : ad196 = ad199 := (by injection e199); (try simp only [show (3 : Int).toNat = 3 from rfl, Nat.reduceMul, Nat.reduceEqDiff, Go.Addr.add, ↓reduceIte] at hx199_0); have qi199 : (3 < t188.length) = True := eq_true (by omega); (try rw [show ((3 : Int)).toNat = 3 from rfl] at hx199_0); replace p199 := eq_true p199; replace q199 := eq_true q199) | ((with_reducible refine gate_callee (f := 63) rfl ?_); refine goesM (N := (some 60)) #[.string (rdOf ByteArray.empty t188 3)] Tryd.func63 ?_; (with_reducible refine (impl_decimal.calls k2 (rdOf ByteArray.empty t188 3) t200 t201 _ A29.1).mono ?_); rintro e w' ⟨rfl, ⟨nd, rfl⟩⟩; refine ⟨_, rfl, ?_⟩; (try (rw [drewN_self wr]; generalize hq_ : World.drewN wr _ = wr; have n0_ : Aside0 (Kd.R Kd.string 9 wr w.heap.size (fun _ => True) (.slice (some ad196) t188.length co8) t188) := ⟨by rw [<- hq_]; exact (PR HO_8.1)⟩; have n1_ : Aside0 (wr.heap[gb187]? = some (.cells #[.int .i64 0, .int .i64 0, .int .i64 0, .int .i64 0] 66 (0, 0))) := ⟨by rw [<- hq_]; exact (PB BK187.1)⟩; have n2_ : Aside0 (wr.heap[gb191]? = some (.cells #[.int .i64 x192000_1, .int .i64 x192001_2, .int .i64 0, .int .i64 0] 66 (0, 0))) := ⟨by rw [<- hq_]; exact (PB BK191.1)⟩; have n3_ : Aside0 (Below w.heap.size w wr) := ⟨by rw [<- hq_]; exact (BL HB.1)⟩; clear HO_8 BK187 BK191 HB hq_; have HO_8 := n0_; have BK187 := n1_; have BK191 := n2_; have HB := n3_; clear n0_ n1_ n2_ n3_)); have p202 : 0 <= (3 : Int) := (by omega); have q202 : 3 < (t188.length : Int) := OD; obtain ⟨ad202, e202, hx202_0⟩ := Kd.at_string (R_reads' HO_8.1).2.2 3 p202 q202; obtain rfl : ad196 = ad202 := (by injection e202); (try simp only [show (3 : Int).toNat = 3 from rfl, Nat.reduceMul, Nat.reduceEqDiff, Go.Addr.add, ↓reduceIte] at hx202_0); have qi202 : (3 < t188.length) = True := eq_true (by omega); (try rw [show ((3 : Int)).toNat = 3 from rfl] at hx202_0); replace p202 := eq_true p202; replace q202 := eq_true q202; have hnb32 := NB191_187.1; have hnc32 := NB187_191.1; obtain ⟨hcz33_0, hcz33_1, hcz33_2, hcz33_3, hfz33_0, hfz33_1, hfz33_2, hfz33_3⟩ := cz4 BK191.1; obtain ⟨hcz34_0, hcz34_1, hcz34_2, hcz34_3, hfz34_0, hfz34_1, hfz34_2, hfz34_3⟩ := cz4 BK187.1))
       refine bodyPost_ret (results_ct rfl _ _ gb187 66 #[.int .i64 x192000_1, .int .i64 x192001_2, .int .i64 t197, .int .i64 (-1)] (0, 0) _ rfl (PF1 NB187_191.1 BK187.1) Tryd.underlying66 rfl (by kernel_rfl)) rfl ?_
       exact ⟨RF, BL HB.1⟩
     simp only [Option.some.injEq, Prod.mk.injEq] at H
     obtain ⟨rfl, rfl, rfl, rfl, rfl⟩ := H
     have p196 : 0 <= (2 : Int) := (by omega)
     have q196 : 2 < (t188.length : Int) := OD
     obtain ⟨ad196, e196, hx196_0⟩ := Kd.at_string (R_reads' HO_8.1).2.2 2 p196 q196
     cases e196
     (try simp only [show (2 : Int).toNat = 2 from rfl, Nat.reduceMul, Nat.reduceEqDiff, Go.Addr.add, ↓reduceIte] at hx196_0)
     have qi196 : (2 < t188.length) = True := eq_true (by omega)
     (try rw [show ((2 : Int)).toNat = 2 from rfl] at hx196_0)
     replace p196 := eq_true p196
     replace q196 := eq_true q196
     go_wp2_with (first | ((with_reducible refine gate_callee (f := 63) rfl ?_); refine goesM (N := (some 53)) #[.string (rdOf ByteArray.empty t188 2)] Tryd.func63 ?_; (with_reducible refine (impl_decimal.calls k2 (rdOf ByteArray.empty t188 2) t197 false _ A27.1).mono ?_); rintro e w' ⟨rfl, ⟨nd, rfl⟩⟩; refine ⟨_, rfl, ?_⟩; (try (rw [drewN_self wr]; generalize hq_ : World.drewN wr _ = wr; have n0_ : Aside0 (Kd.R Kd.string 9 wr w.heap.size (fun _ => True) (.slice (some ad196) t188.length co8) t188) := ⟨by rw [<- hq_]; exact (PR HO_8.1)⟩; have n1_ : Aside0 (wr.heap[gb187]? = some (.cells #[.int .i64 0, .int .i64 0, .int .i64 0, .int .i64 0] 66 (0, 0))) := ⟨by rw [<- hq_]; exact (PB BK187.1)⟩; have n2_ : Aside0 (wr.heap[gb191]? = some (.cells #[.int .i64 x192000_1, .int .i64 x192001_2, .int .i64 0, .int .i64 0] 66 (0, 0))) := ⟨by rw [<- hq_]; exact (PB BK191.1)⟩; have n3_ : Aside0 (Below w.heap.size w wr) := ⟨by rw [<- hq_]; exact (BL HB.1)⟩; clear HO_8 BK187 BK191 HB hq_; have HO_8 := n0_; have BK187 := n1_; have BK191 := n2_; have HB := n3_; clear n0_ n1_ n2_ n3_)); have p199 : 0 <= (3 : Int) := (by omega); have q199 : 3 < (t188.length : Int) := OD; obtain ⟨ad199, e199, hx199_0⟩ := Kd.at_string (R_reads' HO_8.1).2.2 3 p199 q199; obtain rfl : ad196 = ad199 := (by injection e199); (try simp only [show (3 : Int).toNat = 3 from rfl, Nat.reduceMul, Nat.reduceEqDiff, Go.Addr.add, ↓reduceIte] at hx199_0); have qi199 : (3 < t188.length) = True := eq_true (by omega); (try rw [show ((3 : Int)).toNat = 3 from rfl] at hx199_0); replace p199 := eq_true p199; replace q199 := eq_true q199) | ((with_reducible refine gate_callee (f := 63) rfl ?_); refine goesM (N := (some 60)) #[.string (rdOf ByteArray.empty t188 3)] Tryd.func63 ?_; (with_reducible refine (impl_decimal.calls k2 (rdOf ByteArray.empty t188 3) t200 t201 _ A29.1).mono ?_); rintro e w' ⟨rfl, ⟨nd, rfl⟩⟩; refine ⟨_, rfl, ?_⟩; (try (rw [drewN_self wr]; generalize hq_ : World.drewN wr _ = wr; have n0_ : Aside0 (Kd.R Kd.string 9 wr w.heap.size (fun _ => True) (.slice (some ad196) t188.length co8) t188) := ⟨by rw [<- hq_]; exact (PR HO_8.1)⟩; have n1_ : Aside0 (wr.heap[gb187]? = some (.cells #[.int .i64 0, .int .i64 0, .int .i64 0, .int .i64 0] 66 (0, 0))) := ⟨by rw [<- hq_]; exact (PB BK187.1)⟩; have n2_ : Aside0 (wr.heap[gb191]? = some (.cells #[.int .i64 x192000_1, .int .i64 x192001_2, .int .i64 0, .int .i64 0] 66 (0, 0))) := ⟨by rw [<- hq_]; exact (PB BK191.1)⟩; have n3_ : Aside0 (Below w.heap.size w wr) := ⟨by rw [<- hq_]; exact (BL HB.1)⟩; clear HO_8 BK187 BK191 HB hq_; have HO_8 := n0_; have BK187 := n1_; have BK191 := n2_; have HB := n3_; clear n0_ n1_ n2_ n3_)); have p202 : 0 <= (3 : Int) := (by omega); have q202 : 3 < (t188.length : Int) := OD; obtain ⟨ad202, e202, hx202_0⟩ := Kd.at_string (R_reads' HO_8.1).2.2 3 p202 q202; obtain rfl : ad196 = ad202 := (by injection e202); (try simp only [show (3 : Int).toNat = 3 from rfl, Nat.reduceMul, Nat.reduceEqDiff, Go.Addr.add, ↓reduceIte] at hx202_0); have qi202 : (3 < t188.length) = True := eq_true (by omega); (try rw [show ((3 : Int)).toNat = 3 from rfl] at hx202_0); replace p202 := eq_true p202; replace q202 := eq_true q202; have hnb35 := NB191_187.1; have hnc35 := NB187_191.1; obtain ⟨hcz36_0, hcz36_1, hcz36_2, hcz36_3, hfz36_0, hfz36_1, hfz36_2, hfz36_3⟩ := cz4 BK191.1; obtain ⟨hcz37_0, hcz37_1, hcz37_2, hcz37_3, hfz37_0, hfz37_1, hfz37_2, hfz37_3⟩ := cz4 BK187.1))
     refine bodyPost_ret (results_ct rfl _ _ gb187 66 #[.int .i64 x192000_1, .int .i64 x192001_2, .int .i64 t197, .int .i64 (-1)] (0, 0) _ rfl (PF1 NB187_191.1 BK187.1) Tryd.underlying66 rfl (by kernel_rfl)) rfl ?_
     exact ⟨RF, BL HB.1⟩
   have c30b0 := beq_eq_false_iff_ne.mpr c30
   have c30b1 := bne_iff_ne.mpr c30
   replace H := ifX H; rcases H with ⟨rfl, H⟩ | ⟨rfl, H⟩
   · simp only [Option.some.injEq, Prod.mk.injEq] at H
     obtain ⟨rfl, rfl, rfl, rfl, rfl⟩ := H
     have p196 : 0 <= (2 : Int) := (by omega)
     have q196 : 2 < (t188.length : Int) := OD
     obtain ⟨ad196, e196, hx196_0⟩ := Kd.at_string (R_reads' HO_8.1).2.2 2 p196 q196
     cases e196
     (try simp only [show (2 : Int).toNat = 2 from rfl, Nat.reduceMul, Nat.reduceEqDiff, Go.Addr.add, ↓reduceIte] at hx196_0)
     have qi196 : (2 < t188.length) = True := eq_true (by omega)
     (try rw [show ((2 : Int)).toNat = 2 from rfl] at hx196_0)
     replace p196 := eq_true p196
     replace q196 := eq_true q196
     go_wp2_with (first | ((with_reducible refine gate_callee (f := 63) rfl ?_); refine goesM (N := (some 53)) #[.string (rdOf ByteArray.empty t188 2)] Tryd.func63 ?_; (with_reducible refine (impl_decimal.calls k2 (rdOf ByteArray.empty t188 2) t197 true _ A27.1).mono ?_); rintro e w' ⟨rfl, ⟨nd, rfl⟩⟩; refine ⟨_, rfl, ?_⟩; (try (rw [drewN_self wr]; generalize hq_ : World.drewN wr _ = wr; have n0_ : Aside0 (Kd.R Kd.string 9 wr w.heap.size (fun _ => True) (.slice (some ad196) t188.length co8) t188) := ⟨by rw [<- hq_]; exact (PR HO_8.1)⟩; have n1_ : Aside0 (wr.heap[gb187]? = some (.cells #[.int .i64 0, .int .i64 0, .int .i64 0, .int .i64 0] 66 (0, 0))) := ⟨by rw [<- hq_]; exact (PB BK187.1)⟩; have n2_ : Aside0 (wr.heap[gb191]? = some (.cells #[.int .i64 x192000_1, .int .i64 x192001_2, .int .i64 0, .int .i64 0] 66 (0, 0))) := ⟨by rw [<- hq_]; exact (PB BK191.1)⟩; have n3_ : Aside0 (Below w.heap.size w wr) := ⟨by rw [<- hq_]; exact (BL HB.1)⟩; clear HO_8 BK187 BK191 HB hq_; have HO_8 := n0_; have BK187 := n1_; have BK191 := n2_; have HB := n3_; clear n0_ n1_ n2_ n3_)); have p199 : 0 <= (3 : Int) := (by omega); have q199 : 3 < (t188.length : Int) := OD; obtain ⟨ad199, e199, hx199_0⟩ := Kd.at_string (R_reads' HO_8.1).2.2 3 p199 q199; obtain rfl : ad196 = ad199 := (by injection e199); (try simp only [show (3 : Int).toNat = 3 from rfl, Nat.reduceMul, Nat.reduceEqDiff, Go.Addr.add, ↓reduceIte] at hx199_0); have qi199 : (3 < t188.length) = True := eq_true (by omega); (try rw [show ((3 : Int)).toNat = 3 from rfl] at hx199_0); replace p199 := eq_true p199; replace q199 := eq_true q199) | ((with_reducible refine gate_callee (f := 63) rfl ?_); refine goesM (N := (some 60)) #[.string (rdOf ByteArray.empty t188 3)] Tryd.func63 ?_; (with_reducible refine (impl_decimal.calls k2 (rdOf ByteArray.empty t188 3) t200 t201 _ A29.1).mono ?_); rintro e w' ⟨rfl, ⟨nd, rfl⟩⟩; refine ⟨_, rfl, ?_⟩; (try (rw [drewN_self wr]; generalize hq_ : World.drewN wr _ = wr; have n0_ : Aside0 (Kd.R Kd.string 9 wr w.heap.size (fun _ => True) (.slice (some ad196) t188.length co8) t188) := ⟨by rw [<- hq_]; exact (PR HO_8.1)⟩; have n1_ : Aside0 (wr.heap[gb187]? = some (.cells #[.int .i64 0, .int .i64 0, .int .i64 0, .int .i64 0] 66 (0, 0))) := ⟨by rw [<- hq_]; exact (PB BK187.1)⟩; have n2_ : Aside0 (wr.heap[gb191]? = some (.cells #[.int .i64 x192000_1, .int .i64 x192001_2, .int .i64 0, .int .i64 0] 66 (0, 0))) := ⟨by rw [<- hq_]; exact (PB BK191.1)⟩; have n3_ : Aside0 (Below w.heap.size w wr) := ⟨by rw [<- hq_]; exact (BL HB.1)⟩; clear HO_8 BK187 BK191 HB hq_; have HO_8 := n0_; have BK187 := n1_; have BK191 := n2_; have HB := n3_; clear n0_ n1_ n2_ n3_)); have p202 : 0 <= (3 : Int) := (by omega); have q202 : 3 < (t188.length : Int) := OD; obtain ⟨ad202, e202, hx202_0⟩ := Kd.at_string (R_reads' HO_8.1).2.2 3 p202 q202; obtain rfl : ad196 = ad202 := (by injection e202); (try simp only [show (3 : Int).toNat = 3 from rfl, Nat.reduceMul, Nat.reduceEqDiff, Go.Addr.add, ↓reduceIte] at hx202_0); have qi202 : (3 < t188.length) = True := eq_true (by omega); (try rw [show ((3 : Int)).toNat = 3 from rfl] at hx202_0); replace p202 := eq_true p202; replace q202 := eq_true q202; have hnb39 := NB191_187.1; have hnc39 := NB187_191.1; obtain ⟨hcz40_0, hcz40_1, hcz40_2, hcz40_3, hfz40_0, hfz40_1, hfz40_2, hfz40_3⟩ := cz4 BK191.1; obtain ⟨hcz41_0, hcz41_1, hcz41_2, hcz41_3, hfz41_0, hfz41_1, hfz41_2, hfz41_3⟩ := cz4 BK187.1))
     refine bodyPost_ret (results_ct rfl _ _ gb187 66 #[.int .i64 x192000_1, .int .i64 x192001_2, .int .i64 t197, .int .i64 t200] (0, 0) _ rfl (PF1 NB187_191.1 BK187.1) Tryd.underlying66 rfl (by kernel_rfl)) rfl ?_
     exact ⟨RF, BL HB.1⟩
   simp only [Option.some.injEq, Prod.mk.injEq] at H
   obtain ⟨rfl, rfl, rfl, rfl, rfl⟩ := H
   have p196 : 0 <= (2 : Int) := (by omega)
   have q196 : 2 < (t188.length : Int) := OD
   obtain ⟨ad196, e196, hx196_0⟩ := Kd.at_string (R_reads' HO_8.1).2.2 2 p196 q196
   cases e196
   (try simp only [show (2 : Int).toNat = 2 from rfl, Nat.reduceMul, Nat.reduceEqDiff, Go.Addr.add, ↓reduceIte] at hx196_0)
   have qi196 : (2 < t188.length) = True := eq_true (by omega)
   (try rw [show ((2 : Int)).toNat = 2 from rfl] at hx196_0)
   replace p196 := eq_true p196
   replace q196 := eq_true q196
   go_wp2_with (first | ((with_reducible refine gate_callee (f := 63) rfl ?_); refine goesM (N := (some 53)) #[.string (rdOf ByteArray.empty t188 2)] Tryd.func63 ?_; (with_reducible refine (impl_decimal.calls k2 (rdOf ByteArray.empty t188 2) t197 false _ A27.1).mono ?_); rintro e w' ⟨rfl, ⟨nd, rfl⟩⟩; refine ⟨_, rfl, ?_⟩; (try (rw [drewN_self wr]; generalize hq_ : World.drewN wr _ = wr; have n0_ : Aside0 (Kd.R Kd.string 9 wr w.heap.size (fun _ => True) (.slice (some ad196) t188.length co8) t188) := ⟨by rw [<- hq_]; exact (PR HO_8.1)⟩; have n1_ : Aside0 (wr.heap[gb187]? = some (.cells #[.int .i64 0, .int .i64 0, .int .i64 0, .int .i64 0] 66 (0, 0))) := ⟨by rw [<- hq_]; exact (PB BK187.1)⟩; have n2_ : Aside0 (wr.heap[gb191]? = some (.cells #[.int .i64 x192000_1, .int .i64 x192001_2, .int .i64 0, .int .i64 0] 66 (0, 0))) := ⟨by rw [<- hq_]; exact (PB BK191.1)⟩; have n3_ : Aside0 (Below w.heap.size w wr) := ⟨by rw [<- hq_]; exact (BL HB.1)⟩; clear HO_8 BK187 BK191 HB hq_; have HO_8 := n0_; have BK187 := n1_; have BK191 := n2_; have HB := n3_; clear n0_ n1_ n2_ n3_)); have p199 : 0 <= (3 : Int) := (by omega); have q199 : 3 < (t188.length : Int) := OD; obtain ⟨ad199, e199, hx199_0⟩ := Kd.at_string (R_reads' HO_8.1).2.2 3 p199 q199; obtain rfl : ad196 = ad199 := (by injection e199); (try simp only [show (3 : Int).toNat = 3 from rfl, Nat.reduceMul, Nat.reduceEqDiff, Go.Addr.add, ↓reduceIte] at hx199_0); have qi199 : (3 < t188.length) = True := eq_true (by omega); (try rw [show ((3 : Int)).toNat = 3 from rfl] at hx199_0); replace p199 := eq_true p199; replace q199 := eq_true q199) | ((with_reducible refine gate_callee (f := 63) rfl ?_); refine goesM (N := (some 60)) #[.string (rdOf ByteArray.empty t188 3)] Tryd.func63 ?_; (with_reducible refine (impl_decimal.calls k2 (rdOf ByteArray.empty t188 3) t200 t201 _ A29.1).mono ?_); rintro e w' ⟨rfl, ⟨nd, rfl⟩⟩; refine ⟨_, rfl, ?_⟩; (try (rw [drewN_self wr]; generalize hq_ : World.drewN wr _ = wr; have n0_ : Aside0 (Kd.R Kd.string 9 wr w.heap.size (fun _ => True) (.slice (some ad196) t188.length co8) t188) := ⟨by rw [<- hq_]; exact (PR HO_8.1)⟩; have n1_ : Aside0 (wr.heap[gb187]? = some (.cells #[.int .i64 0, .int .i64 0, .int .i64 0, .int .i64 0] 66 (0, 0))) := ⟨by rw [<- hq_]; exact (PB BK187.1)⟩; have n2_ : Aside0 (wr.heap[gb191]? = some (.cells #[.int .i64 x192000_1, .int .i64 x192001_2, .int .i64 0, .int .i64 0] 66 (0, 0))) := ⟨by rw [<- hq_]; exact (PB BK191.1)⟩; have n3_ : Aside0 (Below w.heap.size w wr) := ⟨by rw [<- hq_]; exact (BL HB.1)⟩; clear HO_8 BK187 BK191 HB hq_; have HO_8 := n0_; have BK187 := n1_; have BK191 := n2_; have HB := n3_; clear n0_ n1_ n2_ n3_)); have p202 : 0 <= (3 : Int) := (by omega); have q202 : 3 < (t188.length : Int) := OD; obtain ⟨ad202, e202, hx202_0⟩ := Kd.at_string (R_reads' HO_8.1).2.2 3 p202 q202; obtain rfl : ad196 = ad202 := (by injection e202); (try simp only [show (3 : Int).toNat = 3 from rfl, Nat.reduceMul, Nat.reduceEqDiff, Go.Addr.add, ↓reduceIte] at hx202_0); have qi202 : (3 < t188.length) = True := eq_true (by omega); (try rw [show ((3 : Int)).toNat = 3 from rfl] at hx202_0); replace p202 := eq_true p202; replace q202 := eq_true q202; have hnb42 := NB191_187.1; have hnc42 := NB187_191.1; obtain ⟨hcz43_0, hcz43_1, hcz43_2, hcz43_3, hfz43_0, hfz43_1, hfz43_2, hfz43_3⟩ := cz4 BK191.1; obtain ⟨hcz44_0, hcz44_1, hcz44_2, hcz44_3, hfz44_0, hfz44_1, hfz44_2, hfz44_3⟩ := cz4 BK187.1))
   refine bodyPost_ret (results_ct rfl _ _ gb187 66 #[.int .i64 x192000_1, .int .i64 x192001_2, .int .i64 t197, .int .i64 t200] (0, 0) _ rfl (PF1 NB187_191.1 BK187.1) Tryd.underlying66 rfl (by kernel_rfl)) rfl ?_
   exact ⟨RF, BL HB.1⟩
 have c5b0 := beq_eq_false_iff_ne.mpr c5
 have c5b1 := bne_iff_ne.mpr c5
 simp only [Option.some.injEq, Prod.mk.injEq] at H
 obtain ⟨rfl, rfl, rfl, rfl, rfl⟩ := H
 go_enter Tryd.func45, Tryd.ntmps45
 go_wp2_with (first | ((with_reducible refine gate_dst (N := 2) rfl ?_); refine boxE (cs := #[.int .i64 0, .int .i64 0, .int .i64 0, .int .i64 0]) (t := 66) ?_; intro gb187 hg w45 hbox hb; refine E4b HB.1 hg hbox hb ?_; clear HB; intro HB BK187 GW187 GE187; clear hb hbox hg) | ((with_reducible refine gate_callee (f := 62) rfl ?_); refine goesM (N := (some 15)) #[.string a0, .string (⟨#[32]⟩ : ByteArray)] Tryd.func62 ?_; (with_reducible refine (strings_Split.calls a0 (⟨#[32]⟩ : ByteArray) t188 _ (hG.below (BL HB.1)) A4.1).mono ?_); rintro e w46 ⟨v189, rfl, ho0, hb⟩; refine ⟨_, rfl, ?_⟩; refine E3 (R_lower ho0 (bZ HB.1)) (bB BK187.1 hb) (bS HB.1 hb) ?_; clear BK187 HB; intro HO190 BK187 HB; (try clear hb); (try clear ho0); obtain ⟨Ao47, co47, eo47⟩ := R_slice HO190.1; subst eo47; obtain ⟨hcz48_0, hcz48_1, hcz48_2, hcz48_3, hfz48_0, hfz48_1, hfz48_2, hfz48_3⟩ := cz4 BK187.1))
 refine bodyPost_ret (results_ct rfl _ _ gb187 66 #[.int .i64 0, .int .i64 0, .int .i64 0, .int .i64 0] (0, 0) _ rfl (PF0 BK187.1) Tryd.underlying66 rfl (by kernel_rfl)) rfl ?_
 exact ⟨RF, BL HB.1⟩

/-! ### impl_ParseLog: function 18 -/
open Kd
mutual
def impl_ParseLog.j0 : Nat -> List ByteArray -> Bool -> Option ((List (S66)) × Bool)
 | 0, _, _ => none
 | k + 1, x4, x22 => if x22 = true then (some (([] : List (S66)), false)) else (impl_ParseLog.l0 k (([] : List (S66))) x4 (x4.length : Int) 0)
def impl_ParseLog.l0 : Nat -> List (S66) -> List ByteArray -> Int -> Int -> Option ((List (S66)) × Bool)
 | 0, _, _, _, _ => none
 | k + 1, x6, x24, x25, x26 => if x26 < x25 then (if 0 <= x26 then (if x26 < (x24.length : Int) then ((impl_readEntry.f k (rdOf ByteArray.empty x24 x26)).bind fun bt165 => (if bt165.2.2.2.2 = true then (if x6.length < 4398046511104 then (impl_ParseLog.l0 k (x6 ++ [(⟨bt165.1, (⟨bt165.2.1, bt165.2.2.1, bt165.2.2.2.1⟩ : S64)⟩ : S66)]) x24 x25 (wrap64 (x26 + 1))) else (none)) else (some (([] : List (S66)), false)))) else (none)) else (none)) else ((impl_IsLog.f k x6).bind fun t174 => (if t174 = true then (some (x6, true)) else (some (([] : List (S66)), false))))
end
def impl_ParseLog.f (k : Nat) (a0 : ByteArray) : Option ((List (S66)) × Bool) := (impl_linesOf.f a0).bind fun bt157 => (if bt157.2 = true then (impl_ParseLog.j0 k bt157.1 (decide ((bt157.1.length : Int) > 60))) else (impl_ParseLog.j0 k bt157.1 true))
theorem impl_ParseLog.mono_l : ∀ k, (∀ y0 y1, LeO (impl_ParseLog.j0 k y0 y1) (impl_ParseLog.j0 (k + 1) y0 y1)) /\ (∀ y0 y1 y2 y3, LeO (impl_ParseLog.l0 k y0 y1 y2 y3) (impl_ParseLog.l0 (k + 1) y0 y1 y2 y3))
 | 0 => by refine ⟨?_, ?_⟩ <;> (intros; intro r h; first | (simp [impl_ParseLog.j0] at h; done) | (simp [impl_ParseLog.l0] at h; done))
 | k + 1 => by
  obtain ⟨ih0, ih1⟩ := impl_ParseLog.mono_l k
  refine ⟨?_, ?_⟩ <;> (
   intros
   first | unfold impl_ParseLog.j0 | unfold impl_ParseLog.l0
   exact LM4 ih0 ih1 impl_IsLog.mono impl_readEntry.mono)
theorem impl_ParseLog.mono : ∀ a0 k, LeO (impl_ParseLog.f k a0) (impl_ParseLog.f (k + 1) a0) := by
 intro a0 k
 obtain ⟨ih0, ih1⟩ := impl_ParseLog.mono_l k
 unfold impl_ParseLog.f
 exact LM4 ih0 ih1 impl_IsLog.mono impl_readEntry.mono
theorem impl_ParseLog.calls (k : Nat) (a0 : ByteArray) (r1 : List (S66)) (r2 : Bool) (w : World) (hG : Globs w) (h : impl_ParseLog.f k a0 = some (r1, r2)) :
 Calls Tryd.prog 18 #[.string a0] w fun e w' => ∃ v0_ : Value, e = .returned (.tuple #[v0_, .bool r2]) /\ Kd.R k66 66 w' w.heap.size (fun _ => True) v0_ r1 /\ Below w.heap.size w w' := by
 have hu66 := Tryd.underlying66
 have HB := Aside0.mk (Below.refl w.heap.size w)
 have H := h
 clear h
 unfold impl_ParseLog.f at H
 replace H := bindA H; obtain ⟨⟨t157, t158⟩, A2, H⟩ := H
 dsimp only at H
 have HC3 := Aside0.mk H
 clear H
 go_enter Tryd.func18, Tryd.ntmps18
 go_upto_region 2 with (first | ((with_reducible refine gate_callee (f := 44) rfl ?_); refine goesM (N := (some 13)) #[.string a0] Tryd.func44 ?_; (with_reducible refine (impl_linesOf.calls a0 t157 t158 _ (hG.below (BL HB.1)) A2.1).mono ?_); rintro e w4 ⟨v159, rfl, ho0, hb⟩; refine ⟨_, rfl, ?_⟩; refine E2 (R_lower ho0 (bZ HB.1)) (bS HB.1 hb) ?_; clear HB; intro HO160 HB; (try clear hb); (try clear ho0)))
 (try simp only [Act.put, List.setIfInBounds_toArray, List.set_cons_zero, List.set_cons_succ])
 go_cut [22] (fun v22 wc => ∃ (kq : Nat) (x22_2 : Bool), v22 = .bool x22_2 /\ Aside0 (impl_ParseLog.j0 kq t157 x22_2 = some (r1, r2)) /\ Aside0 (kq <= k) /\ Aside0 (Kd.R Kd.string 9 wc w.heap.size (fun _ => True) v159 t157) /\ Aside0 (Below w.heap.size w wc))
 case first =>
  have H := HC3.1
  clear HC3
  replace H := ifX H; rcases H with ⟨rfl, H⟩ | ⟨rfl, H⟩
  · have H' := Aside0.mk H
    clear H
    obtain ⟨Ao6, co6, eo6⟩ := R_slice HO160.1
    subst eo6
    go_wp2
    go_meet
    case rel => exact ⟨_, (decide ((t157.length : Int) > 60)), RG, H', ⟨by first | omega | exact Nat.le_refl _⟩, ⟨PR HO160.1⟩, ⟨BL HB.1⟩⟩
  have H' := Aside0.mk H
  clear H
  go_wp2
  go_meet
  case rel => exact ⟨_, (true), RG, H', ⟨by first | omega | exact Nat.le_refl _⟩, ⟨PR HO160.1⟩, ⟨BL HB.1⟩⟩
 clear HC3
 obtain ⟨kq, x22_2, rfl, HA, HJ2, HO_4, HB⟩ := hcut
 cases kq with
 | zero => exact absurd HA.1 (by simp [impl_ParseLog.j0])
 | succ kj2 => ?_
 have H := HA.1
 clear HA
 simp only [impl_ParseLog.j0] at H
 replace H := ifX H; rcases H with ⟨rfl, H⟩ | ⟨rfl, H⟩
 · simp only [Option.some.injEq, Prod.mk.injEq] at H
   obtain ⟨rfl, rfl⟩ := H
   go_wp2
   go_ret2
   exact ⟨_, RF, by first | exact R_nil _ _ _ _ _ | exact N_nil _ _ _ _ _ | exact V_nil _ _ _ _ _ | exact Q_nil _ _ _ _ _ | exact S_nil _ _ _ _ _, BL HB.1⟩
 generalize hy161 : ((([] : List (S66))) : List (S66)) = y161 at H
 have Ny161 := Aside0.mk hy161.symm; clear hy161
 have H' := Aside0.mk H
 clear H
 go_wp2_with (first | ((with_reducible refine gate_dst (N := 23) rfl ?_); (try (refine gate_guard (by rfl) ?_; dsimp only)); refine R_lit k66 _ 66 ?hg (N := 23) ?hd (xs := ([] : List (S66))) (inner := []) (ok := fun _ => True) (okp := fun _ => True) ?hr ?hp (fun _ hk => hk) trivial (Below.refl _ _) (Nat.le_refl _) (by simp) ?_; (case hd => rfl); (case hg => rfl); (case hr => first | (go_simp; done) | (go_simp; rfl)); (case hp => exact (Reps.none _ _)); intro v162 w8 ho9 hb hg_ hnew_; clear hg_ hnew_; (first | rw [<- Ny161.1] at ho9 | (simp only [Int.reduceToNat] at ho9; rw [<- Ny161.1] at ho9)); refine E3 (rB HO_4.1 hb) (R_lower ho9 (bZ HB.1)) (bS HB.1 hb) ?_; clear HO_4 HB; intro HO_4 HO163 HB; clear hb ho9; obtain ⟨Ao10, co10, eo10⟩ := R_slice HO_4.1; subst eo10))
 go_loopg [6, 26] kj2 (fun kq v6 v26 w' => ∃ (x6_2 : List (S66)) (x26_2 : Int), v26 = .int .i64 x26_2 /\ Aside0 (impl_ParseLog.l0 kq x6_2 t157 (t157.length : Int) x26_2 = some (r1, r2)) /\ Aside0 (kq <= kj2) /\ Aside0 (Kd.R k66 66 w' w.heap.size (fun _ => True) v6 x6_2) /\ Aside0 (Kd.R Kd.string 9 w' w.heap.size (fun _ => True) (.slice Ao10 t157.length co10) t157) /\ Aside0 (Below w.heap.size w w'))
 case atStart => exact ⟨(y161), (0), RG, H', ⟨Nat.le_refl _⟩, ⟨PR HO163.1⟩, ⟨PR HO_4.1⟩, ⟨BL HB.1⟩⟩
 clear H'
 obtain ⟨x6_2, x26_2, rfl, HA, HK2, HO_6, HO_24, HB⟩ := hrel
 cases gk with
 | zero => exact absurd HA.1 (by simp [impl_ParseLog.l0])
 | succ k2 => ?_
 have H := HA.1
 clear HA
 simp only [impl_ParseLog.l0] at H
 replace H := ifB H; rcases H with ⟨c11b0, H⟩ | ⟨c11b0, H⟩
 · replace H := ifN H; obtain ⟨c12b0, H⟩ := H
   replace H := ifN H; obtain ⟨c13b0, H⟩ := H
   replace H := bindA H; obtain ⟨⟨t165, t166, t167, t168, t169⟩, A14, H⟩ := H
   dsimp only at H
   replace H := ifX H; rcases H with ⟨rfl, H⟩ | ⟨rfl, H⟩
   · replace H := ifP H; obtain ⟨c16, H⟩ := H
     have LMc16 := Aside0.mk c16
     clear c16
     generalize hy171 : ((x6_2 ++ [(⟨t165, (⟨t166, t167, t168⟩ : S64)⟩ : S66)]) : List (S66)) = y171 at H
     have Ny171 := Aside0.mk hy171.symm; clear hy171
     have H' := Aside0.mk H
     clear H
     have p164 : 0 <= (x26_2 : Int) := OD
     have q164 : x26_2 < (t157.length : Int) := OD
     obtain ⟨ad164, e164, hx164_0⟩ := Kd.at_string (R_reads' HO_24.1).2.2 x26_2 p164 q164
     cases e164
     replace p164 := eq_true p164
     replace q164 := eq_true q164
     go_wp2_with (first | ((with_reducible refine gate_callee (f := 45) rfl ?_); refine goesM (N := (some 32)) #[.string (rdOf ByteArray.empty t157 x26_2)] Tryd.func45 ?_; (with_reducible refine (impl_readEntry.calls k2 (rdOf ByteArray.empty t157 x26_2) t165 t166 t167 t168 true _ (hG.below (BL HB.1)) A14.1).mono ?_); rintro e w17 ⟨rfl, hb⟩; refine ⟨_, rfl, ?_⟩; refine E3 (rB HO_6.1 hb) (rB HO_24.1 hb) (bS HB.1 hb) ?_; clear HO_6 HO_24 HB; intro HO_6 HO_24 HB; (try clear hb)) | ((with_reducible refine gate_dst (N := 9) rfl ?_); (try (refine gate_guard (by rfl) ?_; dsimp only)); refine boxE (cs := #[.int .i64 0, .int .i64 0, .int .i64 0, .int .i64 0]) (t := 66) ?_; intro gb170 hg w18 hbox hb; refine E6 (R_below (R_elderB (PR HO_6.1) gb170 (Nat.le_of_eq hg.symm)) hb) (rB HO_24.1 hb) (bS HB.1 hb) (hbox) (gX HB.1 hg) (gX HB.1 hg) ?_; clear HO_6 HO_24 HB; intro HO_6 HO_24 HB BK170 GW170 GE170; clear hb hbox hg; obtain ⟨hcz19_0, hcz19_1, hcz19_2, hcz19_3, hfz19_0, hfz19_1, hfz19_2, hfz19_3⟩ := cz4 BK170.1) | ((with_reducible refine gate_builtin (b := .append) (xs := #[.tmp 37, .tmp 39]) rfl ?_); (try (refine gate_guard (by rfl) ?_; dsimp only)); at_builtin; refine R_append k66 (w0 := w) w.heap.size rfl (.tmp 37) (.tmp 39) 35 66 (.agg #[(.int .i64 0), (.int .i64 0), (.int .i64 0), (.int .i64 0)]) 32 rfl Tryd.underlying35 info66 rfl (by decide) (by omega) u6 x6_2 (⟨t165, (⟨t166, t167, t168⟩ : S64)⟩ : S66) [.int .i64 t165, .int .i64 t166, .int .i64 t167, .int .i64 t168] (fun k_ => k_ ≠ gb170) (fun _ => False) rfl (by first | (go_simp; done) | (go_simp; rfl)) ?aP (fun _ hk => hk.elim) ?aF ?aO ?aB ?aS ?aL ?_; (case aP => exact k66_mkM _ _ _ (⟨t165, (⟨t166, t167, t168⟩ : S64)⟩ : S66)); (case aB => exact (BL HB.1)); (case aF => exact (fun k_ hk => Kd.freshB (g := gb170) (o := .cells #[.int .i64 t165, .int .i64 t166, .int .i64 t167, .int .i64 t168] 66 (0, 0)) (PF0 BK170.1) k_ hk)); (case aO => exact (by (with_reducible repeat (first | apply R_alloc | apply R_drewN | apply R_drew)); exact R_mono (RQ gb170 3 (RQ gb170 2 (RQ gb170 1 (RQ gb170 0 (R_mono HO_6.1 (fun k_ hk => (⟨hk, hk.2⟩ : _ /\ k_ ≠ gb170))) _) _) _) _) (fun _ hk => hk.1.2))); (case aS => exact (bZ HB.1)); (case aL => have := LMc16.1; omega); intro v172 w20 ho hb hg hat; rw [<- Ny171.1] at ho; refine E4 (R_over' (by (with_reducible repeat (first | apply R_alloc | apply R_drewN | apply R_drew)); exact (R_mono (RQ gb170 3 (RQ gb170 2 (RQ gb170 1 (RQ gb170 0 (R_types HO_24.1 BK170.1 (by decide)) _) _) _) _) (fun _ h_ => h_.1))) (R_typed (by (with_reducible repeat (first | apply R_alloc | apply R_drewN | apply R_drew)); exact (R_mono (RQ gb170 3 (RQ gb170 2 (RQ gb170 1 (RQ gb170 0 (R_mono HO_6.1 (fun k_ hk => (⟨hk, hk.2⟩ : _ /\ k_ ≠ gb170))) _) _) _) _) (fun _ h_ => h_.1)))) (by decide) hg) (blk_grown (g := gb170) (o := .cells #[.int .i64 t165, .int .i64 t166, .int .i64 t167, .int .i64 t168] 66 (0, 0)) (PF0 BK170.1) hg (R_away HO_6.1 (fun _ hk => hk.2))) (hb) (ho) ?_; clear HO_24 BK170 HB HO_6; intro HO_24 BK170 HB HO173; clear ho hb hg hat))
     go_roundg k2
     case measure => have := HJ2.1; have := HK2.1; omega
     case rel => exact ⟨(y171), (wrap64 (x26_2 + 1)), RG, H', ⟨by have := HJ2.1; have := HK2.1; omega⟩, ⟨RPE (R_mono HO173.1 (fun _ hk => trivial))⟩, ⟨PR HO_24.1⟩, ⟨BL HB.1⟩⟩
   simp only [Option.some.injEq, Prod.mk.injEq] at H
   obtain ⟨rfl, rfl⟩ := H
   have p164 : 0 <= (x26_2 : Int) := OD
   have q164 : x26_2 < (t157.length : Int) := OD
   obtain ⟨ad164, e164, hx164_0⟩ := Kd.at_string (R_reads' HO_24.1).2.2 x26_2 p164 q164
   cases e164
   replace p164 := eq_true p164
   replace q164 := eq_true q164
   go_wp2_with (first | ((with_reducible refine gate_callee (f := 45) rfl ?_); refine goesM (N := (some 32)) #[.string (rdOf ByteArray.empty t157 x26_2)] Tryd.func45 ?_; (with_reducible refine (impl_readEntry.calls k2 (rdOf ByteArray.empty t157 x26_2) t165 t166 t167 t168 false _ (hG.below (BL HB.1)) A14.1).mono ?_); rintro e w21 ⟨rfl, hb⟩; refine ⟨_, rfl, ?_⟩; refine E3 (rB HO_6.1 hb) (rB HO_24.1 hb) (bS HB.1 hb) ?_; clear HO_6 HO_24 HB; intro HO_6 HO_24 HB; (try clear hb)) | ((with_reducible refine gate_dst (N := 9) rfl ?_); (try (refine gate_guard (by rfl) ?_; dsimp only)); refine boxE (cs := #[.int .i64 0, .int .i64 0, .int .i64 0, .int .i64 0]) (t := 66) ?_; intro gb170 hg w22 hbox hb; refine E6 (R_below (R_elderB (PR HO_6.1) gb170 (Nat.le_of_eq hg.symm)) hb) (rB HO_24.1 hb) (bS HB.1 hb) (hbox) (gX HB.1 hg) (gX HB.1 hg) ?_; clear HO_6 HO_24 HB; intro HO_6 HO_24 HB BK170 GW170 GE170; clear hb hbox hg; obtain ⟨hcz23_0, hcz23_1, hcz23_2, hcz23_3, hfz23_0, hfz23_1, hfz23_2, hfz23_3⟩ := cz4 BK170.1))
   go_ret2
   exact ⟨_, RF, by first | exact R_nil _ _ _ _ _ | exact N_nil _ _ _ _ _ | exact V_nil _ _ _ _ _ | exact Q_nil _ _ _ _ _ | exact S_nil _ _ _ _ _, BL HB.1⟩
 replace H := bindA H; obtain ⟨t174, A24, H⟩ := H
 replace H := ifX H; rcases H with ⟨rfl, H⟩ | ⟨rfl, H⟩
 · simp only [Option.some.injEq, Prod.mk.injEq] at H
   obtain ⟨rfl, rfl⟩ := H
   obtain ⟨Ao26, co26, eo26⟩ := R_slice HO_6.1
   subst eo26
   go_wp2_with (first | ((with_reducible refine gate_callee (f := 37) rfl ?_); refine goesM (N := (some 43)) #[.slice Ao26 x6_2.length co26] Tryd.func37 ?_; (with_reducible refine (impl_IsLog.calls k2 _ _ x6_2 true _ ?side1 ?side2 A24.1).mono ?_); (case side1 => exact CB (R_reads' HO_6.1).2.2); (case side2 => exact (R_reads' HO_6.1).2.1); rintro e w27 ⟨rfl, hb⟩; refine ⟨_, rfl, ?_⟩; refine E3 (rB HO_6.1 hb) (rB HO_24.1 hb) (bS HB.1 hb) ?_; clear HO_6 HO_24 HB; intro HO_6 HO_24 HB; (try clear hb)))
   go_ret2
   exact ⟨_, RF, RPE (HO_6.1), BL HB.1⟩
 simp only [Option.some.injEq, Prod.mk.injEq] at H
 obtain ⟨rfl, rfl⟩ := H
 obtain ⟨Ao28, co28, eo28⟩ := R_slice HO_6.1
 subst eo28
 go_wp2_with (first | ((with_reducible refine gate_callee (f := 37) rfl ?_); refine goesM (N := (some 43)) #[.slice Ao28 x6_2.length co28] Tryd.func37 ?_; (with_reducible refine (impl_IsLog.calls k2 _ _ x6_2 false _ ?side1 ?side2 A24.1).mono ?_); (case side1 => exact CB (R_reads' HO_6.1).2.2); (case side2 => exact (R_reads' HO_6.1).2.1); rintro e w29 ⟨rfl, hb⟩; refine ⟨_, rfl, ?_⟩; refine E3 (rB HO_6.1 hb) (rB HO_24.1 hb) (bS HB.1 hb) ?_; clear HO_6 HO_24 HB; intro HO_6 HO_24 HB; (try clear hb)))
 go_ret2
 exact ⟨_, RF, by first | exact R_nil _ _ _ _ _ | exact N_nil _ _ _ _ _ | exact V_nil _ _ _ _ _ | exact Q_nil _ _ _ _ _ | exact S_nil _ _ _ _ _, BL HB.1⟩
/-! ### laws_markLogEntryS: function 19 -/
open Kd
def laws_markLogEntryS.l0 : Nat -> List (S66) -> Int -> Int -> Option (Int × (List (S66)))
 | 0, _, _, _ => none
 | k + 1, x0, x1, x5 => if x5 < (x0.length : Int) then (if 0 <= x5 then ((some (x0.set (x5 : Int).toNat (⟨x1, (⟨(rd_T66 x0 x5).f1.f0, (rd_T66 x0 x5).f1.f1, (rd_T66 x0 x5).f1.f2⟩ : S64)⟩ : S66) : List (S66))).bind fun y175 => ((some (y175.set (x5 : Int).toNat (⟨(rd_T66 y175 x5).f0, (⟨wrap64 (x1 + 1), (rd_T66 y175 x5).f1.f1, (rd_T66 y175 x5).f1.f2⟩ : S64)⟩ : S66) : List (S66))).bind fun y176 => ((some (y176.set (x5 : Int).toNat (⟨(rd_T66 y176 x5).f0, (⟨(rd_T66 y176 x5).f1.f0, wrap64 ((wrap64 (x1 + 1)) + 1), (rd_T66 y176 x5).f1.f2⟩ : S64)⟩ : S66) : List (S66))).bind fun y177 => (laws_markLogEntryS.l0 k (y177.set (x5 : Int).toNat (⟨(rd_T66 y177 x5).f0, (⟨(rd_T66 y177 x5).f1.f0, (rd_T66 y177 x5).f1.f1, wrap64 ((wrap64 ((wrap64 (x1 + 1)) + 1)) + 1)⟩ : S64)⟩ : S66)) (wrap64 ((wrap64 ((wrap64 ((wrap64 (x1 + 1)) + 1)) + 1)) + 1)) (wrap64 (x5 + 1)))))) else (none)) else (some (x1, x0))
def laws_markLogEntryS.f (k : Nat) (l0 : List (S66)) (a1 : Int) : Option (Int × (List (S66))) := laws_markLogEntryS.l0 k l0 a1 0
theorem laws_markLogEntryS.mono_l : ∀ k, (∀ y0 y1 y2, LeO (laws_markLogEntryS.l0 k y0 y1 y2) (laws_markLogEntryS.l0 (k + 1) y0 y1 y2))
 | 0 => fun _ _ _ r h => by simp [laws_markLogEntryS.l0] at h
 | k + 1 => by
  have ih0 := laws_markLogEntryS.mono_l k
  intros
  first | unfold laws_markLogEntryS.l0
  exact LM1 ih0
theorem laws_markLogEntryS.mono : ∀ a0 a1 k, LeO (laws_markLogEntryS.f k a0 a1) (laws_markLogEntryS.f (k + 1) a0 a1) := by
 intro a0 a1 k
 have ih0 := laws_markLogEntryS.mono_l k
 unfold laws_markLogEntryS.f
 exact LM1 ih0
theorem laws_markLogEntryS.calls (k : Nat) (P0_ : Nat -> Prop) (u9000_ : Value) (l0 : List (S66)) (a1 : Int) (r1 : Int) (r2 : List (S66)) (w0 w : World) (hB : Below w0.heap.size w0 w) (ho0 : Kd.R k66 66 w w0.heap.size P0_ u9000_ l0) (h : laws_markLogEntryS.f k l0 a1 = some (r1, r2)) :
 Calls Tryd.prog 19 #[u9000_, .int .i64 a1] w fun e w' => e = .returned (.int .i64 r1) /\ Kd.R k66 66 w' w0.heap.size (fun k_ => (P0_ k_ ∨ w.heap.size <= k_)) u9000_ r2 /\ Below w0.heap.size w0 w' /\ Kept w w' (fun k_ => P0_ k_) := by
 have HO0 := Aside0.mk (show Kd.R k66 66 w w0.heap.size (fun k_ => (P0_ k_ ∨ w.heap.size <= k_)) u9000_ l0 from R_mono ho0 (fun k_ hk => (.inl hk)))
 have HK := Aside0.mk (Kept.refl w (fun k_ => P0_ k_))
 have HW0 := Aside0.mk hB.size
 have HB := Aside0.mk hB
 clear hB
 have H := h
 clear h
 unfold laws_markLogEntryS.f at H
 have H' := Aside0.mk H
 clear H
 go_enter Tryd.func19, Tryd.ntmps19
 go_wp2
 go_loopg [1, 5] k (fun kq v1 v5 w' => ∃ (x0_1 : List (S66)) (x1_1 : Int) (x5_1 : Int), v1 = .int .i64 x1_1 /\ v5 = .int .i64 x5_1 /\ Aside0 (laws_markLogEntryS.l0 kq x0_1 x1_1 x5_1 = some (r1, r2)) /\ Aside0 (kq <= k) /\ Aside0 (Kd.R k66 66 w' w0.heap.size (fun k_ => (P0_ k_ ∨ w.heap.size <= k_)) u9000_ x0_1) /\ Aside0 (Kept w w' (fun k_ => P0_ k_)) /\ Aside0 (Below w0.heap.size w0 w'))
 case atStart => exact ⟨(l0), (a1), (0), RG, RG, H', ⟨Nat.le_refl _⟩, ⟨PR HO0.1⟩, ⟨KL HK.1⟩, ⟨BL HB.1⟩⟩
 clear H'
 obtain ⟨x0_1, x1_1, x5_1, rfl, rfl, HA, HK1, HO_0, HK, HB⟩ := hrel
 cases gk with
 | zero => exact absurd HA.1 (by simp [laws_markLogEntryS.l0])
 | succ k1 => ?_
 have H := HA.1
 clear HA
 simp only [laws_markLogEntryS.l0] at H
 replace H := ifB H; rcases H with ⟨c3b0, H⟩ | ⟨c3b0, H⟩
 · replace H := ifN H; obtain ⟨c4b0, H⟩ := H
   replace H := nameB H; obtain ⟨y175, Ny175, H⟩ := H
   replace H := nameB H; obtain ⟨y176, Ny176, H⟩ := H
   replace H := nameB H; obtain ⟨y177, Ny177, H⟩ := H
   generalize hy178 : ((y177.set (x5_1 : Int).toNat (⟨(rd_T66 y177 x5_1).f0, (⟨(rd_T66 y177 x5_1).f1.f0, (rd_T66 y177 x5_1).f1.f1, wrap64 ((wrap64 ((wrap64 (x1_1 + 1)) + 1)) + 1)⟩ : S64)⟩ : S66)) : List (S66)) = y178 at H
   have Ny178 := Aside0.mk hy178.symm; clear hy178
   have H' := Aside0.mk H
   clear H
   obtain ⟨Ao9, co9, eo9⟩ := R_slice HO_0.1
   subst eo9
   have p5 : 0 <= (x5_1 : Int) := OD
   have q5 : (x5_1 : Int) < ((x0_1.length : Int) : Int) := OD
   obtain ⟨go5, co5, eo5, gb5, gl5, cl5, HG5⟩ := R_form HO_0.1 (by omega)
   (first | cases eo5 | (injection eo5 with ea_ en_ ec_; (first | subst ea_ | (injection ea_ with ea_; subst ea_)); subst ec_; clear en_))
   have GB5 := Aside0.mk gb5
   have GG5 := Aside0.mk HG5
   clear gb5 gl5 HG5
   have HMgo5 := Aside0.mk (show (P0_ go5 ∨ w.heap.size <= go5) from (HO_0.1.1 _ rfl))
   obtain ⟨ce5, hcl5, hM5, hcc5, hfr5⟩ := R_elem HO_0.1 z66 (x5_1 : Int) p5 q5
   obtain rfl := k66_openM hM5
   have hx5_0 : wr.cell? ⟨go5, (x5_1 : Int).toNat * 4, none⟩ = some (.int .i64 ((rd_T66 x0_1 x5_1).f0)) := hcc5 0 _ rfl
   have hx5_1 : wr.cell? ⟨go5, (x5_1 : Int).toNat * 4 + 1, none⟩ = some (.int .i64 ((rd_T66 x0_1 x5_1).f1.f0)) := hcc5 1 _ rfl
   have hx5_2 : wr.cell? ⟨go5, (x5_1 : Int).toNat * 4 + 2, none⟩ = some (.int .i64 ((rd_T66 x0_1 x5_1).f1.f1)) := hcc5 2 _ rfl
   have hx5_3 : wr.cell? ⟨go5, (x5_1 : Int).toNat * 4 + 3, none⟩ = some (.int .i64 ((rd_T66 x0_1 x5_1).f1.f2)) := hcc5 3 _ rfl
   have hf5_0 : wr.frozen? ⟨go5, (x5_1 : Int).toNat * 4, none⟩ = false := hfr5 0
   have hf5_1 : wr.frozen? ⟨go5, (x5_1 : Int).toNat * 4 + 1, none⟩ = false := hfr5 1
   have hf5_2 : wr.frozen? ⟨go5, (x5_1 : Int).toNat * 4 + 2, none⟩ = false := hfr5 2
   have hf5_3 : wr.frozen? ⟨go5, (x5_1 : Int).toNat * 4 + 3, none⟩ = false := hfr5 3
   (try clear hM5); clear hcl5 hcc5 hfr5
   replace p5 := eq_true p5
   replace q5 := eq_true q5
   have HX10 := Aside0.mk (show Kd.R k66 66 wr w0.heap.size (fun k_ => (P0_ k_ ∨ w.heap.size <= k_)) (.slice (some ⟨go5, 0, none⟩) x0_1.length co9) x0_1 from (PR HO_0.1))
   obtain ⟨ce10, hcl10, hM10, hcc10, hfr10⟩ := R_elem HX10.1 z66 (x5_1 : Int) (OD) (by have h_ : (x5_1 : Int) < ((x0_1.length : Int) : Int) := OD; first | exact h_ | (have e_ := (R_reads' HO_0.1).1; omega) | simpa using h_)
   obtain rfl := k66_openM hM10
   have HP10 := R_seg HX10.1 (x5_1 : Int) (OD) (by have h_ : (x5_1 : Int) < ((x0_1.length : Int) : Int) := OD; first | exact h_ | (have e_ := (R_reads' HO_0.1).1; omega) | simpa using h_) (seg := [.int .i64 x1_1]) (j := 0) hcl10 hcc10 (show 1 <= 4 from by decide) (x' := (⟨x1_1, (⟨(rd_T66 x0_1 x5_1).f1.f0, (rd_T66 x0_1 x5_1).f1.f1, (rd_T66 x0_1 x5_1).f1.f2⟩ : S64)⟩ : S66)) (k66_mkM _ _ _ (⟨x1_1, (⟨(rd_T66 x0_1 x5_1).f1.f0, (rd_T66 x0_1 x5_1).f1.f1, (rd_T66 x0_1 x5_1).f1.f2⟩ : S64)⟩ : S66) ) (fun _ hk => hk)
   have hx10_0 := hcc10 0 _ rfl
   (try simp only [show (k66).sz = 4 from rfl, Nat.mul_one, Nat.add_zero] at hx10_0)
   have hf10_0 := hfr10 0
   (try simp only [show (k66).sz = 4 from rfl, Nat.mul_one, Nat.add_zero] at hf10_0)
   (try clear hM10); clear hcl10 hcc10 hfr10
   go_wp2_with (first | ((with_reducible refine gate_store (t := 3) (p := 16) rfl ?_); refine storeE (t := 3) (p := 16) (w1 := (wr.setCell ⟨go5, (x5_1 : Int).toNat * 4, none⟩ (.int .i64 x1_1))) ?_; intro w11 hw; have hg : wr.grownBy w11 (some go5) := (by rw [hw]; exact HP10.2); have hp_ : Kd.R k66 66 w11 w0.heap.size (fun k_ => (P0_ k_ ∨ w.heap.size <= k_)) (.slice (some ⟨go5, 0, none⟩) x0_1.length co9) y175 := (by rw [hw, Ny175.1]; exact HP10.1); clear HP10; refine E3 (hp_) ((by rw [hw]; exact below_set (HB.1) GB5.1 : Below w0.heap.size w0 w11)) (Kept.of_grown (S := (fun k_ => P0_ k_)) hg (KL HK.1) (fun k_ e_ => (HO_0.1.1 k_ e_))) ?_; clear HO_0 HB HK; intro HO_0 HB HK; clear hg hw hp_; have p6 : 0 <= (x5_1 : Int) := OD; have q6 : (x5_1 : Int) < ((x0_1.length : Int) : Int) := OD; obtain ⟨ce6, hcl6, hM6, hcc6, hfr6⟩ := R_elem HO_0.1 z66 (x5_1 : Int) p6 q6; obtain rfl := k66_openM hM6; have hx6_0 : w11.cell? ⟨go5, (x5_1 : Int).toNat * 4, none⟩ = some (.int .i64 ((rd_T66 y175 x5_1).f0)) := hcc6 0 _ rfl; have hx6_1 : w11.cell? ⟨go5, (x5_1 : Int).toNat * 4 + 1, none⟩ = some (.int .i64 ((rd_T66 y175 x5_1).f1.f0)) := hcc6 1 _ rfl; have hx6_2 : w11.cell? ⟨go5, (x5_1 : Int).toNat * 4 + 2, none⟩ = some (.int .i64 ((rd_T66 y175 x5_1).f1.f1)) := hcc6 2 _ rfl; have hx6_3 : w11.cell? ⟨go5, (x5_1 : Int).toNat * 4 + 3, none⟩ = some (.int .i64 ((rd_T66 y175 x5_1).f1.f2)) := hcc6 3 _ rfl; have hf6_0 : w11.frozen? ⟨go5, (x5_1 : Int).toNat * 4, none⟩ = false := hfr6 0; have hf6_1 : w11.frozen? ⟨go5, (x5_1 : Int).toNat * 4 + 1, none⟩ = false := hfr6 1; have hf6_2 : w11.frozen? ⟨go5, (x5_1 : Int).toNat * 4 + 2, none⟩ = false := hfr6 2; have hf6_3 : w11.frozen? ⟨go5, (x5_1 : Int).toNat * 4 + 3, none⟩ = false := hfr6 3; (try clear hM6); clear hcl6 hcc6 hfr6; replace p6 := eq_true p6; replace q6 := eq_true q6; have HX12 := Aside0.mk (show Kd.R k66 66 w11 w0.heap.size (fun k_ => (P0_ k_ ∨ w.heap.size <= k_)) (.slice (some ⟨go5, 0, none⟩) x0_1.length co9) y175 from (PR HO_0.1)); obtain ⟨ce12, hcl12, hM12, hcc12, hfr12⟩ := R_elem HX12.1 z66 (x5_1 : Int) (OD) (by have h_ : (x5_1 : Int) < ((x0_1.length : Int) : Int) := OD; first | exact h_ | (have e_ := (R_reads' HO_0.1).1; omega) | simpa using h_); obtain rfl := k66_openM hM12; have HP12 := R_seg HX12.1 (x5_1 : Int) (OD) (by have h_ : (x5_1 : Int) < ((x0_1.length : Int) : Int) := OD; first | exact h_ | (have e_ := (R_reads' HO_0.1).1; omega) | simpa using h_) (seg := [.int .i64 (wrap64 (x1_1 + 1))]) (j := 1) hcl12 hcc12 (show 2 <= 4 from by decide) (x' := (⟨(rd_T66 y175 x5_1).f0, (⟨wrap64 (x1_1 + 1), (rd_T66 y175 x5_1).f1.f1, (rd_T66 y175 x5_1).f1.f2⟩ : S64)⟩ : S66)) (k66_mkM _ _ _ (⟨(rd_T66 y175 x5_1).f0, (⟨wrap64 (x1_1 + 1), (rd_T66 y175 x5_1).f1.f1, (rd_T66 y175 x5_1).f1.f2⟩ : S64)⟩ : S66) ) (fun _ hk => hk); have hx12_1 := hcc12 1 _ rfl; (try simp only [show (k66).sz = 4 from rfl, Nat.mul_one, Nat.add_zero] at hx12_1); have hf12_1 := hfr12 1; (try simp only [show (k66).sz = 4 from rfl, Nat.mul_one, Nat.add_zero] at hf12_1); clear hcl12 hcc12 hfr12) | ((with_reducible refine gate_store (t := 3) (p := 24) rfl ?_); refine storeE (t := 3) (p := 24) (w1 := (w11.setCell ⟨go5, (x5_1 : Int).toNat * 4 + 1, none⟩ (.int .i64 (wrap64 (x1_1 + 1))))) ?_; intro w13 hw; have hg : w11.grownBy w13 (some go5) := (by rw [hw]; exact HP12.2); have hp_ : Kd.R k66 66 w13 w0.heap.size (fun k_ => (P0_ k_ ∨ w.heap.size <= k_)) (.slice (some ⟨go5, 0, none⟩) x0_1.length co9) y176 := (by rw [hw, Ny176.1]; exact HP12.1); clear HP12; refine E3 (hp_) ((by rw [hw]; exact below_set (HB.1) GB5.1 : Below w0.heap.size w0 w13)) (Kept.of_grown (S := (fun k_ => P0_ k_)) hg (KL HK.1) (fun k_ e_ => (HO_0.1.1 k_ e_))) ?_; clear HO_0 HB HK; intro HO_0 HB HK; clear hg hw hp_; have p7 : 0 <= (x5_1 : Int) := OD; have q7 : (x5_1 : Int) < ((x0_1.length : Int) : Int) := OD; obtain ⟨ce7, hcl7, hM7, hcc7, hfr7⟩ := R_elem HO_0.1 z66 (x5_1 : Int) p7 q7; obtain rfl := k66_openM hM7; have hx7_0 : w13.cell? ⟨go5, (x5_1 : Int).toNat * 4, none⟩ = some (.int .i64 ((rd_T66 y176 x5_1).f0)) := hcc7 0 _ rfl; have hx7_1 : w13.cell? ⟨go5, (x5_1 : Int).toNat * 4 + 1, none⟩ = some (.int .i64 ((rd_T66 y176 x5_1).f1.f0)) := hcc7 1 _ rfl; have hx7_2 : w13.cell? ⟨go5, (x5_1 : Int).toNat * 4 + 2, none⟩ = some (.int .i64 ((rd_T66 y176 x5_1).f1.f1)) := hcc7 2 _ rfl; have hx7_3 : w13.cell? ⟨go5, (x5_1 : Int).toNat * 4 + 3, none⟩ = some (.int .i64 ((rd_T66 y176 x5_1).f1.f2)) := hcc7 3 _ rfl; have hf7_0 : w13.frozen? ⟨go5, (x5_1 : Int).toNat * 4, none⟩ = false := hfr7 0; have hf7_1 : w13.frozen? ⟨go5, (x5_1 : Int).toNat * 4 + 1, none⟩ = false := hfr7 1; have hf7_2 : w13.frozen? ⟨go5, (x5_1 : Int).toNat * 4 + 2, none⟩ = false := hfr7 2; have hf7_3 : w13.frozen? ⟨go5, (x5_1 : Int).toNat * 4 + 3, none⟩ = false := hfr7 3; (try clear hM7); clear hcl7 hcc7 hfr7; replace p7 := eq_true p7; replace q7 := eq_true q7; have HX14 := Aside0.mk (show Kd.R k66 66 w13 w0.heap.size (fun k_ => (P0_ k_ ∨ w.heap.size <= k_)) (.slice (some ⟨go5, 0, none⟩) x0_1.length co9) y176 from (PR HO_0.1)); obtain ⟨ce14, hcl14, hM14, hcc14, hfr14⟩ := R_elem HX14.1 z66 (x5_1 : Int) (OD) (by have h_ : (x5_1 : Int) < ((x0_1.length : Int) : Int) := OD; first | exact h_ | (have e_ := (R_reads' HO_0.1).1; omega) | simpa using h_); obtain rfl := k66_openM hM14; have HP14 := R_seg HX14.1 (x5_1 : Int) (OD) (by have h_ : (x5_1 : Int) < ((x0_1.length : Int) : Int) := OD; first | exact h_ | (have e_ := (R_reads' HO_0.1).1; omega) | simpa using h_) (seg := [.int .i64 (wrap64 ((wrap64 (x1_1 + 1)) + 1))]) (j := 2) hcl14 hcc14 (show 3 <= 4 from by decide) (x' := (⟨(rd_T66 y176 x5_1).f0, (⟨(rd_T66 y176 x5_1).f1.f0, wrap64 ((wrap64 (x1_1 + 1)) + 1), (rd_T66 y176 x5_1).f1.f2⟩ : S64)⟩ : S66)) (k66_mkM _ _ _ (⟨(rd_T66 y176 x5_1).f0, (⟨(rd_T66 y176 x5_1).f1.f0, wrap64 ((wrap64 (x1_1 + 1)) + 1), (rd_T66 y176 x5_1).f1.f2⟩ : S64)⟩ : S66) ) (fun _ hk => hk); have hx14_2 := hcc14 2 _ rfl; (try simp only [show (k66).sz = 4 from rfl, Nat.mul_one, Nat.add_zero] at hx14_2); have hf14_2 := hfr14 2; (try simp only [show (k66).sz = 4 from rfl, Nat.mul_one, Nat.add_zero] at hf14_2); clear hcl14 hcc14 hfr14) | ((with_reducible refine gate_store (t := 3) (p := 32) rfl ?_); refine storeE (t := 3) (p := 32) (w1 := (w13.setCell ⟨go5, (x5_1 : Int).toNat * 4 + 2, none⟩ (.int .i64 (wrap64 ((wrap64 (x1_1 + 1)) + 1))))) ?_; intro w15 hw; have hg : w13.grownBy w15 (some go5) := (by rw [hw]; exact HP14.2); have hp_ : Kd.R k66 66 w15 w0.heap.size (fun k_ => (P0_ k_ ∨ w.heap.size <= k_)) (.slice (some ⟨go5, 0, none⟩) x0_1.length co9) y177 := (by rw [hw, Ny177.1]; exact HP14.1); clear HP14; refine E3 (hp_) ((by rw [hw]; exact below_set (HB.1) GB5.1 : Below w0.heap.size w0 w15)) (Kept.of_grown (S := (fun k_ => P0_ k_)) hg (KL HK.1) (fun k_ e_ => (HO_0.1.1 k_ e_))) ?_; clear HO_0 HB HK; intro HO_0 HB HK; clear hg hw hp_; have p8 : 0 <= (x5_1 : Int) := OD; have q8 : (x5_1 : Int) < ((x0_1.length : Int) : Int) := OD; obtain ⟨ce8, hcl8, hM8, hcc8, hfr8⟩ := R_elem HO_0.1 z66 (x5_1 : Int) p8 q8; obtain rfl := k66_openM hM8; have hx8_0 : w15.cell? ⟨go5, (x5_1 : Int).toNat * 4, none⟩ = some (.int .i64 ((rd_T66 y177 x5_1).f0)) := hcc8 0 _ rfl; have hx8_1 : w15.cell? ⟨go5, (x5_1 : Int).toNat * 4 + 1, none⟩ = some (.int .i64 ((rd_T66 y177 x5_1).f1.f0)) := hcc8 1 _ rfl; have hx8_2 : w15.cell? ⟨go5, (x5_1 : Int).toNat * 4 + 2, none⟩ = some (.int .i64 ((rd_T66 y177 x5_1).f1.f1)) := hcc8 2 _ rfl; have hx8_3 : w15.cell? ⟨go5, (x5_1 : Int).toNat * 4 + 3, none⟩ = some (.int .i64 ((rd_T66 y177 x5_1).f1.f2)) := hcc8 3 _ rfl; have hf8_0 : w15.frozen? ⟨go5, (x5_1 : Int).toNat * 4, none⟩ = false := hfr8 0; have hf8_1 : w15.frozen? ⟨go5, (x5_1 : Int).toNat * 4 + 1, none⟩ = false := hfr8 1; have hf8_2 : w15.frozen? ⟨go5, (x5_1 : Int).toNat * 4 + 2, none⟩ = false := hfr8 2; have hf8_3 : w15.frozen? ⟨go5, (x5_1 : Int).toNat * 4 + 3, none⟩ = false := hfr8 3; (try clear hM8); clear hcl8 hcc8 hfr8; replace p8 := eq_true p8; replace q8 := eq_true q8; have HX16 := Aside0.mk (show Kd.R k66 66 w15 w0.heap.size (fun k_ => (P0_ k_ ∨ w.heap.size <= k_)) (.slice (some ⟨go5, 0, none⟩) x0_1.length co9) y177 from (PR HO_0.1)); obtain ⟨ce16, hcl16, hM16, hcc16, hfr16⟩ := R_elem HX16.1 z66 (x5_1 : Int) (OD) (by have h_ : (x5_1 : Int) < ((x0_1.length : Int) : Int) := OD; first | exact h_ | (have e_ := (R_reads' HO_0.1).1; omega) | simpa using h_); obtain rfl := k66_openM hM16; have HP16 := R_seg HX16.1 (x5_1 : Int) (OD) (by have h_ : (x5_1 : Int) < ((x0_1.length : Int) : Int) := OD; first | exact h_ | (have e_ := (R_reads' HO_0.1).1; omega) | simpa using h_) (seg := [.int .i64 (wrap64 ((wrap64 ((wrap64 (x1_1 + 1)) + 1)) + 1))]) (j := 3) hcl16 hcc16 (show 4 <= 4 from by decide) (x' := (⟨(rd_T66 y177 x5_1).f0, (⟨(rd_T66 y177 x5_1).f1.f0, (rd_T66 y177 x5_1).f1.f1, wrap64 ((wrap64 ((wrap64 (x1_1 + 1)) + 1)) + 1)⟩ : S64)⟩ : S66)) (k66_mkM _ _ _ (⟨(rd_T66 y177 x5_1).f0, (⟨(rd_T66 y177 x5_1).f1.f0, (rd_T66 y177 x5_1).f1.f1, wrap64 ((wrap64 ((wrap64 (x1_1 + 1)) + 1)) + 1)⟩ : S64)⟩ : S66) ) (fun _ hk => hk); have hx16_3 := hcc16 3 _ rfl; (try simp only [show (k66).sz = 4 from rfl, Nat.mul_one, Nat.add_zero] at hx16_3); have hf16_3 := hfr16 3; (try simp only [show (k66).sz = 4 from rfl, Nat.mul_one, Nat.add_zero] at hf16_3); clear hcl16 hcc16 hfr16) | ((with_reducible refine gate_store (t := 3) (p := 40) rfl ?_); refine storeE (t := 3) (p := 40) (w1 := (w15.setCell ⟨go5, (x5_1 : Int).toNat * 4 + 3, none⟩ (.int .i64 (wrap64 ((wrap64 ((wrap64 (x1_1 + 1)) + 1)) + 1))))) ?_; intro w17 hw; have hg : w15.grownBy w17 (some go5) := (by rw [hw]; exact HP16.2); have hp_ : Kd.R k66 66 w17 w0.heap.size (fun k_ => (P0_ k_ ∨ w.heap.size <= k_)) (.slice (some ⟨go5, 0, none⟩) x0_1.length co9) y178 := (by rw [hw, Ny178.1]; exact HP16.1); clear HP16; refine E3 (hp_) ((by rw [hw]; exact below_set (HB.1) GB5.1 : Below w0.heap.size w0 w17)) (Kept.of_grown (S := (fun k_ => P0_ k_)) hg (KL HK.1) (fun k_ e_ => (HO_0.1.1 k_ e_))) ?_; clear HO_0 HB HK; intro HO_0 HB HK; clear hg hw hp_))
   go_roundg k1
   case measure => have := HK1.1; omega
   case rel => exact ⟨(y178), (wrap64 ((wrap64 ((wrap64 ((wrap64 (x1_1 + 1)) + 1)) + 1)) + 1)), (wrap64 (x5_1 + 1)), RG, RG, H', ⟨by have := HK1.1; omega⟩, ⟨PR HO_0.1⟩, ⟨KL HK.1⟩, ⟨BL HB.1⟩⟩
 simp only [Option.some.injEq, Prod.mk.injEq] at H
 obtain ⟨rfl, rfl⟩ := H
 obtain ⟨Ao18, co18, eo18⟩ := R_slice HO_0.1
 subst eo18
 go_wp2
 go_ret
 exact ⟨RF, RPE (HO_0.1), BL HB.1, KL HK.1⟩
/-! ### laws_heldLogEntryS: function 20 -/
open Kd
def laws_heldLogEntryS.l0 : Nat -> List (S66) -> Int -> Int -> Option (Int)
 | 0, _, _, _ => none
 | k + 1, x0, x1, x5 => if x5 < (x0.length : Int) then (if 0 <= x5 then (if ((rd_T66 x0 x5).f0) = x1 then (if ((rd_T66 x0 x5).f1.f0) = (wrap64 (x1 + 1)) then (if ((rd_T66 x0 x5).f1.f1) = (wrap64 ((wrap64 (x1 + 1)) + 1)) then (if ((rd_T66 x0 x5).f1.f2) = (wrap64 ((wrap64 ((wrap64 (x1 + 1)) + 1)) + 1)) then (laws_heldLogEntryS.l0 k x0 (wrap64 ((wrap64 ((wrap64 ((wrap64 (x1 + 1)) + 1)) + 1)) + 1)) (wrap64 (x5 + 1))) else (some (-1))) else (some (-1))) else (some (-1))) else (some (-1))) else (none)) else (some x1)
def laws_heldLogEntryS.f (k : Nat) (l0 : List (S66)) (a1 : Int) : Option (Int) := laws_heldLogEntryS.l0 k l0 a1 0
theorem laws_heldLogEntryS.mono_l : ∀ k, (∀ y0 y1 y2, LeO (laws_heldLogEntryS.l0 k y0 y1 y2) (laws_heldLogEntryS.l0 (k + 1) y0 y1 y2))
 | 0 => fun _ _ _ r h => by simp [laws_heldLogEntryS.l0] at h
 | k + 1 => by
  have ih0 := laws_heldLogEntryS.mono_l k
  intros
  first | unfold laws_heldLogEntryS.l0
  exact LM1 ih0
theorem laws_heldLogEntryS.mono : ∀ a0 a1 k, LeO (laws_heldLogEntryS.f k a0 a1) (laws_heldLogEntryS.f (k + 1) a0 a1) := by
 intro a0 a1 k
 have ih0 := laws_heldLogEntryS.mono_l k
 unfold laws_heldLogEntryS.f
 exact LM1 ih0
theorem laws_heldLogEntryS.calls (k : Nat) (A0 : Option Addr) (c0 : Nat) (l0 : List (S66)) (a1 : Int) (r : Int) (w : World) (hr0 : Kd.C k66 w A0 l0.length l0) (hc0 : l0.length <= c0) (h : laws_heldLogEntryS.f k l0 a1 = some r) :
 Calls Tryd.prog 20 #[.slice A0 l0.length c0, .int .i64 a1] w fun e w' => e = .returned (.int .i64 r) /\ Drawn0 w w' := by
 have HR0 := Aside0.mk hr0
 have HC0 := Aside0.mk hc0
 clear hr0 hc0
 have H := h
 clear h
 unfold laws_heldLogEntryS.f at H
 have H' := Aside0.mk H
 clear H
 go_enter Tryd.func20, Tryd.ntmps20
 go_wp2
 go_loopg [1, 5] k (fun kq v1 v5 w' => ∃ (x1_1 : Int) (x5_1 : Int), v1 = .int .i64 x1_1 /\ v5 = .int .i64 x5_1 /\ Aside0 (laws_heldLogEntryS.l0 kq l0 x1_1 x5_1 = some r) /\ Aside0 (kq <= k) /\ Drawn0 w w')
 case atStart => exact ⟨(a1), (0), RG, RG, H', ⟨Nat.le_refl _⟩, DR⟩
 clear H'
 obtain ⟨x1_1, x5_1, rfl, rfl, HA, HK1, ⟨m1, rfl⟩⟩ := hrel
 cases gk with
 | zero => exact absurd HA.1 (by simp [laws_heldLogEntryS.l0])
 | succ k1 => ?_
 have H := HA.1
 clear HA
 simp only [laws_heldLogEntryS.l0] at H
 replace H := ifB H; rcases H with ⟨c3b0, H⟩ | ⟨c3b0, H⟩
 · replace H := ifN H; obtain ⟨c4b0, H⟩ := H
   replace H := ifQ H; rcases H with ⟨c5, H⟩ | ⟨c5, H⟩
   · have c5b0 := beq_iff_eq.mpr c5
     have c5b1 := bne_eq_false_iff_eq.mpr c5
     clear c5
     replace H := ifQ H; rcases H with ⟨c6, H⟩ | ⟨c6, H⟩
     · have c6b0 := beq_iff_eq.mpr c6
       have c6b1 := bne_eq_false_iff_eq.mpr c6
       clear c6
       replace H := ifQ H; rcases H with ⟨c7, H⟩ | ⟨c7, H⟩
       · have c7b0 := beq_iff_eq.mpr c7
         have c7b1 := bne_eq_false_iff_eq.mpr c7
         clear c7
         replace H := ifQ H; rcases H with ⟨c8, H⟩ | ⟨c8, H⟩
         · have c8b0 := beq_iff_eq.mpr c8
           have c8b1 := bne_eq_false_iff_eq.mpr c8
           clear c8
           have H' := Aside0.mk H
           clear H
           have p179 : 0 <= (x5_1 : Int) := OD
           have q179 : x5_1 < (l0.length : Int) := OD
           obtain ⟨ad179, e179, hx179_0, hx179_1, hx179_2, hx179_3⟩ := at_T66 HR0.1 x5_1 p179 q179
           cases e179
           replace p179 := eq_true p179
           replace q179 := eq_true q179
           have p180 : 0 <= (x5_1 : Int) := OD
           have q180 : x5_1 < (l0.length : Int) := OD
           obtain ⟨ad180, e180, hx180_0, hx180_1, hx180_2, hx180_3⟩ := at_T66 HR0.1 x5_1 p180 q180
           obtain rfl : ad179 = ad180 := (by injection e180)
           replace p180 := eq_true p180
           replace q180 := eq_true q180
           have p181 : 0 <= (x5_1 : Int) := OD
           have q181 : x5_1 < (l0.length : Int) := OD
           obtain ⟨ad181, e181, hx181_0, hx181_1, hx181_2, hx181_3⟩ := at_T66 HR0.1 x5_1 p181 q181
           obtain rfl : ad179 = ad181 := (by injection e181)
           replace p181 := eq_true p181
           replace q181 := eq_true q181
           have p182 : 0 <= (x5_1 : Int) := OD
           have q182 : x5_1 < (l0.length : Int) := OD
           obtain ⟨ad182, e182, hx182_0, hx182_1, hx182_2, hx182_3⟩ := at_T66 HR0.1 x5_1 p182 q182
           obtain rfl : ad179 = ad182 := (by injection e182)
           replace p182 := eq_true p182
           replace q182 := eq_true q182
           go_wp2
           go_roundg k1
           case measure => have := HK1.1; omega
           case rel => exact ⟨(wrap64 ((wrap64 ((wrap64 ((wrap64 (x1_1 + 1)) + 1)) + 1)) + 1)), (wrap64 (x5_1 + 1)), RG, RG, H', ⟨by have := HK1.1; omega⟩, DR⟩
         have c8b0 := beq_eq_false_iff_ne.mpr c8
         have c8b1 := bne_iff_ne.mpr c8
         obtain rfl := Option.some.inj H
         have p179 : 0 <= (x5_1 : Int) := OD
         have q179 : x5_1 < (l0.length : Int) := OD
         obtain ⟨ad179, e179, hx179_0, hx179_1, hx179_2, hx179_3⟩ := at_T66 HR0.1 x5_1 p179 q179
         cases e179
         replace p179 := eq_true p179
         replace q179 := eq_true q179
         have p180 : 0 <= (x5_1 : Int) := OD
         have q180 : x5_1 < (l0.length : Int) := OD
         obtain ⟨ad180, e180, hx180_0, hx180_1, hx180_2, hx180_3⟩ := at_T66 HR0.1 x5_1 p180 q180
         obtain rfl : ad179 = ad180 := (by injection e180)
         replace p180 := eq_true p180
         replace q180 := eq_true q180
         have p181 : 0 <= (x5_1 : Int) := OD
         have q181 : x5_1 < (l0.length : Int) := OD
         obtain ⟨ad181, e181, hx181_0, hx181_1, hx181_2, hx181_3⟩ := at_T66 HR0.1 x5_1 p181 q181
         obtain rfl : ad179 = ad181 := (by injection e181)
         replace p181 := eq_true p181
         replace q181 := eq_true q181
         have p182 : 0 <= (x5_1 : Int) := OD
         have q182 : x5_1 < (l0.length : Int) := OD
         obtain ⟨ad182, e182, hx182_0, hx182_1, hx182_2, hx182_3⟩ := at_T66 HR0.1 x5_1 p182 q182
         obtain rfl : ad179 = ad182 := (by injection e182)
         replace p182 := eq_true p182
         replace q182 := eq_true q182
         go_wp2
         go_ret
         exact ⟨RG, DR⟩
       have c7b0 := beq_eq_false_iff_ne.mpr c7
       have c7b1 := bne_iff_ne.mpr c7
       obtain rfl := Option.some.inj H
       have p179 : 0 <= (x5_1 : Int) := OD
       have q179 : x5_1 < (l0.length : Int) := OD
       obtain ⟨ad179, e179, hx179_0, hx179_1, hx179_2, hx179_3⟩ := at_T66 HR0.1 x5_1 p179 q179
       cases e179
       replace p179 := eq_true p179
       replace q179 := eq_true q179
       have p180 : 0 <= (x5_1 : Int) := OD
       have q180 : x5_1 < (l0.length : Int) := OD
       obtain ⟨ad180, e180, hx180_0, hx180_1, hx180_2, hx180_3⟩ := at_T66 HR0.1 x5_1 p180 q180
       obtain rfl : ad179 = ad180 := (by injection e180)
       replace p180 := eq_true p180
       replace q180 := eq_true q180
       have p181 : 0 <= (x5_1 : Int) := OD
       have q181 : x5_1 < (l0.length : Int) := OD
       obtain ⟨ad181, e181, hx181_0, hx181_1, hx181_2, hx181_3⟩ := at_T66 HR0.1 x5_1 p181 q181
       obtain rfl : ad179 = ad181 := (by injection e181)
       replace p181 := eq_true p181
       replace q181 := eq_true q181
       go_wp2
       go_ret
       exact ⟨RG, DR⟩
     have c6b0 := beq_eq_false_iff_ne.mpr c6
     have c6b1 := bne_iff_ne.mpr c6
     obtain rfl := Option.some.inj H
     have p179 : 0 <= (x5_1 : Int) := OD
     have q179 : x5_1 < (l0.length : Int) := OD
     obtain ⟨ad179, e179, hx179_0, hx179_1, hx179_2, hx179_3⟩ := at_T66 HR0.1 x5_1 p179 q179
     cases e179
     replace p179 := eq_true p179
     replace q179 := eq_true q179
     have p180 : 0 <= (x5_1 : Int) := OD
     have q180 : x5_1 < (l0.length : Int) := OD
     obtain ⟨ad180, e180, hx180_0, hx180_1, hx180_2, hx180_3⟩ := at_T66 HR0.1 x5_1 p180 q180
     obtain rfl : ad179 = ad180 := (by injection e180)
     replace p180 := eq_true p180
     replace q180 := eq_true q180
     go_wp2
     go_ret
     exact ⟨RG, DR⟩
   have c5b0 := beq_eq_false_iff_ne.mpr c5
   have c5b1 := bne_iff_ne.mpr c5
   obtain rfl := Option.some.inj H
   have p179 : 0 <= (x5_1 : Int) := OD
   have q179 : x5_1 < (l0.length : Int) := OD
   obtain ⟨ad179, e179, hx179_0, hx179_1, hx179_2, hx179_3⟩ := at_T66 HR0.1 x5_1 p179 q179
   cases e179
   replace p179 := eq_true p179
   replace q179 := eq_true q179
   go_wp2
   go_ret
   exact ⟨RG, DR⟩
 obtain rfl := Option.some.inj H
 go_wp2
 go_ret
 exact ⟨RG, DR⟩
/-! ### laws_FnExactParseLog: function 5 -/
open Kd
mutual
def laws_FnExactParseLog.j0 : Nat -> ByteArray -> List (S66) -> Bool -> List (S66) -> Bool -> Option (Bool)
 | 0, _, _, _, _, _ => none
 | k + 1, x0, x3, x4, x5, x32 => if x32 = true then (some false) else ((laws_markLogEntryS.f k x5 1).bind fun bt192 => ((laws_heldLogEntryS.f k bt192.2 1).bind fun t194 => (if t194 < 0 then (some false) else (if t194 = bt192.1 then ((impl_ParseLog.f k x0).bind fun bt195 => ((laws_eqLogEntryS.f k bt195.1 x3).bind fun t199 => (if t199 = true then (laws_FnExactParseLog.j1 k bt192.2 bt192.1 (bt195.2 != x4)) else (laws_FnExactParseLog.j1 k bt192.2 bt192.1 true)))) else (some false)))))
def laws_FnExactParseLog.j1 : Nat -> List (S66) -> Int -> Bool -> Option (Bool)
 | 0, _, _, _ => none
 | k + 1, x5, x7, x57 => if x57 = true then (some false) else ((laws_heldLogEntryS.f k x5 1).bind fun t200 => (if t200 < 0 then (some false) else (if t200 = x7 then (some true) else (some false))))
end
def laws_FnExactParseLog.f (k : Nat) (a0 : ByteArray) : Option (Bool) := if (a0.size : Int) > 1048576 then (some true) else ((spec_ParseLog.f k a0).bind fun bt183 => ((impl_ParseLog.f k a0).bind fun bt187 => ((laws_eqLogEntryS.f k bt187.1 bt183.1).bind fun t191 => (if t191 = true then (laws_FnExactParseLog.j0 k a0 bt183.1 bt183.2 bt187.1 (bt187.2 != bt183.2)) else (laws_FnExactParseLog.j0 k a0 bt183.1 bt183.2 bt187.1 true)))))
theorem laws_FnExactParseLog.mono_l : ∀ k, (∀ y0 y1 y2 y3 y4, LeO (laws_FnExactParseLog.j0 k y0 y1 y2 y3 y4) (laws_FnExactParseLog.j0 (k + 1) y0 y1 y2 y3 y4)) /\ (∀ y0 y1 y2, LeO (laws_FnExactParseLog.j1 k y0 y1 y2) (laws_FnExactParseLog.j1 (k + 1) y0 y1 y2))
 | 0 => by refine ⟨?_, ?_⟩ <;> (intros; intro r h; first | (simp [laws_FnExactParseLog.j0] at h; done) | (simp [laws_FnExactParseLog.j1] at h; done))
 | k + 1 => by
  obtain ⟨ih0, ih1⟩ := laws_FnExactParseLog.mono_l k
  refine ⟨?_, ?_⟩ <;> (
   intros
   first | unfold laws_FnExactParseLog.j0 | unfold laws_FnExactParseLog.j1
   exact LM7 ih0 ih1 impl_ParseLog.mono laws_eqLogEntryS.mono laws_heldLogEntryS.mono laws_markLogEntryS.mono spec_ParseLog.mono)
theorem laws_FnExactParseLog.mono : ∀ a0 k, LeO (laws_FnExactParseLog.f k a0) (laws_FnExactParseLog.f (k + 1) a0) := by
 intro a0 k
 obtain ⟨ih0, ih1⟩ := laws_FnExactParseLog.mono_l k
 unfold laws_FnExactParseLog.f
 exact LM7 ih0 ih1 impl_ParseLog.mono laws_eqLogEntryS.mono laws_heldLogEntryS.mono laws_markLogEntryS.mono spec_ParseLog.mono
theorem laws_FnExactParseLog.calls (k : Nat) (a0 : ByteArray) (w : World) (hG : Globs w) (h : laws_FnExactParseLog.f k a0 = some true) :
 Calls Tryd.prog 5 #[.string a0] w fun e w' => e = .returned (.bool true) /\ Below w.heap.size w w' := by
 have HB := Aside0.mk (Below.refl w.heap.size w)
 have H := h
 clear h
 unfold laws_FnExactParseLog.f at H
 replace H := ifQ H; rcases H with ⟨c2, H⟩ | ⟨c2, H⟩
 · have c2b0 : decide (1048576 < (a0.size : Int)) = true := decide_eq_true c2
   have c2b1 : decide (1048576 < a0.size) = true := decide_eq_true (by omega)
   clear c2
   first | (obtain rfl := Option.some.inj H) | clear H
   go_enter Tryd.func5, Tryd.ntmps5
   go_wp2
   go_ret
   exact ⟨RF, BL HB.1⟩
 have c2b0 : decide (1048576 < (a0.size : Int)) = false := decide_eq_false c2
 have c2b1 : decide (1048576 < a0.size) = false := decide_eq_false (by omega)
 clear c2
 replace H := bindA H; obtain ⟨⟨t183, t184⟩, A3, H⟩ := H
 dsimp only at H
 replace H := bindA H; obtain ⟨⟨t187, t188⟩, A4, H⟩ := H
 dsimp only at H
 have HC5 := Aside0.mk H
 clear H
 go_enter Tryd.func5, Tryd.ntmps5
 go_upto_region 5 with (first | ((with_reducible refine gate_callee (f := 17) rfl ?_); refine goesM (N := (some 16)) #[.string a0] Tryd.func17 ?_; (with_reducible refine (spec_ParseLog.calls k a0 t183 t184 _ A3.1).mono ?_); rintro e w6 ⟨v185, rfl, ho0, hb⟩; refine ⟨_, rfl, ?_⟩; refine E2 (R_lower ho0 (bZ HB.1)) (bS HB.1 hb) ?_; clear HB; intro HO186 HB; (try clear hb); (try clear ho0)) | ((with_reducible refine gate_callee (f := 18) rfl ?_); refine goesM (N := (some 21)) #[.string a0] Tryd.func18 ?_; (with_reducible refine (impl_ParseLog.calls k a0 t187 t188 _ (hG.below (BL HB.1)) A4.1).mono ?_); rintro e w7 ⟨v189, rfl, ho0, hb⟩; refine ⟨_, rfl, ?_⟩; refine E3 (R_elder' (PR HO186.1) (R_base ho0) hb) (R_lower (R_new' ho0 (R_lt (PR HO186.1))) (bZ HB.1)) (bS HB.1 hb) ?_; clear HO186 HB; intro HO186 HO190 HB; (try clear hb); (try clear ho0)))
 (try simp only [Act.put, List.setIfInBounds_toArray, List.set_cons_zero, List.set_cons_succ])
 go_cut [32] (fun v32 wc => ∃ (kq : Nat) (x32_4 : Bool), v32 = .bool x32_4 /\ Aside0 (laws_FnExactParseLog.j0 kq a0 t183 t184 t187 x32_4 = some true) /\ Aside0 (kq <= k) /\ Aside0 (Kd.R k66 66 wc w.heap.size (fun k_ => some k_ ≠ (v189 : Value).ownBlock) v185 t183) /\ Aside0 (Kd.R k66 66 wc w.heap.size (fun k_ => some k_ ≠ (v185 : Value).ownBlock) v189 t187) /\ Aside0 (Below w.heap.size w wc))
 case first =>
  have H := HC5.1
  clear HC5
  replace H := bindA H; obtain ⟨t191, A8, H⟩ := H
  replace H := ifT H (by cases k <;> simp [laws_FnExactParseLog.j0]); obtain ⟨rfl, H⟩ := H
  have H' := Aside0.mk H
  clear H
  obtain ⟨Ao10, co10, eo10⟩ := R_slice HO190.1
  subst eo10
  obtain ⟨Ao11, co11, eo11⟩ := R_slice HO186.1
  subst eo11
  go_wp2_with (first | ((with_reducible refine gate_callee (f := 16) rfl ?_); refine goesM (N := (some 26)) #[.slice Ao10 t187.length co10, .slice Ao11 t183.length co11] Tryd.func16 ?_; (with_reducible refine (laws_eqLogEntryS.calls k _ _ t187 _ _ t183 true _ ?side1 ?side2 ?side3 ?side4 A8.1).mono ?_); (case side1 => exact CB (R_reads' HO190.1).2.2); (case side2 => exact (R_reads' HO190.1).2.1); (case side3 => exact CB (R_reads' HO186.1).2.2); (case side4 => exact (R_reads' HO186.1).2.1); rintro e w12 ⟨rfl, hb⟩; refine ⟨_, rfl, ?_⟩; refine E3 (rB HO186.1 hb) (rB HO190.1 hb) (bS HB.1 hb) ?_; clear HO186 HO190 HB; intro HO186 HO190 HB; (try clear hb)))
  go_meet
  case rel => exact ⟨_, ((t188 != t184)), RG, H', ⟨by first | omega | exact Nat.le_refl _⟩, ⟨RPE (R_mono HO186.1 (fun _ hk => hk.2))⟩, ⟨RPE (R_mono HO190.1 (fun _ hk => hk.2))⟩, ⟨BL HB.1⟩⟩
 clear HC5
 clear c2b0 c2b1
 obtain ⟨kq, x32_4, rfl, HA, HJ4, HO_3, HO_5, HB⟩ := hcut
 cases kq with
 | zero => exact absurd HA.1 (by simp [laws_FnExactParseLog.j0])
 | succ kj4 => ?_
 have H := HA.1
 clear HA
 simp only [laws_FnExactParseLog.j0] at H
 replace H := ifF H (by simp); obtain ⟨rfl, H⟩ := H
 replace H := bindA H; obtain ⟨⟨t192, t193⟩, A17, H⟩ := H
 dsimp only at H
 replace H := bindA H; obtain ⟨t194, A18, H⟩ := H
 replace H := ifQ H; rcases H with ⟨c19, H⟩ | ⟨c19, H⟩
 · exact absurd H (by simp)
 have c19b0 := decide_eq_false c19
 clear c19
 first | replace H := ifP H | replace H := ifPf H
 obtain ⟨c22, H⟩ := H
 have c22b0 := beq_iff_eq.mpr c22
 have c22b1 := bne_eq_false_iff_eq.mpr c22
 clear c22
 replace H := bindA H; obtain ⟨⟨t195, t196⟩, A23, H⟩ := H
 dsimp only at H
 have HC24 := Aside0.mk H
 clear H
 obtain ⟨Ao25, co25, eo25⟩ := R_slice HO_5.1
 subst eo25
 go_upto_region 16 with (first | ((with_reducible refine gate_callee (f := 19) rfl ?_); refine goesM (N := (some 35)) #[.slice Ao25 t187.length co25, .int .i64 1] Tryd.func19 ?_; (with_reducible refine (laws_markLogEntryS.calls kj4 (fun k_ => some k_ = (.slice Ao25 t187.length co25 : Value).ownBlock) (.slice Ao25 t187.length co25) t187 1 t192 t193 w _ ?side1 ?side2 A17.1).mono ?_); (case side1 => exact BL HB.1); (case side2 => exact R_tight rfl HO_5.1); rintro e w26 ⟨rfl, hy0, hb, hkp⟩; refine ⟨_, rfl, ?_⟩; refine E3 (R_mono (ok' := fun k_ => some k_ ≠ (.slice Ao25 t187.length co25 : Value).ownBlock) (R_keptB (HO_3.1) hkp (fun k_ hk_ hs_ => (hk_) hs_)) (fun k_ hk_ => hk_.1)) (R_reok rfl hy0 (fun k_ e_ => HO_5.1.1 k_ e_)) (hb) ?_; clear HO_3 HO_5 HB; intro HO_3 HO_5 HB; (try clear hb); (try clear hkp); (try clear hy0)) | ((with_reducible refine gate_callee (f := 20) rfl ?_); refine goesL_ (some 38) rfl rfl Tryd.func20 (by kernel_rfl) rfl #[.slice Ao25 t193.length co25, .int .i64 1] rfl (by (try simp only [List.map_toArray, List.map_cons, List.map_nil]); first | done | (rw [show t193.length = t187.length from (R_reads' HO_5.1).1.symm] <;> rfl) | rfl | (simp only [List.length_drop, List.length_take]; rfl)) ?_; (with_reducible refine (laws_heldLogEntryS.calls kj4 _ _ t193 1 t194 _ ?side1 ?side2 A18.1).mono ?_); (case side1 => exact CB (R_reads' HO_5.1).2.2); (case side2 => rw [show t193.length = t187.length from (R_reads' HO_5.1).1.symm]; exact (R_reads' HO_5.1).2.1); rintro e w' ⟨rfl, ⟨nd, rfl⟩⟩; refine ⟨_, rfl, ?_⟩) | ((with_reducible refine gate_callee (f := 18) rfl ?_); refine goesM (N := (some 46)) #[.string a0] Tryd.func18 ?_; (with_reducible refine (impl_ParseLog.calls kj4 a0 t195 t196 _ (hG.below (BL HB.1)) A23.1).mono ?_); rintro e w27 ⟨v197, rfl, ho0, hb⟩; refine ⟨_, rfl, ?_⟩; refine E4 (R_elder' (PR HO_3.1) (R_base ho0) hb) (R_elder' (PR HO_5.1) (R_base ho0) hb) (R_lower (R_new' (R_new' ho0 (R_lt (PR HO_3.1))) (R_lt (PR HO_5.1))) (bZ HB.1)) (bS HB.1 hb) ?_; clear HO_3 HO_5 HB; intro HO_3 HO_5 HO198 HB; (try clear hb); (try clear ho0)))
 (try simp only [Act.put, List.setIfInBounds_toArray, List.set_cons_zero, List.set_cons_succ])
 go_cut [57] (fun v57 wc => ∃ (kq : Nat) (x57_23 : Bool), v57 = .bool x57_23 /\ Aside0 (laws_FnExactParseLog.j1 kq t193 t192 x57_23 = some true) /\ Aside0 (kq <= kj4) /\ Aside0 (Kd.R k66 66 wc w.heap.size (fun _ => True) (.slice Ao25 t187.length co25) t193) /\ Aside0 (Below w.heap.size w wc))
 case first =>
  have H := HC24.1
  clear HC24
  replace H := bindA H; obtain ⟨t199, A28, H⟩ := H
  replace H := ifT H (by cases kj4 <;> simp [laws_FnExactParseLog.j1]); obtain ⟨rfl, H⟩ := H
  have H' := Aside0.mk H
  clear H
  obtain ⟨Ao30, co30, eo30⟩ := R_slice HO198.1
  subst eo30
  obtain ⟨Ao31, co31, eo31⟩ := R_slice HO_3.1
  subst eo31
  go_wp2_with (first | ((with_reducible refine gate_callee (f := 16) rfl ?_); refine goesM (N := (some 51)) #[.slice Ao30 t195.length co30, .slice Ao31 t183.length co31] Tryd.func16 ?_; (with_reducible refine (laws_eqLogEntryS.calls kj4 _ _ t195 _ _ t183 true _ ?side1 ?side2 ?side3 ?side4 A28.1).mono ?_); (case side1 => exact CB (R_reads' HO198.1).2.2); (case side2 => exact (R_reads' HO198.1).2.1); (case side3 => exact CB (R_reads' HO_3.1).2.2); (case side4 => exact (R_reads' HO_3.1).2.1); rintro e w32 ⟨rfl, hb⟩; refine ⟨_, rfl, ?_⟩; refine E4 (rB HO_3.1 hb) (rB HO_5.1 hb) (rB HO198.1 hb) (bS HB.1 hb) ?_; clear HO_3 HO_5 HO198 HB; intro HO_3 HO_5 HO198 HB; (try clear hb)))
  go_meet
  case rel => exact ⟨_, ((t196 != t184)), RG, H', ⟨by have := HJ4.1; first | omega | exact Nat.le_refl _⟩, ⟨RPE (R_mono HO_5.1 (fun _ hk => trivial))⟩, ⟨BL HB.1⟩⟩
 clear HC24
 clear c19b0 c22b0 c22b1
 obtain ⟨kq, x57_23, rfl, HA, HJ23, HO_5, HB⟩ := hcut
 have hl5_23 := (R_reads' HO_5.1).1
 rw [hl5_23] at HO_5
 (try simp only [hl5_23])
 cases kq with
 | zero => exact absurd HA.1 (by simp [laws_FnExactParseLog.j1])
 | succ kj23 => ?_
 have H := HA.1
 clear HA
 simp only [laws_FnExactParseLog.j1] at H
 replace H := ifF H (by simp); obtain ⟨rfl, H⟩ := H
 replace H := bindA H; obtain ⟨t200, A37, H⟩ := H
 replace H := ifQ H; rcases H with ⟨c38, H⟩ | ⟨c38, H⟩
 · exact absurd H (by simp)
 have c38b0 := decide_eq_false c38
 clear c38
 first | replace H := ifP H | replace H := ifPf H
 obtain ⟨c39, H⟩ := H
 have c39b0 := beq_iff_eq.mpr c39
 have c39b1 := bne_eq_false_iff_eq.mpr c39
 clear c39
 first | (obtain rfl := Option.some.inj H) | clear H
 go_wp2_with (first | ((with_reducible refine gate_callee (f := 20) rfl ?_); refine goesM (N := (some 60)) #[.slice Ao25 t193.length co25, .int .i64 1] Tryd.func20 ?_; (with_reducible refine (laws_heldLogEntryS.calls kj23 _ _ t193 1 t200 _ ?side1 ?side2 A37.1).mono ?_); (case side1 => exact CB (R_reads' HO_5.1).2.2); (case side2 => exact (R_reads' HO_5.1).2.1); rintro e w' ⟨rfl, ⟨nd, rfl⟩⟩; refine ⟨_, rfl, ?_⟩))
 go_ret
 exact ⟨RF, BL HB.1⟩
end Go.Proofs.YtfekgidcnidijaaDoor.P
