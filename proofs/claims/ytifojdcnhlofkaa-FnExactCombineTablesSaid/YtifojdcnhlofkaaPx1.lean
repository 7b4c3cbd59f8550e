-- PRINTED by print.py (a twelfth state) out of the translation. Not trusted: Lean checks it.
import Derived.Test.YtifojdcnhlofkaaPx0
namespace Go.Proofs.Ytifojdcnhlofkaa.P
open Go.RowKit Go.Proofs.YtifojdcnhlofkaaW.PrintWords Go.Proofs.YtifojdcnhlofkaaW.PrintLast Go.Proofs.YtifojdcnhlofkaaW.PrintMore
attribute [local go_sem] max2_int min2_int max_two min_two max_three min_three max_four min_four   -- for this text's walks alone
set_option linter.unusedVariables false
set_option linter.unusedSimpArgs false
set_option maxHeartbeats 8000000
set_option maxRecDepth 100000

/-! ### laws_szIntS: function 11 -/
open Kd
def laws_szIntS.f (l0 : List Int) (a1 : Int) : Option (Int) := if (wrap64 (a1 - (l0.length : Int))) < 0 then (some (-1)) else (some (wrap64 (a1 - (l0.length : Int))))
theorem laws_szIntS.calls (A0 : Option Addr) (c0 : Nat) (l0 : List Int) (a1 : Int) (r : Int) (w : World) (hr0 : Kd.C (Kd.int .i64) w A0 l0.length l0) (hc0 : l0.length <= c0) (h : laws_szIntS.f l0 a1 = some r) :
 Calls Try.prog 11 #[.slice A0 l0.length c0, .int .i64 a1] w fun e w' => e = .returned (.int .i64 r) /\ Drawn0 w w' := by
 have HR0 := Aside0.mk hr0
 have HC0 := Aside0.mk hc0
 clear hr0 hc0
 have H := h
 clear h
 unfold laws_szIntS.f at H
 replace H := ifB H; rcases H with ⟨c3b0, H⟩ | ⟨c3b0, H⟩
 · obtain rfl := Option.some.inj H
   go_enter Try.func11, Try.ntmps11
   go_wp2
   go_ret
   exact ⟨RG, DR⟩
 obtain rfl := Option.some.inj H
 go_enter Try.func11, Try.ntmps11
 go_wp2
 go_ret
 exact ⟨RG, DR⟩
/-! ### laws_szTable: function 4 -/
open Kd
def laws_szTable.f (a0_0 : Int) (l0_1 : List Int) (a1 : Int) : Option (Int) := (laws_szIntS.f l0_1 a1).bind fun t102 => (if t102 < 0 then (some (-1)) else (some t102))
theorem laws_szTable.calls (a0_0 : Int) (A0_1 : Option Addr) (c0_1 : Nat) (l0_1 : List Int) (a1 : Int) (r : Int) (w : World) (hr0_1 : Kd.C (Kd.int .i64) w A0_1 l0_1.length l0_1) (hc0_1 : l0_1.length <= c0_1) (h : laws_szTable.f a0_0 l0_1 a1 = some r) :
 Calls Try.prog 4 #[.agg #[.int .i64 a0_0, .slice A0_1 l0_1.length c0_1], .int .i64 a1] w fun e w' => e = .returned (.int .i64 r) /\ Below w.heap.size w w' := by
 have hu24 := Try.underlying24
 have HR0_1 := Aside0.mk hr0_1
 have HC0_1 := Aside0.mk hc0_1
 clear hr0_1 hc0_1
 have HB := Aside0.mk (Below.refl w.heap.size w)
 have H := h
 clear h
 unfold laws_szTable.f at H
 replace H := bindA H; obtain ⟨t102, A3, H⟩ := H
 replace H := ifB H; rcases H with ⟨c4b0, H⟩ | ⟨c4b0, H⟩
 · obtain rfl := Option.some.inj H
   go_enter Try.func4, Try.ntmps4
   go_wp2_with (first | ((with_reducible refine gate_dst (N := 2) rfl ?_); refine boxE (cs := #[.int .i64 a0_0, .slice A0_1 l0_1.length c0_1]) (t := 24) ?_; intro gb101 hg w5 hbox hb; refine E4b HB.1 hg hbox hb ?_; clear HB; intro HB BK101 GW101 GE101; clear hb hbox hg; obtain ⟨hcz6_0, hcz6_1, hfz6_0, hfz6_1⟩ := cz2 BK101.1) | ((with_reducible refine gate_callee (f := 11) rfl ?_); refine goesM (N := (some 8)) #[.slice A0_1 l0_1.length c0_1, .int .i64 a1] Try.func11 ?_; (with_reducible refine (laws_szIntS.calls _ _ l0_1 a1 t102 _ ?side1 ?side2 A3.1).mono ?_); (case side1 => exact CB (C_below HR0_1.1 HB.1)); (case side2 => exact HC0_1.1); rintro e w' ⟨rfl, ⟨nd, rfl⟩⟩; refine ⟨_, rfl, ?_⟩))
   go_ret
   exact ⟨RF, BL HB.1⟩
 obtain rfl := Option.some.inj H
 go_enter Try.func4, Try.ntmps4
 go_wp2_with (first | ((with_reducible refine gate_dst (N := 2) rfl ?_); refine boxE (cs := #[.int .i64 a0_0, .slice A0_1 l0_1.length c0_1]) (t := 24) ?_; intro gb101 hg w7 hbox hb; refine E4b HB.1 hg hbox hb ?_; clear HB; intro HB BK101 GW101 GE101; clear hb hbox hg; obtain ⟨hcz8_0, hcz8_1, hfz8_0, hfz8_1⟩ := cz2 BK101.1) | ((with_reducible refine gate_callee (f := 11) rfl ?_); refine goesM (N := (some 8)) #[.slice A0_1 l0_1.length c0_1, .int .i64 a1] Try.func11 ?_; (with_reducible refine (laws_szIntS.calls _ _ l0_1 a1 t102 _ ?side1 ?side2 A3.1).mono ?_); (case side1 => exact CB (C_below HR0_1.1 HB.1)); (case side2 => exact HC0_1.1); rintro e w' ⟨rfl, ⟨nd, rfl⟩⟩; refine ⟨_, rfl, ?_⟩))
 go_ret
 exact ⟨RF, BL HB.1⟩
/-! ### spec_l1In: function 12 -/
open Kd
def spec_l1In.f (a0 : Int) (a1 : Int) (a2 : Int) : Option (Bool) := if a0 ≥ a1 then (some (decide (a0 <= a2))) else (some false)
theorem spec_l1In.calls (a0 : Int) (a1 : Int) (a2 : Int) (r : Bool) (w : World) (h : spec_l1In.f a0 a1 a2 = some r) :
 Calls Try.prog 12 #[.int .i64 a0, .int .i64 a1, .int .i64 a2] w fun e w' => e = .returned (.bool r) /\ Drawn0 w w' := by
 have H := h
 clear h
 unfold spec_l1In.f at H
 replace H := ifQ H; rcases H with ⟨c4, H⟩ | ⟨c4, H⟩
 · have c4b0 : decide (a1 <= a0) = true := decide_eq_true c4
   clear c4
   obtain rfl := Option.some.inj H
   go_enter Try.func12, Try.ntmps12
   go_wp2
   go_ret
   exact ⟨RG, DR⟩
 have c4b0 : decide (a1 <= a0) = false := decide_eq_false c4
 clear c4
 obtain rfl := Option.some.inj H
 go_enter Try.func12, Try.ntmps12
 go_wp2
 go_ret
 exact ⟨RG, DR⟩
/-! ### spec_ttInputs: function 20 -/
open Kd
def spec_ttInputs.f (a0 : Int) : Option (Bool) := (spec_l1In.f a0 0 4).bind fun t103 => (some t103)
theorem spec_ttInputs.calls (a0 : Int) (r : Bool) (w : World) (h : spec_ttInputs.f a0 = some r) :
 Calls Try.prog 20 #[.int .i64 a0] w fun e w' => e = .returned (.bool r) /\ Drawn0 w w' := by
 have H := h
 clear h
 unfold spec_ttInputs.f at H
 replace H := bindA H; obtain ⟨t103, A2, H⟩ := H
 obtain rfl := Option.some.inj H
 go_enter Try.func20, Try.ntmps20
 go_wp2_with (first | ((with_reducible refine gate_callee (f := 12) rfl ?_); refine goesM (N := (some 4)) #[.int .i64 a0, .int .i64 0, .int .i64 4] Try.func12 ?_; (with_reducible refine (spec_l1In.calls a0 0 4 t103 _ A2.1).mono ?_); rintro e w' ⟨rfl, ⟨nd, rfl⟩⟩; refine ⟨_, rfl, ?_⟩))
 go_ret
 exact ⟨RG, DR⟩

/-! ### spec_l1All: function 21 -/
open Kd
def spec_l1All.l0 : Nat -> Int -> Int -> List Int -> Int -> Int -> Option (Bool)
 | 0, _, _, _, _, _ => none
 | k + 1, x1, x2, x9, x10, x11 => if x11 < x10 then (if 0 <= x11 then (if x11 < (x9.length : Int) then ((spec_l1In.f (rd x9 x11) x1 x2).bind fun t105 => (if t105 = true then (spec_l1All.l0 k x1 x2 x9 x10 (wrap64 (x11 + 1))) else (some false))) else (none)) else (none)) else (some true)
def spec_l1All.f (k : Nat) (l0 : List Int) (a1 : Int) (a2 : Int) : Option (Bool) := spec_l1All.l0 k a1 a2 l0 (l0.length : Int) 0
theorem spec_l1All.mono_l : ∀ k, (∀ y0 y1 y2 y3 y4, LeO (spec_l1All.l0 k y0 y1 y2 y3 y4) (spec_l1All.l0 (k + 1) y0 y1 y2 y3 y4))
 | 0 => fun _ _ _ _ _ r h => by simp [spec_l1All.l0] at h
 | k + 1 => by
  have ih0 := spec_l1All.mono_l k
  intros
  first | unfold spec_l1All.l0
  exact LM1 ih0
theorem spec_l1All.mono : ∀ a0 a1 a2 k, LeO (spec_l1All.f k a0 a1 a2) (spec_l1All.f (k + 1) a0 a1 a2) := by
 intro a0 a1 a2 k
 have ih0 := spec_l1All.mono_l k
 unfold spec_l1All.f
 exact LM1 ih0
theorem spec_l1All.calls (k : Nat) (A0 : Option Addr) (c0 : Nat) (l0 : List Int) (a1 : Int) (a2 : Int) (r : Bool) (w : World) (hr0 : Kd.C (Kd.int .i64) w A0 l0.length l0) (hc0 : l0.length <= c0) (h : spec_l1All.f k l0 a1 a2 = some r) :
 Calls Try.prog 21 #[.slice A0 l0.length c0, .int .i64 a1, .int .i64 a2] w fun e w' => e = .returned (.bool r) /\ Drawn0 w w' := by
 have HR0 := Aside0.mk hr0
 have HC0 := Aside0.mk hc0
 clear hr0 hc0
 have H := h
 clear h
 unfold spec_l1All.f at H
 have H' := Aside0.mk H
 clear H
 go_enter Try.func21, Try.ntmps21
 go_wp2
 go_loopg [11] k (fun kq v11 w' => ∃ (x11_1 : Int), v11 = .int .i64 x11_1 /\ Aside0 (spec_l1All.l0 kq a1 a2 l0 (l0.length : Int) x11_1 = some r) /\ Aside0 (kq <= k) /\ Drawn0 w w')
 case atStart => exact ⟨(0), RG, H', ⟨Nat.le_refl _⟩, DR⟩
 clear H'
 obtain ⟨x11_1, rfl, HA, HK1, ⟨m1, rfl⟩⟩ := hrel
 cases gk with
 | zero => exact absurd HA.1 (by simp [spec_l1All.l0])
 | succ k1 => ?_
 have H := HA.1
 clear HA
 simp only [spec_l1All.l0] at H
 replace H := ifB H; rcases H with ⟨c4b0, H⟩ | ⟨c4b0, H⟩
 · replace H := ifN H; obtain ⟨c5b0, H⟩ := H
   replace H := ifN H; obtain ⟨c6b0, H⟩ := H
   replace H := bindA H; obtain ⟨t105, A7, H⟩ := H
   replace H := ifX H; rcases H with ⟨rfl, H⟩ | ⟨rfl, H⟩
   · have H' := Aside0.mk H
     clear H
     have p104 : 0 <= (x11_1 : Int) := OD
     have q104 : x11_1 < (l0.length : Int) := OD
     obtain ⟨ad104, e104, hx104_0⟩ := Kd.at_int HR0.1 x11_1 p104 q104
     cases e104
     replace p104 := eq_true p104
     replace q104 := eq_true q104
     go_wp2_with (first | ((with_reducible refine gate_callee (f := 12) rfl ?_); refine goesM (N := (some 18)) #[.int .i64 (rd l0 x11_1), .int .i64 a1, .int .i64 a2] Try.func12 ?_; (with_reducible refine (spec_l1In.calls (rd l0 x11_1) a1 a2 true _ A7.1).mono ?_); rintro e w' ⟨rfl, ⟨nd, rfl⟩⟩; refine ⟨_, rfl, ?_⟩))
     go_roundg k1
     case measure => have := HK1.1; omega
     case rel => exact ⟨(wrap64 (x11_1 + 1)), RG, H', ⟨by have := HK1.1; omega⟩, DR⟩
   obtain rfl := Option.some.inj H
   have p104 : 0 <= (x11_1 : Int) := OD
   have q104 : x11_1 < (l0.length : Int) := OD
   obtain ⟨ad104, e104, hx104_0⟩ := Kd.at_int HR0.1 x11_1 p104 q104
   cases e104
   replace p104 := eq_true p104
   replace q104 := eq_true q104
   go_wp2_with (first | ((with_reducible refine gate_callee (f := 12) rfl ?_); refine goesM (N := (some 18)) #[.int .i64 (rd l0 x11_1), .int .i64 a1, .int .i64 a2] Try.func12 ?_; (with_reducible refine (spec_l1In.calls (rd l0 x11_1) a1 a2 false _ A7.1).mono ?_); rintro e w' ⟨rfl, ⟨nd, rfl⟩⟩; refine ⟨_, rfl, ?_⟩))
   go_ret
   exact ⟨RG, DR⟩
 obtain rfl := Option.some.inj H
 go_wp2
 go_ret
 exact ⟨RG, DR⟩
/-! ### spec_ttGood: function 13 -/
open Kd
def spec_ttGood.f (k : Nat) (a0_0 : Int) (l0_1 : List Int) : Option (Bool) := (spec_ttInputs.f a0_0).bind fun t107 => (if t107 = true then (if 0 <= (IntKind.u64.wrap (a0_0)) then (if (l0_1.length : Int) = (shl .i64 1 (IntKind.u64.wrap (a0_0))) then ((spec_l1All.f k l0_1 0 1).bind fun t108 => (some t108)) else (some false)) else (none)) else (some false))
theorem spec_ttGood.mono : ∀ a0 a1 k, LeO (spec_ttGood.f k a0 a1) (spec_ttGood.f (k + 1) a0 a1) := by
 intro a0 a1 k
 unfold spec_ttGood.f
 repeat' first
  | (with_reducible exact spec_l1All.mono _ _ _ _)
  | (with_reducible exact LeO.refl _)
  | (with_reducible exact LeO.none _)
  | (with_reducible refine LeO.ite ?_ ?_)
  | (with_reducible refine LeO.bind ?_ (fun _ => ?_))
  | exact spec_l1All.mono _ _ _ _
  | exact LeO.none _
  | refine LeO.ite ?_ ?_
  | refine LeO.bind ?_ (fun _ => ?_)
theorem spec_ttGood.calls (k : Nat) (a0_0 : Int) (A0_1 : Option Addr) (c0_1 : Nat) (l0_1 : List Int) (r : Bool) (w : World) (hr0_1 : Kd.C (Kd.int .i64) w A0_1 l0_1.length l0_1) (hc0_1 : l0_1.length <= c0_1) (h : spec_ttGood.f k a0_0 l0_1 = some r) :
 Calls Try.prog 13 #[.agg #[.int .i64 a0_0, .slice A0_1 l0_1.length c0_1]] w fun e w' => e = .returned (.bool r) /\ Below w.heap.size w w' := by
 have hu26 := Try.underlying26
 have HR0_1 := Aside0.mk hr0_1
 have HC0_1 := Aside0.mk hc0_1
 clear hr0_1 hc0_1
 have HB := Aside0.mk (Below.refl w.heap.size w)
 have H := h
 clear h
 unfold spec_ttGood.f at H
 replace H := bindA H; obtain ⟨t107, A2, H⟩ := H
 replace H := ifX H; rcases H with ⟨rfl, H⟩ | ⟨rfl, H⟩
 · obtain ⟨ji4, hji4⟩ : ∃ j_ : Int, (IntKind.u64.wrap (a0_0)) = j_ := ⟨_, rfl⟩
   replace H : (if 0 <= (ji4) then (if (l0_1.length : Int) = (shl .i64 1 (ji4)) then ((spec_l1All.f k l0_1 0 1).bind fun t108 => (some t108)) else (some false)) else (none)) = some r := by first | (rw [hji4] at H; exact H) | (simp only [hji4] at H ⊢; exact H)
   (try rw [hji4] at A2)
   replace H := ifP H; obtain ⟨c5, H⟩ := H
   have c5b0 := eq_true c5
   have c5b1 := decide_eq_true c5
   clear c5
   obtain ⟨ji6, hji6⟩ : ∃ j_ : Int, (shl .i64 1 (ji4)) = j_ := ⟨_, rfl⟩
   replace H : (if (l0_1.length : Int) = (ji6) then ((spec_l1All.f k l0_1 0 1).bind fun t108 => (some t108)) else (some false)) = some r := by first | (rw [hji6] at H; exact H) | (simp only [hji6] at H ⊢; exact H)
   (try rw [hji6] at A2)
   have hji6_ : (IntKind.i64.wrap (1 * 2 ^ min (ji4).toNat 64)) = ji6 := hji6
   have hji6z : (ji4) <= 64 -> (IntKind.i64.wrap (1 * 2 ^ (ji4).toNat)) = ji6 := shl_small hji6
   have hji6u : (IntKind.i64.wrap (2 ^ min (ji4).toNat 64)) = ji6 := by have h_ := hji6_; rw [Int.one_mul] at h_; exact h_
   have hji6v : (ji4) <= 64 -> (IntKind.i64.wrap (2 ^ (ji4).toNat)) = ji6 := fun hle_ => by have h_ := hji6z hle_; rw [Int.one_mul] at h_; exact h_
   have hji6y : (wrap64 (1 * 2 ^ min (ji4).toNat 64)) = ji6 := (i64_w _).symm.trans hji6_
   have hji6x : (ji4) <= 64 -> (wrap64 (1 * 2 ^ (ji4).toNat)) = ji6 := fun h_ => (i64_w _).symm.trans (hji6z h_)
   replace H := ifQ H; rcases H with ⟨c7, H⟩ | ⟨c7, H⟩
   · have c7b0 := beq_iff_eq.mpr c7
     have c7b1 := bne_eq_false_iff_eq.mpr c7
     clear c7
     replace H := bindA H; obtain ⟨t108, A8, H⟩ := H
     obtain rfl := Option.some.inj H
     go_enter Try.func13, Try.ntmps13
     go_wp2_with (first | ((with_reducible refine gate_dst (N := 1) rfl ?_); (try (refine gate_guard (by rfl) ?_; dsimp only)); refine boxE (cs := #[.int .i64 a0_0, .slice A0_1 l0_1.length c0_1]) (t := 26) ?_; intro gb106 hg w9 hbox hb; refine E4b HB.1 hg hbox hb ?_; clear HB; intro HB BK106 GW106 GE106; clear hb hbox hg; obtain ⟨hcz10_0, hcz10_1, hfz10_0, hfz10_1⟩ := cz2 BK106.1) | ((with_reducible refine gate_callee (f := 20) rfl ?_); refine goesM (N := (some 5)) #[.int .i64 a0_0] Try.func20 ?_; (with_reducible refine (spec_ttInputs.calls a0_0 true _ A2.1).mono ?_); rintro e w' ⟨rfl, ⟨nd, rfl⟩⟩; refine ⟨_, rfl, ?_⟩) | (go_at_call 21; (with_reducible refine (spec_l1All.calls k _ _ l0_1 0 1 t108 _ ?side1 ?side2 A8.1).mono ?_); (case side1 => repeat (first | exact (C_below HR0_1.1 (BL HB.1)) | (with_reducible refine C_alloc ?_ _) | (with_reducible refine C_drewN ?_ _) | (with_reducible refine C_drew ?_))); (case side2 => exact HC0_1.1); rintro e w' ⟨rfl, ⟨nd, rfl⟩⟩))
     go_ret
     exact ⟨by first | rfl | (simp [errW_none, errW_some] <;> rfl) | (simp only [<- hji4, <- hji6]; first | rfl | (simp [errW_none, errW_some] <;> rfl)) | (simp [*, errW_none, errW_some] <;> rfl), BL HB.1⟩
   have c7b0 := beq_eq_false_iff_ne.mpr c7
   have c7b1 := bne_iff_ne.mpr c7
   obtain rfl := Option.some.inj H
   go_enter Try.func13, Try.ntmps13
   go_wp2_with (first | ((with_reducible refine gate_dst (N := 1) rfl ?_); (try (refine gate_guard (by rfl) ?_; dsimp only)); refine boxE (cs := #[.int .i64 a0_0, .slice A0_1 l0_1.length c0_1]) (t := 26) ?_; intro gb106 hg w11 hbox hb; refine E4b HB.1 hg hbox hb ?_; clear HB; intro HB BK106 GW106 GE106; clear hb hbox hg; obtain ⟨hcz12_0, hcz12_1, hfz12_0, hfz12_1⟩ := cz2 BK106.1) | ((with_reducible refine gate_callee (f := 20) rfl ?_); refine goesM (N := (some 5)) #[.int .i64 a0_0] Try.func20 ?_; (with_reducible refine (spec_ttInputs.calls a0_0 true _ A2.1).mono ?_); rintro e w' ⟨rfl, ⟨nd, rfl⟩⟩; refine ⟨_, rfl, ?_⟩))
   go_ret
   exact ⟨by first | rfl | (simp [errW_none, errW_some] <;> rfl) | (simp only [<- hji4, <- hji6]; first | rfl | (simp [errW_none, errW_some] <;> rfl)) | (simp [*, errW_none, errW_some] <;> rfl), BL HB.1⟩
 obtain rfl := Option.some.inj H
 go_enter Try.func13, Try.ntmps13
 go_wp2_with (first | ((with_reducible refine gate_dst (N := 1) rfl ?_); (try (refine gate_guard (by rfl) ?_; dsimp only)); refine boxE (cs := #[.int .i64 a0_0, .slice A0_1 l0_1.length c0_1]) (t := 26) ?_; intro gb106 hg w13 hbox hb; refine E4b HB.1 hg hbox hb ?_; clear HB; intro HB BK106 GW106 GE106; clear hb hbox hg; obtain ⟨hcz14_0, hcz14_1, hfz14_0, hfz14_1⟩ := cz2 BK106.1) | ((with_reducible refine gate_callee (f := 20) rfl ?_); refine goesM (N := (some 5)) #[.int .i64 a0_0] Try.func20 ?_; (with_reducible refine (spec_ttInputs.calls a0_0 false _ A2.1).mono ?_); rintro e w' ⟨rfl, ⟨nd, rfl⟩⟩; refine ⟨_, rfl, ?_⟩))
 go_ret
 exact ⟨RF, BL HB.1⟩

/-! ### spec_l1Most: function 22 -/
open Kd
def spec_l1Most.f (a0 : Int) (a1 : Int) : Option (Int) := if a0 > a1 then (some a0) else (some a1)
theorem spec_l1Most.calls (a0 : Int) (a1 : Int) (r : Int) (w : World) (h : spec_l1Most.f a0 a1 = some r) :
 Calls Try.prog 22 #[.int .i64 a0, .int .i64 a1] w fun e w' => e = .returned (.int .i64 r) /\ Drawn0 w w' := by
 have H := h
 clear h
 unfold spec_l1Most.f at H
 replace H := ifQ H; rcases H with ⟨c3, H⟩ | ⟨c3, H⟩
 · have c3b0 : decide (a1 < a0) = true := decide_eq_true c3
   clear c3
   obtain rfl := Option.some.inj H
   go_enter Try.func22, Try.ntmps22
   go_wp2
   go_ret
   exact ⟨RG, DR⟩
 have c3b0 : decide (a1 < a0) = false := decide_eq_false c3
 clear c3
 obtain rfl := Option.some.inj H
 go_enter Try.func22, Try.ntmps22
 go_wp2
 go_ret
 exact ⟨RG, DR⟩
/-! ### spec_ttCombine: function 14 -/
open Kd
def spec_ttCombine.f (a0 : Int) (a1 : Int) (a2 : Int) : Option (Int) := if a0 = 1 then (some (wrap64 (a1 * a2))) else (if a0 = 2 then ((spec_l1Most.f a1 a2).bind fun t109 => (some t109)) else (if a0 = 3 then (some (Int.tmod (wrap64 (a1 + a2)) 2)) else ((spec_l1Most.f (wrap64 (1 - a1)) a2).bind fun t110 => (some t110))))
theorem spec_ttCombine.calls (a0 : Int) (a1 : Int) (a2 : Int) (r : Int) (w : World) (h : spec_ttCombine.f a0 a1 a2 = some r) :
 Calls Try.prog 14 #[.int .i64 a0, .int .i64 a1, .int .i64 a2] w fun e w' => e = .returned (.int .i64 r) /\ Drawn0 w w' := by
 have H := h
 clear h
 unfold spec_ttCombine.f at H
 replace H := ifQ H; rcases H with ⟨c4, H⟩ | ⟨c4, H⟩
 · have c4b0 := beq_iff_eq.mpr c4
   have c4b1 := bne_eq_false_iff_eq.mpr c4
   clear c4
   obtain rfl := Option.some.inj H
   go_enter Try.func14, Try.ntmps14
   go_wp2
   go_ret
   exact ⟨RG, DR⟩
 have c4b0 := beq_eq_false_iff_ne.mpr c4
 have c4b1 := bne_iff_ne.mpr c4
 replace H := ifQ H; rcases H with ⟨c5, H⟩ | ⟨c5, H⟩
 · have c5b0 := beq_iff_eq.mpr c5
   have c5b1 := bne_eq_false_iff_eq.mpr c5
   clear c5
   replace H := bindA H; obtain ⟨t109, A6, H⟩ := H
   obtain rfl := Option.some.inj H
   go_enter Try.func14, Try.ntmps14
   go_wp2_with (first | ((with_reducible refine gate_callee (f := 22) rfl ?_); refine goesM (N := (some 17)) #[.int .i64 a1, .int .i64 a2] Try.func22 ?_; (with_reducible refine (spec_l1Most.calls a1 a2 t109 _ A6.1).mono ?_); rintro e w' ⟨rfl, ⟨nd, rfl⟩⟩; refine ⟨_, rfl, ?_⟩))
   go_ret
   exact ⟨RG, DR⟩
 have c5b0 := beq_eq_false_iff_ne.mpr c5
 have c5b1 := bne_iff_ne.mpr c5
 replace H := ifQ H; rcases H with ⟨c7, H⟩ | ⟨c7, H⟩
 · have c7b0 := beq_iff_eq.mpr c7
   have c7b1 := bne_eq_false_iff_eq.mpr c7
   clear c7
   obtain rfl := Option.some.inj H
   go_enter Try.func14, Try.ntmps14
   go_wp2
   go_ret
   exact ⟨RG, DR⟩
 have c7b0 := beq_eq_false_iff_ne.mpr c7
 have c7b1 := bne_iff_ne.mpr c7
 replace H := bindA H; obtain ⟨t110, A8, H⟩ := H
 obtain rfl := Option.some.inj H
 go_enter Try.func14, Try.ntmps14
 go_wp2_with (first | ((with_reducible refine gate_callee (f := 22) rfl ?_); refine goesM (N := (some 27)) #[.int .i64 (wrap64 (1 - a1)), .int .i64 a2] Try.func22 ?_; (with_reducible refine (spec_l1Most.calls (wrap64 (1 - a1)) a2 t110 _ A8.1).mono ?_); rintro e w' ⟨rfl, ⟨nd, rfl⟩⟩; refine ⟨_, rfl, ?_⟩))
 go_ret
 exact ⟨RG, DR⟩
/-! ### spec_CombineTables: function 5 -/
open Kd
mutual
def spec_CombineTables.j0 : Nat -> Int -> Bool -> Int -> List Int -> Int -> List Int -> Option (Int × List Int × Bool)
 | 0, _, _, _, _, _, _ => none
 | k + 1, x0, x30, x112000, x112001, x113000, x113001 => if x30 = true then (some (0, ([] : List Int), false)) else (spec_CombineTables.l0 k x0 x112001 (x112001.length : Int) 0 x113000 x113001 x112000 ([] : List Int))
def spec_CombineTables.l0 : Nat -> Int -> List Int -> Int -> Int -> Int -> List Int -> Int -> List Int -> Option (Int × List Int × Bool)
 | 0, _, _, _, _, _, _, _, _ => none
 | k + 1, x0, x36, x37, x38, x113000, x113001, x118000, x118001 => if x38 < x37 then (if 0 <= x38 then (if x38 < (x36.length : Int) then (if x38 < (x113001.length : Int) then ((spec_ttCombine.f x0 (rd x36 x38) (rd x113001 x38)).bind fun t120 => (if x118001.length < 17592186044416 then (spec_CombineTables.l0 k x0 x36 x37 (wrap64 (x38 + 1)) x113000 x113001 x118000 (x118001 ++ [t120])) else (none))) else (none)) else (none)) else (none)) else (some (x118000, x118001, true))
end
def spec_CombineTables.f (k : Nat) (a0 : Int) (a1_0 : Int) (l1_1 : List Int) (a2_0 : Int) (l2_1 : List Int) : Option (Int × List Int × Bool) := (spec_l1In.f a0 1 4).bind fun t114 => (if t114 = true then ((spec_ttGood.f k a1_0 l1_1).bind fun t115 => (if t115 = true then ((spec_ttGood.f k a2_0 l2_1).bind fun t116 => (if t116 = true then (spec_CombineTables.j0 k a0 (a1_0 != a2_0) a1_0 l1_1 a2_0 l2_1) else (spec_CombineTables.j0 k a0 true a1_0 l1_1 a2_0 l2_1))) else (spec_CombineTables.j0 k a0 true a1_0 l1_1 a2_0 l2_1))) else (spec_CombineTables.j0 k a0 true a1_0 l1_1 a2_0 l2_1))
theorem spec_CombineTables.mono_l : ∀ k, (∀ y0 y1 y2 y3 y4 y5, LeO (spec_CombineTables.j0 k y0 y1 y2 y3 y4 y5) (spec_CombineTables.j0 (k + 1) y0 y1 y2 y3 y4 y5)) /\ (∀ y0 y1 y2 y3 y4 y5 y6 y7, LeO (spec_CombineTables.l0 k y0 y1 y2 y3 y4 y5 y6 y7) (spec_CombineTables.l0 (k + 1) y0 y1 y2 y3 y4 y5 y6 y7))
 | 0 => by refine ⟨?_, ?_⟩ <;> (intros; intro r h; first | (simp [spec_CombineTables.j0] at h; done) | (simp [spec_CombineTables.l0] at h; done))
 | k + 1 => by
  obtain ⟨ih0, ih1⟩ := spec_CombineTables.mono_l k
  refine ⟨?_, ?_⟩ <;> (
   intros
   first | unfold spec_CombineTables.j0 | unfold spec_CombineTables.l0
   exact LM3 ih0 ih1 spec_ttGood.mono)
theorem spec_CombineTables.mono : ∀ a0 a1 a2 a3 a4 k, LeO (spec_CombineTables.f k a0 a1 a2 a3 a4) (spec_CombineTables.f (k + 1) a0 a1 a2 a3 a4) := by
 intro a0 a1 a2 a3 a4 k
 obtain ⟨ih0, ih1⟩ := spec_CombineTables.mono_l k
 unfold spec_CombineTables.f
 exact LM3 ih0 ih1 spec_ttGood.mono
def spec_CombineTables.T7 : Bool × List (List Nat × List Nat) := (true, [([], []), ([0], [0]), ([], []), ([], []), ([], []), ([4], [4]), ([], []), ([5, 6], [5, 6]), ([7], [7]), ([2, 3, 8], [2, 3, 8]), ([9], [9]), ([1, 10, 9], [1, 10]), ([0, 1, 2, 3, 4, 5, 6, 7, 8, 9, 10, 11], []), ([12, 11, 11, 0, 1, 2, 3, 4, 5, 6, 7, 8, 9, 10, 11], [11, 12])])
def spec_CombineTables.B7 : List Nat := [0, 1, 0, 0, 0, 16, 0, 112, 240, 508, 1020, 2047, 4095, 8191]
theorem spec_CombineTables.tab7 : rtab .any (opsOf Try.f5 7) = spec_CombineTables.T7 := by kernel_rfl
theorem spec_CombineTables.bits7 : waitsOk spec_CombineTables.T7.2 spec_CombineTables.B7 = true := by kernel_rfl
theorem spec_CombineTables.calls (k : Nat) (a0 : Int) (a1_0 : Int) (A1_1 : Option Addr) (c1_1 : Nat) (l1_1 : List Int) (a2_0 : Int) (A2_1 : Option Addr) (c2_1 : Nat) (l2_1 : List Int) (r1 : Int) (r2 : List Int) (r3 : Bool) (w : World) (hr1_1 : Kd.C (Kd.int .i64) w A1_1 l1_1.length l1_1) (hc1_1 : l1_1.length <= c1_1) (hr2_1 : Kd.C (Kd.int .i64) w A2_1 l2_1.length l2_1) (hc2_1 : l2_1.length <= c2_1) (h : spec_CombineTables.f k a0 a1_0 l1_1 a2_0 l2_1 = some (r1, r2, r3)) :
 Calls Try.prog 5 #[.int .i64 a0, .agg #[.int .i64 a1_0, .slice A1_1 l1_1.length c1_1], .agg #[.int .i64 a2_0, .slice A2_1 l2_1.length c2_1]] w fun e w' => ∃ v1_ : Value, e = .returned (.tuple #[.agg #[.int .i64 r1, v1_], .bool r3]) /\ Kd.R (Kd.int .i64) 3 w' w.heap.size (fun _ => True) v1_ r2 /\ Below w.heap.size w w' := by
 have hu26 := Try.underlying26
 have HR1_1 := Aside0.mk hr1_1
 have HC1_1 := Aside0.mk hc1_1
 clear hr1_1 hc1_1
 have HR2_1 := Aside0.mk hr2_1
 have HC2_1 := Aside0.mk hc2_1
 clear hr2_1 hc2_1
 have HB := Aside0.mk (Below.refl w.heap.size w)
 have H := h
 clear h
 unfold spec_CombineTables.f at H
 have HC4 := Aside0.mk H
 clear H
 go_enter Try.func5, Try.ntmps5
 go_upto_region 1 with (first | ((with_reducible refine gate_dst (N := 4) rfl ?_); refine boxE (cs := #[.int .i64 a1_0, .slice A1_1 l1_1.length c1_1]) (t := 26) ?_; intro gb111 hg w5 hbox hb; refine E4b HB.1 hg hbox hb ?_; clear HB; intro HB BK111 GW111 GE111; clear hb hbox hg) | ((with_reducible refine gate_dst (N := 5) rfl ?_); refine boxE (cs := #[.int .i64 a2_0, .slice A2_1 l2_1.length c2_1]) (t := 26) ?_; intro gb112 hg w6 hbox hb; refine E7 (bB BK111.1 hb) (bS HB.1 hb) (hbox) (gX HB.1 hg) (gX HB.1 hg) (nB BK111.1 hg) (nC BK111.1 hg) ?_; clear BK111 HB; intro BK111 HB BK112 GW112 GE112 NB111_112 NB112_111; clear hb hbox hg) | ((with_reducible refine gate_dst (N := 6) rfl ?_); refine boxE (cs := #[.int .i64 0, .slice none 0 0]) (t := 26) ?_; intro gb113 hg w7 hbox hb; refine E10 (bB BK111.1 hb) (bB BK112.1 hb) (bS HB.1 hb) (hbox) (gX HB.1 hg) (gX HB.1 hg) (nB BK111.1 hg) (nC BK111.1 hg) (nB BK112.1 hg) (nC BK112.1 hg) ?_; clear BK111 BK112 HB; intro BK111 BK112 HB BK113 GW113 GE113 NB111_113 NB113_111 NB112_113 NB113_112; clear hb hbox hg))
 (try simp only [Act.put, List.setIfInBounds_toArray, List.set_cons_zero, List.set_cons_succ])
 go_cut [30] (fun v30 wc => ∃ (kq : Nat) (x30_3 : Bool), v30 = .bool x30_3 /\ Aside0 (spec_CombineTables.j0 kq a0 x30_3 a1_0 l1_1 a2_0 l2_1 = some (r1, r2, r3)) /\ Aside0 (kq <= k) /\ Aside0 (wc.heap[gb111]? = some (.cells #[.int .i64 a1_0, (.slice A1_1 l1_1.length c1_1)] 26 (0, 0))) /\ Aside0 (wc.heap[gb112]? = some (.cells #[.int .i64 a2_0, (.slice A2_1 l2_1.length c2_1)] 26 (0, 0))) /\ Aside0 (wc.heap[gb113]? = some (.cells #[.int .i64 0, (.slice none 0 0)] 26 (0, 0))) /\ Aside0 (Below w.heap.size w wc))
 case first =>
  have H := HC4.1
  clear HC4
  replace H := bindA H; obtain ⟨t114, A8, H⟩ := H
  replace H := ifX H; rcases H with ⟨rfl, H⟩ | ⟨rfl, H⟩
  · replace H := bindA H; obtain ⟨t115, A10, H⟩ := H
    replace H := ifX H; rcases H with ⟨rfl, H⟩ | ⟨rfl, H⟩
    · replace H := bindA H; obtain ⟨t116, A12, H⟩ := H
      replace H := ifX H; rcases H with ⟨rfl, H⟩ | ⟨rfl, H⟩
      · have H' := Aside0.mk H
        clear H
        go_wp2_with (first | ((with_reducible refine gate_callee (f := 12) rfl ?_); refine goesM (N := (some 12)) #[.int .i64 a0, .int .i64 1, .int .i64 4] Try.func12 ?_; (with_reducible refine (spec_l1In.calls a0 1 4 true _ A8.1).mono ?_); rintro e w' ⟨rfl, ⟨nd, rfl⟩⟩; refine ⟨_, rfl, ?_⟩; have hnb14 := NB111_112.1; have hnc14 := NB112_111.1; have hnb15 := NB111_113.1; have hnc15 := NB113_111.1; obtain ⟨hcz16_0, hcz16_1, hfz16_0, hfz16_1⟩ := cz2 BK111.1) | (go_at_call 13; (with_reducible refine (spec_ttGood.calls k a1_0 _ _ l1_1 true _ ?side1 ?side2 A10.1).mono ?_); (case side1 => repeat (first | exact (C_below HR1_1.1 (BL HB.1)) | (with_reducible refine C_alloc ?_ _) | (with_reducible refine C_drewN ?_ _) | (with_reducible refine C_drew ?_))); (case side2 => exact HC1_1.1); rintro e w17 ⟨rfl, hb⟩; refine E4 (bB BK111.1 hb) (bB BK112.1 hb) (bB BK113.1 hb) (bS HB.1 hb) ?_; clear BK111 BK112 BK113 HB; intro BK111 BK112 BK113 HB; (try clear hb); have hnb18 := NB112_113.1; have hnc18 := NB113_112.1; obtain ⟨hcz19_0, hcz19_1, hfz19_0, hfz19_1⟩ := cz2 BK112.1) | (go_at_call 13; (with_reducible refine (spec_ttGood.calls k a2_0 _ _ l2_1 true _ ?side1 ?side2 A12.1).mono ?_); (case side1 => exact CB (C_below HR2_1.1 HB.1)); (case side2 => exact HC2_1.1); rintro e w20 ⟨rfl, hb⟩; refine E4 (bB BK111.1 hb) (bB BK112.1 hb) (bB BK113.1 hb) (bS HB.1 hb) ?_; clear BK111 BK112 BK113 HB; intro BK111 BK112 BK113 HB; (try clear hb); obtain ⟨hcz21_0, hcz21_1, hfz21_0, hfz21_1⟩ := cz2 BK111.1; obtain ⟨hcz22_0, hcz22_1, hfz22_0, hfz22_1⟩ := cz2 BK112.1))
        go_meet
        case rel => exact ⟨_, ((a1_0 != a2_0)), RG, H', ⟨by first | omega | exact Nat.le_refl _⟩, ⟨PB BK111.1⟩, ⟨PB BK112.1⟩, ⟨PB BK113.1⟩, ⟨BL HB.1⟩⟩
      have H' := Aside0.mk H
      clear H
      go_wp2_with (first | ((with_reducible refine gate_callee (f := 12) rfl ?_); refine goesM (N := (some 12)) #[.int .i64 a0, .int .i64 1, .int .i64 4] Try.func12 ?_; (with_reducible refine (spec_l1In.calls a0 1 4 true _ A8.1).mono ?_); rintro e w' ⟨rfl, ⟨nd, rfl⟩⟩; refine ⟨_, rfl, ?_⟩; have hnb23 := NB111_112.1; have hnc23 := NB112_111.1; have hnb24 := NB111_113.1; have hnc24 := NB113_111.1; obtain ⟨hcz25_0, hcz25_1, hfz25_0, hfz25_1⟩ := cz2 BK111.1) | (go_at_call 13; (with_reducible refine (spec_ttGood.calls k a1_0 _ _ l1_1 true _ ?side1 ?side2 A10.1).mono ?_); (case side1 => repeat (first | exact (C_below HR1_1.1 (BL HB.1)) | (with_reducible refine C_alloc ?_ _) | (with_reducible refine C_drewN ?_ _) | (with_reducible refine C_drew ?_))); (case side2 => exact HC1_1.1); rintro e w26 ⟨rfl, hb⟩; refine E4 (bB BK111.1 hb) (bB BK112.1 hb) (bB BK113.1 hb) (bS HB.1 hb) ?_; clear BK111 BK112 BK113 HB; intro BK111 BK112 BK113 HB; (try clear hb); have hnb27 := NB112_113.1; have hnc27 := NB113_112.1; obtain ⟨hcz28_0, hcz28_1, hfz28_0, hfz28_1⟩ := cz2 BK112.1) | (go_at_call 13; (with_reducible refine (spec_ttGood.calls k a2_0 _ _ l2_1 false _ ?side1 ?side2 A12.1).mono ?_); (case side1 => exact CB (C_below HR2_1.1 HB.1)); (case side2 => exact HC2_1.1); rintro e w29 ⟨rfl, hb⟩; refine E4 (bB BK111.1 hb) (bB BK112.1 hb) (bB BK113.1 hb) (bS HB.1 hb) ?_; clear BK111 BK112 BK113 HB; intro BK111 BK112 BK113 HB; (try clear hb)))
      go_meet
      case rel => exact ⟨_, (true), RG, H', ⟨by first | omega | exact Nat.le_refl _⟩, ⟨PB BK111.1⟩, ⟨PB BK112.1⟩, ⟨PB BK113.1⟩, ⟨BL HB.1⟩⟩
    have H' := Aside0.mk H
    clear H
    go_wp2_with (first | ((with_reducible refine gate_callee (f := 12) rfl ?_); refine goesM (N := (some 12)) #[.int .i64 a0, .int .i64 1, .int .i64 4] Try.func12 ?_; (with_reducible refine (spec_l1In.calls a0 1 4 true _ A8.1).mono ?_); rintro e w' ⟨rfl, ⟨nd, rfl⟩⟩; refine ⟨_, rfl, ?_⟩; have hnb30 := NB111_112.1; have hnc30 := NB112_111.1; have hnb31 := NB111_113.1; have hnc31 := NB113_111.1; obtain ⟨hcz32_0, hcz32_1, hfz32_0, hfz32_1⟩ := cz2 BK111.1) | (go_at_call 13; (with_reducible refine (spec_ttGood.calls k a1_0 _ _ l1_1 false _ ?side1 ?side2 A10.1).mono ?_); (case side1 => repeat (first | exact (C_below HR1_1.1 (BL HB.1)) | (with_reducible refine C_alloc ?_ _) | (with_reducible refine C_drewN ?_ _) | (with_reducible refine C_drew ?_))); (case side2 => exact HC1_1.1); rintro e w33 ⟨rfl, hb⟩; refine E4 (bB BK111.1 hb) (bB BK112.1 hb) (bB BK113.1 hb) (bS HB.1 hb) ?_; clear BK111 BK112 BK113 HB; intro BK111 BK112 BK113 HB; (try clear hb)))
    go_meet
    case rel => exact ⟨_, (true), RG, H', ⟨by first | omega | exact Nat.le_refl _⟩, ⟨PB BK111.1⟩, ⟨PB BK112.1⟩, ⟨PB BK113.1⟩, ⟨BL HB.1⟩⟩
  have H' := Aside0.mk H
  clear H
  go_wp2_with (first | ((with_reducible refine gate_callee (f := 12) rfl ?_); refine goesM (N := (some 12)) #[.int .i64 a0, .int .i64 1, .int .i64 4] Try.func12 ?_; (with_reducible refine (spec_l1In.calls a0 1 4 false _ A8.1).mono ?_); rintro e w' ⟨rfl, ⟨nd, rfl⟩⟩; refine ⟨_, rfl, ?_⟩))
  go_meet
  case rel => exact ⟨_, (true), RG, H', ⟨by first | omega | exact Nat.le_refl _⟩, ⟨PB BK111.1⟩, ⟨PB BK112.1⟩, ⟨PB BK113.1⟩, ⟨BL HB.1⟩⟩
 clear HC4
 obtain ⟨kq, x30_3, rfl, HA, HJ3, BK111, BK112, BK113, HB⟩ := hcut
 cases kq with
 | zero => exact absurd HA.1 (by simp [spec_CombineTables.j0])
 | succ kj3 => ?_
 have H := HA.1
 clear HA
 simp only [spec_CombineTables.j0] at H
 replace H := ifX H; rcases H with ⟨rfl, H⟩ | ⟨rfl, H⟩
 · simp only [Option.some.injEq, Prod.mk.injEq] at H
   obtain ⟨rfl, rfl, rfl⟩ := H
   have hnb35 := NB113_111.1
   have hnc35 := NB111_113.1
   have hnb36 := NB113_112.1
   have hnc36 := NB112_113.1
   obtain ⟨hcz37_0, hcz37_1, hfz37_0, hfz37_1⟩ := cz2 BK113.1
   go_wp2
   refine bodyPost_ret (results_ct rfl _ _ gb113 26 #[.int .i64 0, .slice none 0 0] (0, 0) _ rfl (PF0 BK113.1) Try.underlying26 rfl (by kernel_rfl)) rfl ?_
   exact ⟨_, RF, by first | exact R_nil _ _ _ _ _ | exact N_nil _ _ _ _ _ | exact V_nil _ _ _ _ _ | exact Q_nil _ _ _ _ _ | exact S_nil _ _ _ _ _, BL HB.1⟩
 have H' := Aside0.mk H
 clear H
 have hnb38 := NB111_112.1
 have hnc38 := NB112_111.1
 have hnb39 := NB111_113.1
 have hnc39 := NB113_111.1
 obtain ⟨hcz40_0, hcz40_1, hfz40_0, hfz40_1⟩ := cz2 BK111.1
 go_wp2_with (first | ((with_reducible refine gate_dst (N := 8) rfl ?_); refine boxE (cs := #[.int .i64 0, .slice none 0 0]) (t := 26) ?_; intro gb117 hg w41 hbox hb; refine E13 (bB BK111.1 hb) (bB BK112.1 hb) (bB BK113.1 hb) (bS HB.1 hb) (hbox) (gX HB.1 hg) (gX HB.1 hg) (nB BK111.1 hg) (nC BK111.1 hg) (nB BK112.1 hg) (nC BK112.1 hg) (nB BK113.1 hg) (nC BK113.1 hg) ?_; clear BK111 BK112 BK113 HB; intro BK111 BK112 BK113 HB BK117 GW117 GE117 NB111_117 NB117_111 NB112_117 NB117_112 NB113_117 NB117_113; clear hb hbox hg; have hnb42 := NB117_111.1; have hnc42 := NB111_117.1; have hnb43 := NB117_112.1; have hnc43 := NB112_117.1; have hnb44 := NB117_113.1; have hnc44 := NB113_117.1; obtain ⟨hcz45_0, hcz45_1, hfz45_0, hfz45_1⟩ := cz2 BK117.1; obtain ⟨hcz46_0, hcz46_1, hfz46_0, hfz46_1⟩ := cz2 BK111.1))
 go_loopg [38] kj3 (fun kq v38 w' => ∃ (x38_2 : Int) (x118001_2 : List Int) (u118001 : Value), v38 = .int .i64 x38_2 /\ Aside0 (spec_CombineTables.l0 kq a0 l1_1 (l1_1.length : Int) x38_2 a2_0 l2_1 a1_0 x118001_2 = some (r1, r2, r3)) /\ Aside0 (kq <= kj3) /\ Aside0 (Kd.R (Kd.int .i64) 3 w' w.heap.size (fun _ => True) u118001 x118001_2) /\ Aside0 (w'.heap[gb111]? = some (.cells #[.int .i64 a1_0, (.slice A1_1 l1_1.length c1_1)] 26 (0, 0))) /\ Aside0 (w'.heap[gb112]? = some (.cells #[.int .i64 a2_0, (.slice A2_1 l2_1.length c2_1)] 26 (0, 0))) /\ Aside0 (w'.heap[gb113]? = some (.cells #[.int .i64 0, (.slice none 0 0)] 26 (0, 0))) /\ Aside0 (w'.heap[gb117]? = some (.cells #[.int .i64 a1_0, u118001] 26 (0, 0))) /\ Aside0 (Below w.heap.size w w'))
 case atStart => exact ⟨(0), (([] : List Int)), (.slice none 0 0), RG, H', ⟨Nat.le_refl _⟩, ⟨by first | exact R_nil _ _ _ _ _ | exact N_nil _ _ _ _ _ | exact V_nil _ _ _ _ _ | exact Q_nil _ _ _ _ _ | exact S_nil _ _ _ _ _⟩, ⟨by (with_reducible repeat (first | refine blk_drewN ?_ _ | refine blk_drew ?_ | refine blk_alloc ?_ _)); refine blk_far ?_ NB111_117.1 _; (with_reducible repeat (first | refine blk_drewN ?_ _ | refine blk_drew ?_ | refine blk_alloc ?_ _)); refine blk_far ?_ NB111_117.1 _; (with_reducible repeat (first | refine blk_drewN ?_ _ | refine blk_drew ?_ | refine blk_alloc ?_ _)); exact BK111.1⟩, ⟨by (with_reducible repeat (first | refine blk_drewN ?_ _ | refine blk_drew ?_ | refine blk_alloc ?_ _)); refine blk_far ?_ NB112_117.1 _; (with_reducible repeat (first | refine blk_drewN ?_ _ | refine blk_drew ?_ | refine blk_alloc ?_ _)); refine blk_far ?_ NB112_117.1 _; (with_reducible repeat (first | refine blk_drewN ?_ _ | refine blk_drew ?_ | refine blk_alloc ?_ _)); exact BK112.1⟩, ⟨by (with_reducible repeat (first | refine blk_drewN ?_ _ | refine blk_drew ?_ | refine blk_alloc ?_ _)); refine blk_far ?_ NB113_117.1 _; (with_reducible repeat (first | refine blk_drewN ?_ _ | refine blk_drew ?_ | refine blk_alloc ?_ _)); refine blk_far ?_ NB113_117.1 _; (with_reducible repeat (first | refine blk_drewN ?_ _ | refine blk_drew ?_ | refine blk_alloc ?_ _)); exact BK113.1⟩, ⟨by (with_reducible repeat (first | refine blk_drewN ?_ _ | refine blk_drew ?_ | refine blk_alloc ?_ _)); refine blk_put (cs := #[.int .i64 a1_0, .slice none 0 0]) ?_ 1 _ rfl; (with_reducible repeat (first | refine blk_drewN ?_ _ | refine blk_drew ?_ | refine blk_alloc ?_ _)); refine blk_put (cs := #[.int .i64 0, .slice none 0 0]) ?_ 0 _ rfl; (with_reducible repeat (first | refine blk_drewN ?_ _ | refine blk_drew ?_ | refine blk_alloc ?_ _)); exact BK117.1⟩, ⟨BL HB.1⟩⟩
 clear H'
 clear hcz40_0 hcz40_1 hcz45_0 hcz45_1 hcz46_0 hcz46_1 hfz40_0 hfz40_1 hfz45_0 hfz45_1 hfz46_0 hfz46_1
 obtain ⟨x38_2, x118001_2, u118001, rfl, HA, HK2, HO_118001, BK111, BK112, BK113, BK117, HB⟩ := hrel
 cases gk with
 | zero => exact absurd HA.1 (by simp [spec_CombineTables.l0])
 | succ k2 => ?_
 have H := HA.1
 clear HA
 simp only [spec_CombineTables.l0] at H
 replace H := ifB H; rcases H with ⟨c47b0, H⟩ | ⟨c47b0, H⟩
 · replace H := ifN H; obtain ⟨c48b0, H⟩ := H
   replace H := ifN H; obtain ⟨c49b0, H⟩ := H
   replace H := ifN H; obtain ⟨c50b0, H⟩ := H
   replace H := bindA H; obtain ⟨t120, A51, H⟩ := H
   replace H := ifP H; obtain ⟨c52, H⟩ := H
   have LMc52 := Aside0.mk c52
   clear c52
   generalize hy121 : ((x118001_2 ++ [t120]) : List Int) = y121 at H
   have Ny121 := Aside0.mk hy121.symm; clear hy121
   have H' := Aside0.mk H
   clear H
   have p118 : 0 <= (x38_2 : Int) := OD
   have q118 : x38_2 < (l1_1.length : Int) := OD
   obtain ⟨ad118, e118, hx118_0⟩ := Kd.at_int HR1_1.1 x38_2 p118 q118
   cases e118
   replace hx118_0 := (HB.1.cell (World.block_lt_of_cell? w _ hx118_0)).trans hx118_0
   replace p118 := eq_true p118
   replace q118 := eq_true q118
   try go_wp2
   refine E6 (R_drew HO_118001.1) (blk_drew BK111.1) (blk_drew BK112.1) (blk_drew BK113.1) (blk_drew BK117.1) (below_drew1 HB.1) ?_
   clear HO_118001 BK111 BK112 BK113 BK117 HB
   intro HO_118001 BK111 BK112 BK113 BK117 HB
   have p119 : 0 <= (x38_2 : Int) := OD
   have q119 : x38_2 < (l2_1.length : Int) := OD
   obtain ⟨ad119, e119, hx119_0⟩ := Kd.at_int HR2_1.1 x38_2 p119 q119
   have hw119_0 := hx119_0
   cases e119
   replace hx119_0 := (HB.1.cell (World.block_lt_of_cell? w _ hx119_0)).trans hx119_0
   replace p119 := eq_true p119
   replace q119 := eq_true q119
   refine start_ (n := 14) (S := fun w' => w'.cell? ⟨gb117, 0, none⟩ = some (.int .i64 a1_0) /\ w'.cell? ⟨gb117, 1, none⟩ = some (u118001) /\ w'.cell? ⟨gb112, 0, none⟩ = some (.int .i64 a2_0) /\ w'.cell? ⟨gb112, 1, none⟩ = some (.slice (some ad119) l2_1.length c2_1) /\ w'.cell? (ad119.add (x38_2).toNat) = some (.int .i64 (rd l2_1 x38_2))) (ds := [13]) #[Zz,Zz,Zz,Zz,Zz,Zz,Zz,Zz,Zz,Zz,Zz,Zz,Zz,Zz] (by kernel_rfl) rfl rfl ⟨(blk_cell BK117.1 0).trans rfl, (blk_cell BK117.1 1).trans rfl, (blk_cell BK112.1 0).trans rfl, (blk_cell BK112.1 1).trans rfl, ((HB.1.cell (World.block_lt_of_cell? w _ hw119_0)).trans hw119_0)⟩ (fun hHeld => ?_); refine with_tabW spec_CombineTables.tab7 spec_CombineTables.bits7 (fun HT_ HW_ => ?_)
   generalize wr.drew = w53 at HO_118001 BK111 BK112 BK113 BK117 HB hx119_0 hHeld ⊢
   refine pureF 0 (N := some 43) HT_.1 ?_
   refine pureF 2 (N := some 45) HT_.1 ?_
   refine pureF 3 (N := some 46) HT_.1 ?_
   refine pureF 4 (N := some 47) HT_.1 ?_
   refine pureF 6 (N := some 49) HT_.1 ?_
   refine takeE 1 (N := some 44) HT_.1 HW_.1 hHeld ?_
   refine takeE 5 (N := some 48) HT_.1 HW_.1 hHeld ?_
   refine pureF 7 (N := some 50) HT_.1 ?_
   refine takeE 8 (N := some 51) HT_.1 HW_.1 hHeld ?_
   refine one_ (i := 9) (N := some 52) #[Yy,Yy,Yy,Yy,Yy,Yy,Yy,Yy,Yy,Yy,Zz,Zz,Zz,Zz] rfl rfl (one_of HT_.1 (by kernel_rfl)) (by decide) (fun K hK => ?_)
   refine goes_ Try.func14 (by kernel_rfl) rfl #[.int .i64 a0, .int .i64 (rd l1_1 x38_2), .int .i64 (rd l2_1 x38_2)] (by rfl) rfl rfl (by (try simp only [List.map_toArray, List.map_cons, List.map_nil]); first | done | rfl | (simp only [List.length_drop, List.length_take]; rfl)) ?_
   with_reducible refine (spec_ttCombine.calls a0 (rd l1_1 x38_2) (rd l2_1 x38_2) t120 _ A51.1).mono ?_
   rintro e w' ⟨rfl, ⟨nd, rfl⟩⟩
   refine ⟨_, rfl, ?_⟩
   refine hK.out _ _ ⟨(blk_cell BK117.1 0).trans rfl, (blk_cell BK117.1 1).trans rfl, (blk_cell BK112.1 0).trans rfl, (blk_cell BK112.1 1).trans rfl, ((HB.1.cell (World.block_lt_of_cell? w _ hw119_0)).trans hw119_0)⟩ (fun hHeld => ?_)
   clear hK K
   refine norm_ (a' := ?_) ?_ ?_
   rotate_left
   · show Act.put _ (some 52) _ = _
     simp only [Act.put, List.setIfInBounds_toArray, List.set_cons_zero, List.set_cons_succ, i64_w, i32_w]
     rfl
   refine one_ (i := 10) (N := some 53) #[Yy,Yy,Yy,Yy,Yy,Yy,Yy,Yy,Yy,Yy,Yy,Zz,Zz,Zz] rfl rfl (one_of HT_.1 (by kernel_rfl)) (by decide) (fun K hK => ?_)
   refine value_ (w1 := ?_) (v := ?_) (by rfl) rfl ?_ ?_
   rotate_left 2
   · go_simp
     constructor
     · rfl
     rfl
   refine hK.out _ _ ⟨(blk_cell (blk_alloc BK117.1 _) 0).trans rfl, (blk_cell (blk_alloc BK117.1 _) 1).trans rfl, (blk_cell (blk_alloc BK112.1 _) 0).trans rfl, (blk_cell (blk_alloc BK112.1 _) 1).trans rfl, (World.cell?_alloc_lt _ _ _ (World.block_lt_of_cell? _ _ (((HB.1.cell (World.block_lt_of_cell? w _ hw119_0)).trans hw119_0)))).trans (((HB.1.cell (World.block_lt_of_cell? w _ hw119_0)).trans hw119_0))⟩ (fun hHeld => ?_)
   clear hK K
   refine norm_ (a' := ?_) ?_ ?_
   rotate_left
   · show Act.put _ (some 53) _ = _
     simp only [Act.put, List.setIfInBounds_toArray, List.set_cons_zero, List.set_cons_succ, i64_w, i32_w]
     rfl
   refine one_ (i := 11) (N := some 54) #[Yy,Yy,Yy,Yy,Yy,Yy,Yy,Yy,Yy,Yy,Yy,Yy,Zz,Zz] rfl rfl (one_of HT_.1 (by kernel_rfl)) (by decide) (fun K hK => ?_)
   refine R_append_step (Kd.int .i64) (w0 := w) w.heap.size (by rfl) (.tmp 44) (.tmp 53) 22 3 (.int .i64 0) 8 rfl Try.underlying22 info3 rfl (by decide) (by omega) u118001 x118001_2 t120 [.int .i64 t120] (fun _ => True) (fun _ => False) rfl rfl ?aP (fun _ hk => hk.elim) ?aF ?aO ?aB ?aS ?aL ?_
   (case aP => exact rfl)
   (case aB => exact (BL HB.1))
   (case aF => exact (fun _ _ => trivial))
   (case aO => exact (PR HO_118001.1))
   (case aS => exact (bZ HB.1))
   (case aL => have := LMc52.1; omega)
   intro v122 w54 ho hb hg hat
   rw [<- Ny121.1] at ho
   refine E6 (bG BK111.1 hg (R_ne HO_118001.1 BK111.1 (by decide))) (bG BK112.1 hg (R_ne HO_118001.1 BK112.1 (by decide))) (bG BK113.1 hg (R_ne HO_118001.1 BK113.1 (by decide))) (bG BK117.1 hg (R_ne HO_118001.1 BK117.1 (by decide))) (hb) (ho) ?_
   clear BK111 BK112 BK113 BK117 HB HO_118001
   intro BK111 BK112 BK113 BK117 HB HO123
   clear ho hb hg hat
   obtain ⟨Ao55, co55, eo55⟩ := R_slice HO123.1
   (first | subst eo55 | (injection eo55 with f1_ f2_ f3_; have f4_ := f1_.symm; have f5_ := f3_.symm; clear f1_ f2_ f3_; subst f4_; subst f5_))
   refine hK.out _ _ ⟨(blk_cell BK117.1 0).trans rfl, (blk_cell BK117.1 1).trans rfl, (blk_cell BK112.1 0).trans rfl, (blk_cell BK112.1 1).trans rfl, ((HB.1.cell (World.block_lt_of_cell? w _ hw119_0)).trans hw119_0)⟩ (fun hHeld => ?_)
   clear hK K
   refine norm_ (a' := ?_) ?_ ?_
   rotate_left
   · show Act.put _ (some 54) _ = _
     simp only [Act.put, List.setIfInBounds_toArray, List.set_cons_zero, List.set_cons_succ, i64_w, i32_w]
     rfl
   refine pureF 12 (N := some 55) HT_.1 ?_
   refine last_ (i := 13) (N := none) #[Yy,Yy,Yy,Yy,Yy,Yy,Yy,Yy,Yy,Yy,Yy,Yy,Yy,Yy] rfl rfl (one_of HT_.1 (by kernel_rfl)) (by decide) (fun K hK => ?_)
   have hs56 : w54.cell? ⟨gb117, 1, none⟩ = some (u118001) := (blk_cell BK117.1 1).trans rfl
   have hfs56 := blk_frozen BK117.1 1
   refine skip_ (w1 := ?_) (by rfl) rfl ?_ ?_
   rotate_left
   · go_simp
     rfl
   refine hK.out _ _ ?_
   clear hK K
   refine done_ (done_of HT_.1 (by kernel_rfl)) ?_
   try go_wp2
   go_roundg k2
   case measure => have := HJ3.1; have := HK2.1; omega
   case rel => exact ⟨(wrap64 (x38_2 + 1)), (y121), (.slice Ao55 y121.length co55), RG, H', ⟨by have := HJ3.1; have := HK2.1; omega⟩, ⟨by (with_reducible repeat (first | apply R_alloc | apply R_drewN | apply R_drew)); exact R_mono (RQ gb117 1 (R_types HO123.1 BK117.1 (by decide)) _) (fun _ hk => trivial)⟩, ⟨by (with_reducible repeat (first | refine blk_drewN ?_ _ | refine blk_drew ?_ | refine blk_alloc ?_ _)); refine blk_far ?_ NB111_117.1 _; (with_reducible repeat (first | refine blk_drewN ?_ _ | refine blk_drew ?_ | refine blk_alloc ?_ _)); exact BK111.1⟩, ⟨by (with_reducible repeat (first | refine blk_drewN ?_ _ | refine blk_drew ?_ | refine blk_alloc ?_ _)); refine blk_far ?_ NB112_117.1 _; (with_reducible repeat (first | refine blk_drewN ?_ _ | refine blk_drew ?_ | refine blk_alloc ?_ _)); exact BK112.1⟩, ⟨by (with_reducible repeat (first | refine blk_drewN ?_ _ | refine blk_drew ?_ | refine blk_alloc ?_ _)); refine blk_far ?_ NB113_117.1 _; (with_reducible repeat (first | refine blk_drewN ?_ _ | refine blk_drew ?_ | refine blk_alloc ?_ _)); exact BK113.1⟩, ⟨by (with_reducible repeat (first | refine blk_drewN ?_ _ | refine blk_drew ?_ | refine blk_alloc ?_ _)); refine blk_put (cs := #[.int .i64 a1_0, u118001]) ?_ 1 _ rfl; (with_reducible repeat (first | refine blk_drewN ?_ _ | refine blk_drew ?_ | refine blk_alloc ?_ _)); exact BK117.1⟩, ⟨BL HB.1⟩⟩
 simp only [Option.some.injEq, Prod.mk.injEq] at H
 obtain ⟨rfl, rfl, rfl⟩ := H
 obtain ⟨hcz60_0, hcz60_1, hfz60_0, hfz60_1⟩ := cz2 BK117.1
 have hnb62 := NB113_112.1
 have hnc62 := NB112_113.1
 obtain ⟨hcz63_0, hcz63_1, hfz63_0, hfz63_1⟩ := cz2 BK113.1
 obtain ⟨Ao64, co64, eo64⟩ := R_slice HO_118001.1
 subst eo64
 go_wp2
 refine bodyPost_ret (results_ct rfl _ _ gb113 26 #[.int .i64 a1_0, .slice Ao64 x118001_2.length co64] (0, 0) _ rfl (PF0 BK113.1) Try.underlying26 rfl (by kernel_rfl)) rfl ?_
 exact ⟨_, RF, by (with_reducible repeat (first | apply R_alloc | apply R_drewN | apply R_drew)); exact R_mono (RQ gb113 1 (RQ gb113 0 (R_types HO_118001.1 BK113.1 (by decide)) _) _) (fun _ hk => trivial), BL HB.1⟩
/-! ### laws_toIntS: function 15 -/
open Kd
def laws_toIntS.l0 : Nat -> List Int -> List Int -> Int -> Option (List Int)
 | 0, _, _, _ => none
 | k + 1, x0, x3, x4 => if x4 < (x0.length : Int) then (if 0 <= x4 then (if x4 < (x3.length : Int) then (laws_toIntS.l0 k x0 (x3.set (x4 : Int).toNat (rd x0 x4)) (wrap64 (x4 + 1))) else (none)) else (none)) else (some x3)
def laws_toIntS.f (k : Nat) (l0 : List Int) : Option (List Int) := if 0 <= (l0.length : Int) then (if ((l0.length : Int) : Int).toNat <= 35184372088832 then (laws_toIntS.l0 k l0 (List.replicate ((l0.length : Int) : Int).toNat 0) 0) else (none)) else (none)
theorem laws_toIntS.mono_l : ∀ k, (∀ y0 y1 y2, LeO (laws_toIntS.l0 k y0 y1 y2) (laws_toIntS.l0 (k + 1) y0 y1 y2))
 | 0 => fun _ _ _ r h => by simp [laws_toIntS.l0] at h
 | k + 1 => by
  have ih0 := laws_toIntS.mono_l k
  intros
  first | unfold laws_toIntS.l0
  exact LM1 ih0
theorem laws_toIntS.mono : ∀ a0 k, LeO (laws_toIntS.f k a0) (laws_toIntS.f (k + 1) a0) := by
 intro a0 k
 have ih0 := laws_toIntS.mono_l k
 unfold laws_toIntS.f
 exact LM1 ih0
theorem laws_toIntS.calls (k : Nat) (A0 : Option Addr) (c0 : Nat) (l0 : List Int) (r : List Int) (w : World) (hr0 : Kd.C (Kd.int .i64) w A0 l0.length l0) (hc0 : l0.length <= c0) (h : laws_toIntS.f k l0 = some r) :
 Calls Try.prog 15 #[.slice A0 l0.length c0] w fun e w' => ∃ v0_ : Value, e = .returned (v0_) /\ Kd.R (Kd.int .i64) 3 w' w.heap.size (fun _ => True) v0_ r /\ Below w.heap.size w w' := by
 have HR0 := Aside0.mk hr0
 have HC0 := Aside0.mk hc0
 clear hr0 hc0
 have HB := Aside0.mk (Below.refl w.heap.size w)
 have H := h
 clear h
 unfold laws_toIntS.f at H
 replace H := ifP H; obtain ⟨c2, H⟩ := H
 have c2b0 := eq_true c2
 have c2b1 := decide_eq_true c2
 clear c2
 replace H := ifP H; obtain ⟨c3, H⟩ := H
 have c3b0 := eq_true c3
 have c3b1 := decide_eq_true c3
 clear c3
 generalize hy124 : ((List.replicate ((l0.length : Int) : Int).toNat 0) : List Int) = y124 at H
 have Ny124 := Aside0.mk hy124.symm; clear hy124
 have H' := Aside0.mk H
 clear H
 go_enter Try.func15, Try.ntmps15
 go_wp2_with (first | ((with_reducible refine gate_dst (N := 7) rfl ?_); refine R_make (Kd.int .i64) _ 3 rfl (N := 7) rfl 22 _ _ rfl (l0.length : Int) rfl rfl Try.underlying22 (.int .i64 0) 8 info3 rfl (by decide) (by omega) 0 (ok := fun _ => True) (okp := fun _ => True) rfl (fun _ hk => hk) trivial (OD) (Nat.le_trans (Nat.mul_le_mul_right _ (OD : (l0.length : Int).toNat <= 35184372088832)) (by omega)) (Below.refl _ _) (Nat.le_refl _) ?_; intro v125 w4 ho5 hb hg_ hnew_; clear hg_ hnew_; (first | rw [<- Ny124.1] at ho5 | (simp only [Int.reduceToNat] at ho5; rw [<- Ny124.1] at ho5)); refine E2 (R_lower ho5 (bZ HB.1)) (bS HB.1 hb) ?_; clear HB; intro HO126 HB; clear hb ho5))
 go_loopg [4] k (fun kq v4 w' => ∃ (x3_1 : List Int) (x4_1 : Int), v4 = .int .i64 x4_1 /\ Aside0 (laws_toIntS.l0 kq l0 x3_1 x4_1 = some r) /\ Aside0 (kq <= k) /\ Aside0 (Kd.R (Kd.int .i64) 3 w' w.heap.size (fun _ => True) v125 x3_1) /\ Aside0 (Below w.heap.size w w'))
 case atStart => exact ⟨(y124), (0), RG, H', ⟨Nat.le_refl _⟩, ⟨PR HO126.1⟩, ⟨BL HB.1⟩⟩
 clear H'
 clear c2b0 c2b1 c3b0 c3b1
 obtain ⟨x3_1, x4_1, rfl, HA, HK1, HO_3, HB⟩ := hrel
 cases gk with
 | zero => exact absurd HA.1 (by simp [laws_toIntS.l0])
 | succ k1 => ?_
 have H := HA.1
 clear HA
 simp only [laws_toIntS.l0] at H
 replace H := ifB H; rcases H with ⟨c6b0, H⟩ | ⟨c6b0, H⟩
 · replace H := ifN H; obtain ⟨c7b0, H⟩ := H
   replace H := ifN H; obtain ⟨c8b0, H⟩ := H
   generalize hy128 : ((x3_1.set (x4_1 : Int).toNat (rd l0 x4_1)) : List Int) = y128 at H
   have Ny128 := Aside0.mk hy128.symm; clear hy128
   have H' := Aside0.mk H
   clear H
   have p127 : 0 <= (x4_1 : Int) := OD
   have q127 : x4_1 < (l0.length : Int) := OD
   obtain ⟨ad127, e127, hx127_0⟩ := Kd.at_int HR0.1 x4_1 p127 q127
   cases e127
   replace hx127_0 := (HB.1.cell (World.block_lt_of_cell? w _ hx127_0)).trans hx127_0
   replace p127 := eq_true p127
   replace q127 := eq_true q127
   have p9 : 0 <= (x4_1 : Int) := OD
   have q9 : (x4_1 : Int) < ((x3_1.length : Int) : Int) := OD
   obtain ⟨go9, co9, eo9, gb9, gl9, cl9, HG9⟩ := R_form HO_3.1 (by omega)
   (first | cases eo9 | (injection eo9 with ea_ en_ ec_; (first | subst ea_ | (injection ea_ with ea_; subst ea_)); subst ec_; clear en_))
   have GB9 := Aside0.mk gb9
   have GG9 := Aside0.mk HG9
   clear gb9 gl9 HG9
   obtain ⟨hx9_0, hf9_0⟩ := R_celln 0 HO_3.1 (x4_1 : Int) p9 q9
   replace p9 := eq_true p9
   replace q9 := eq_true q9
   have HP10 := R_putg HO_3.1 (x4_1 : Int) (rd l0 x4_1)
   go_wp2_with (first | ((with_reducible refine gate_store (t := 3) (p := 20) rfl ?_); refine storeE (t := 3) (p := 20) (w1 := (wr.setCell ⟨go9, (x4_1 : Int).toNat, none⟩ (.int .i64 (rd l0 x4_1)))) ?_; intro w11 hw; have hg : wr.grownBy w11 (some go9) := (by rw [hw]; exact HP10.2); have hp_ : Kd.R (Kd.int .i64) 3 w11 w.heap.size (fun _ => True) (.slice (some ⟨go9, 0, none⟩) x3_1.length co9) y128 := (by rw [hw, Ny128.1]; exact HP10.1); clear HP10; refine E2 (hp_) ((by rw [hw]; exact below_set (HB.1) GB9.1 : Below w.heap.size w w11)) ?_; clear HO_3 HB; intro HO_3 HB; clear hg hw hp_))
   go_roundg k1
   case measure => have := HK1.1; omega
   case rel => exact ⟨(y128), (wrap64 (x4_1 + 1)), RG, H', ⟨by have := HK1.1; omega⟩, ⟨PR HO_3.1⟩, ⟨BL HB.1⟩⟩
 obtain rfl := Option.some.inj H
 go_wp2
 go_ret
 exact ⟨_, RF, RPE (HO_3.1), BL HB.1⟩
/-! ### laws_toTable: function 6 -/
open Kd
def laws_toTable.f (k : Nat) (a0_0 : Int) (l0_1 : List Int) : Option (Int × List Int) := (laws_toIntS.f k l0_1).bind fun t132 => (some (a0_0, t132))
theorem laws_toTable.mono : ∀ a0 a1 k, LeO (laws_toTable.f k a0 a1) (laws_toTable.f (k + 1) a0 a1) := by
 intro a0 a1 k
 unfold laws_toTable.f
 repeat' first
  | (with_reducible exact laws_toIntS.mono _ _)
  | (with_reducible exact LeO.refl _)
  | (with_reducible exact LeO.none _)
  | (with_reducible refine LeO.ite ?_ ?_)
  | (with_reducible refine LeO.bind ?_ (fun _ => ?_))
  | exact laws_toIntS.mono _ _
  | exact LeO.none _
  | refine LeO.ite ?_ ?_
  | refine LeO.bind ?_ (fun _ => ?_)
theorem laws_toTable.calls (k : Nat) (a0_0 : Int) (A0_1 : Option Addr) (c0_1 : Nat) (l0_1 : List Int) (r1 : Int) (r2 : List Int) (w : World) (hr0_1 : Kd.C (Kd.int .i64) w A0_1 l0_1.length l0_1) (hc0_1 : l0_1.length <= c0_1) (h : laws_toTable.f k a0_0 l0_1 = some (r1, r2)) :
 Calls Try.prog 6 #[.agg #[.int .i64 a0_0, .slice A0_1 l0_1.length c0_1]] w fun e w' => ∃ v1_ : Value, e = .returned (.agg #[.int .i64 r1, v1_]) /\ Kd.R (Kd.int .i64) 3 w' w.heap.size (fun _ => True) v1_ r2 /\ Below w.heap.size w w' := by
 have hu24 := Try.underlying24
 have hu26 := Try.underlying26
 have HR0_1 := Aside0.mk hr0_1
 have HC0_1 := Aside0.mk hc0_1
 clear hr0_1 hc0_1
 have HB := Aside0.mk (Below.refl w.heap.size w)
 have H := h
 clear h
 unfold laws_toTable.f at H
 replace H := bindA H; obtain ⟨t132, A2, H⟩ := H
 simp only [Option.some.injEq, Prod.mk.injEq] at H
 obtain ⟨rfl, rfl⟩ := H
 go_enter Try.func6, Try.ntmps6
 go_wp2_with (first | ((with_reducible refine gate_dst (N := 1) rfl ?_); refine boxE (cs := #[.int .i64 a0_0, .slice A0_1 l0_1.length c0_1]) (t := 24) ?_; intro gb129 hg w3 hbox hb; refine E4b HB.1 hg hbox hb ?_; clear HB; intro HB BK129 GW129 GE129; clear hb hbox hg) | ((with_reducible refine gate_dst (N := 2) rfl ?_); refine boxE (cs := #[.int .i64 0, .slice none 0 0]) (t := 26) ?_; intro gb130 hg w4 hbox hb; refine E7 (bB BK129.1 hb) (bS HB.1 hb) (hbox) (gX HB.1 hg) (gX HB.1 hg) (nB BK129.1 hg) (nC BK129.1 hg) ?_; clear BK129 HB; intro BK129 HB BK130 GW130 GE130 NB129_130 NB130_129; clear hb hbox hg) | ((with_reducible refine gate_dst (N := 3) rfl ?_); refine boxE (cs := #[.int .i64 0, .slice none 0 0]) (t := 26) ?_; intro gb131 hg w5 hbox hb; refine E10 (bB BK129.1 hb) (bB BK130.1 hb) (bS HB.1 hb) (hbox) (gX HB.1 hg) (gX HB.1 hg) (nB BK129.1 hg) (nC BK129.1 hg) (nB BK130.1 hg) (nC BK130.1 hg) ?_; clear BK129 BK130 HB; intro BK129 BK130 HB BK131 GW131 GE131 NB129_131 NB131_129 NB130_131 NB131_130; clear hb hbox hg; have hnb6 := NB129_130.1; have hnc6 := NB130_129.1; have hnb7 := NB129_131.1; have hnc7 := NB131_129.1; obtain ⟨hcz8_0, hcz8_1, hfz8_0, hfz8_1⟩ := cz2 BK129.1; have hnb9 := NB131_130.1; have hnc9 := NB130_131.1; obtain ⟨hcz10_0, hcz10_1, hfz10_0, hfz10_1⟩ := cz2 BK131.1) | ((with_reducible refine gate_callee (f := 15) rfl ?_); refine goesM (N := (some 9)) #[.slice A0_1 l0_1.length c0_1] Try.func15 ?_; (with_reducible refine (laws_toIntS.calls k _ _ l0_1 t132 _ ?side1 ?side2 A2.1).mono ?_); (case side1 => exact C_below HR0_1.1 (BL HB.1)); (case side2 => exact HC0_1.1); rintro e w11 ⟨v133, rfl, ho0, hb⟩; refine ⟨_, rfl, ?_⟩; refine E5 (R_lower ho0 (bZ HB.1)) (blk_below (g := gb129) (o := .cells #[.int .i64 a0_0, .slice A0_1 l0_1.length c0_1] 24 (0, 0)) (PF1 NB129_131.1 BK129.1) hb) (blk_below (g := gb130) (o := .cells #[.int .i64 0, .slice none 0 0] 26 (0, 0)) (PF1 NB130_131.1 BK130.1) hb) (blk_below (g := gb131) (o := .cells #[.int .i64 a0_0, .slice none 0 0] 26 (0, 0)) (PF0 BK131.1) hb) (bS HB.1 hb) ?_; clear BK129 BK130 BK131 HB; intro HO134 BK129 BK130 BK131 HB; (try clear hb); (try clear ho0); obtain ⟨Ao12, co12, eo12⟩ := R_slice HO134.1; subst eo12; obtain ⟨hcz13_0, hcz13_1, hfz13_0, hfz13_1⟩ := cz2 BK131.1; obtain ⟨hcz14_0, hcz14_1, hfz14_0, hfz14_1⟩ := cz2 BK130.1))
 refine bodyPost_ret (results_cell_row rfl _ _ gb130 26 #[.int .i64 a0_0, .slice Ao12 t132.length co12] (0, 0) _ rfl (PF1 NB130_131.1 BK130.1) Try.underlying26 rfl (by kernel_rfl)) rfl ?_
 exact ⟨_, RF, by (with_reducible repeat (first | apply R_alloc | apply R_drewN | apply R_drew)); exact R_mono (RQ gb130 1 (RQ gb130 0 (R_far (p := ⟨gb131, 1, none⟩) (R_types (R_types HO134.1 BK131.1 (by decide)) BK130.1 (by decide)) (fun _ hk => hk.1.2) (.slice Ao12 t132.length co12)) _) _) (fun _ hk => trivial), BL HB.1⟩

/-! ### impl_areBits: function 23 -/
open Kd
def impl_areBits.l0 : Nat -> List Int -> Int -> Int -> Option (Bool)
 | 0, _, _, _ => none
 | k + 1, x5, x6, x7 => if x7 < x6 then (if 0 <= x7 then (if x7 < (x5.length : Int) then (if (rd x5 x7) = 0 then (impl_areBits.l0 k x5 x6 (wrap64 (x7 + 1))) else (if (rd x5 x7) = 1 then (impl_areBits.l0 k x5 x6 (wrap64 (x7 + 1))) else (some false))) else (none)) else (none)) else (some true)
def impl_areBits.f (k : Nat) (l0 : List Int) : Option (Bool) := impl_areBits.l0 k l0 (l0.length : Int) 0
theorem impl_areBits.mono_l : ∀ k, (∀ y0 y1 y2, LeO (impl_areBits.l0 k y0 y1 y2) (impl_areBits.l0 (k + 1) y0 y1 y2))
 | 0 => fun _ _ _ r h => by simp [impl_areBits.l0] at h
 | k + 1 => by
  have ih0 := impl_areBits.mono_l k
  intros
  first | unfold impl_areBits.l0
  exact LM1 ih0
theorem impl_areBits.mono : ∀ a0 k, LeO (impl_areBits.f k a0) (impl_areBits.f (k + 1) a0) := by
 intro a0 k
 have ih0 := impl_areBits.mono_l k
 unfold impl_areBits.f
 exact LM1 ih0
theorem impl_areBits.calls (k : Nat) (A0 : Option Addr) (c0 : Nat) (l0 : List Int) (r : Bool) (w : World) (hr0 : Kd.C (Kd.int .i64) w A0 l0.length l0) (hc0 : l0.length <= c0) (h : impl_areBits.f k l0 = some r) :
 Calls Try.prog 23 #[.slice A0 l0.length c0] w fun e w' => e = .returned (.bool r) /\ Drawn0 w w' := by
 have HR0 := Aside0.mk hr0
 have HC0 := Aside0.mk hc0
 clear hr0 hc0
 have H := h
 clear h
 unfold impl_areBits.f at H
 have H' := Aside0.mk H
 clear H
 go_enter Try.func23, Try.ntmps23
 go_wp2
 go_loopg [7] k (fun kq v7 w' => ∃ (x7_1 : Int), v7 = .int .i64 x7_1 /\ Aside0 (impl_areBits.l0 kq l0 (l0.length : Int) x7_1 = some r) /\ Aside0 (kq <= k) /\ Drawn0 w w')
 case atStart => exact ⟨(0), RG, H', ⟨Nat.le_refl _⟩, DR⟩
 clear H'
 obtain ⟨x7_1, rfl, HA, HK1, ⟨m1, rfl⟩⟩ := hrel
 cases gk with
 | zero => exact absurd HA.1 (by simp [impl_areBits.l0])
 | succ k1 => ?_
 have H := HA.1
 clear HA
 simp only [impl_areBits.l0] at H
 replace H := ifB H; rcases H with ⟨c2b0, H⟩ | ⟨c2b0, H⟩
 · replace H := ifN H; obtain ⟨c3b0, H⟩ := H
   replace H := ifN H; obtain ⟨c4b0, H⟩ := H
   replace H := ifQ H; rcases H with ⟨c5, H⟩ | ⟨c5, H⟩
   · have c5b0 := beq_iff_eq.mpr c5
     have c5b1 := bne_eq_false_iff_eq.mpr c5
     clear c5
     have H' := Aside0.mk H
     clear H
     have p135 : 0 <= (x7_1 : Int) := OD
     have q135 : x7_1 < (l0.length : Int) := OD
     obtain ⟨ad135, e135, hx135_0⟩ := Kd.at_int HR0.1 x7_1 p135 q135
     cases e135
     replace p135 := eq_true p135
     replace q135 := eq_true q135
     go_wp2
     go_roundg k1
     case measure => have := HK1.1; omega
     case rel => exact ⟨(wrap64 (x7_1 + 1)), RG, H', ⟨by have := HK1.1; omega⟩, DR⟩
   have c5b0 := beq_eq_false_iff_ne.mpr c5
   have c5b1 := bne_iff_ne.mpr c5
   replace H := ifQ H; rcases H with ⟨c6, H⟩ | ⟨c6, H⟩
   · have c6b0 := beq_iff_eq.mpr c6
     have c6b1 := bne_eq_false_iff_eq.mpr c6
     clear c6
     have H' := Aside0.mk H
     clear H
     have p135 : 0 <= (x7_1 : Int) := OD
     have q135 : x7_1 < (l0.length : Int) := OD
     obtain ⟨ad135, e135, hx135_0⟩ := Kd.at_int HR0.1 x7_1 p135 q135
     cases e135
     replace p135 := eq_true p135
     replace q135 := eq_true q135
     go_wp2
     go_roundg k1
     case measure => have := HK1.1; omega
     case rel => exact ⟨(wrap64 (x7_1 + 1)), RG, H', ⟨by have := HK1.1; omega⟩, DR⟩
   have c6b0 := beq_eq_false_iff_ne.mpr c6
   have c6b1 := bne_iff_ne.mpr c6
   obtain rfl := Option.some.inj H
   have p135 : 0 <= (x7_1 : Int) := OD
   have q135 : x7_1 < (l0.length : Int) := OD
   obtain ⟨ad135, e135, hx135_0⟩ := Kd.at_int HR0.1 x7_1 p135 q135
   cases e135
   replace p135 := eq_true p135
   replace q135 := eq_true q135
   go_wp2
   go_ret
   exact ⟨RG, DR⟩
 obtain rfl := Option.some.inj H
 go_wp2
 go_ret
 exact ⟨RG, DR⟩
/-! ### impl_IsTable: function 16 -/
open Kd
def impl_IsTable.f (k : Nat) (a0_0 : Int) (l0_1 : List Int) : Option (Bool) := if a0_0 ≥ 0 then (if a0_0 <= 4 then (if 0 <= a0_0 then (if (l0_1.length : Int) = (shl .i64 1 a0_0) then ((impl_areBits.f k l0_1).bind fun t137 => (some t137)) else (some false)) else (none)) else (some false)) else (some false)
theorem impl_IsTable.mono : ∀ a0 a1 k, LeO (impl_IsTable.f k a0 a1) (impl_IsTable.f (k + 1) a0 a1) := by
 intro a0 a1 k
 unfold impl_IsTable.f
 repeat' first
  | (with_reducible exact impl_areBits.mono _ _)
  | (with_reducible exact LeO.refl _)
  | (with_reducible exact LeO.none _)
  | (with_reducible refine LeO.ite ?_ ?_)
  | (with_reducible refine LeO.bind ?_ (fun _ => ?_))
  | exact impl_areBits.mono _ _
  | exact LeO.none _
  | refine LeO.ite ?_ ?_
  | refine LeO.bind ?_ (fun _ => ?_)
theorem impl_IsTable.calls (k : Nat) (a0_0 : Int) (A0_1 : Option Addr) (c0_1 : Nat) (l0_1 : List Int) (r : Bool) (w : World) (hr0_1 : Kd.C (Kd.int .i64) w A0_1 l0_1.length l0_1) (hc0_1 : l0_1.length <= c0_1) (h : impl_IsTable.f k a0_0 l0_1 = some r) :
 Calls Try.prog 16 #[.agg #[.int .i64 a0_0, .slice A0_1 l0_1.length c0_1]] w fun e w' => e = .returned (.bool r) /\ Below w.heap.size w w' := by
 have hu26 := Try.underlying26
 have HR0_1 := Aside0.mk hr0_1
 have HC0_1 := Aside0.mk hc0_1
 clear hr0_1 hc0_1
 have HB := Aside0.mk (Below.refl w.heap.size w)
 have H := h
 clear h
 unfold impl_IsTable.f at H
 replace H := ifQ H; rcases H with ⟨c2, H⟩ | ⟨c2, H⟩
 · have c2b0 : decide (0 <= a0_0) = true := decide_eq_true c2
   clear c2
   replace H := ifB H; rcases H with ⟨c3b0, H⟩ | ⟨c3b0, H⟩
   · replace H := ifP H; obtain ⟨c4, H⟩ := H
     have c4b0 := eq_true c4
     have c4b1 := decide_eq_true c4
     clear c4
     obtain ⟨ji5, hji5⟩ : ∃ j_ : Int, (shl .i64 1 a0_0) = j_ := ⟨_, rfl⟩
     replace H : (if (l0_1.length : Int) = (ji5) then ((impl_areBits.f k l0_1).bind fun t137 => (some t137)) else (some false)) = some r := by first | (rw [hji5] at H; exact H) | (simp only [hji5] at H ⊢; exact H)
     have hji5_ : (IntKind.i64.wrap (1 * 2 ^ min a0_0.toNat 64)) = ji5 := hji5
     have hji5z : a0_0 <= 64 -> (IntKind.i64.wrap (1 * 2 ^ a0_0.toNat)) = ji5 := shl_small hji5
     have hji5u : (IntKind.i64.wrap (2 ^ min a0_0.toNat 64)) = ji5 := by have h_ := hji5_; rw [Int.one_mul] at h_; exact h_
     have hji5v : a0_0 <= 64 -> (IntKind.i64.wrap (2 ^ a0_0.toNat)) = ji5 := fun hle_ => by have h_ := hji5z hle_; rw [Int.one_mul] at h_; exact h_
     have hji5y : (wrap64 (1 * 2 ^ min a0_0.toNat 64)) = ji5 := (i64_w _).symm.trans hji5_
     have hji5x : a0_0 <= 64 -> (wrap64 (1 * 2 ^ a0_0.toNat)) = ji5 := fun h_ => (i64_w _).symm.trans (hji5z h_)
     replace H := ifQ H; rcases H with ⟨c6, H⟩ | ⟨c6, H⟩
     · have c6b0 := beq_iff_eq.mpr c6
       have c6b1 := bne_eq_false_iff_eq.mpr c6
       clear c6
       replace H := bindA H; obtain ⟨t137, A7, H⟩ := H
       obtain rfl := Option.some.inj H
       go_enter Try.func16, Try.ntmps16
       go_wp2_with (first | ((with_reducible refine gate_dst (N := 1) rfl ?_); (try (refine gate_guard (by rfl) ?_; dsimp only)); refine boxE (cs := #[.int .i64 a0_0, .slice A0_1 l0_1.length c0_1]) (t := 26) ?_; intro gb136 hg w8 hbox hb; refine E4b HB.1 hg hbox hb ?_; clear HB; intro HB BK136 GW136 GE136; clear hb hbox hg; obtain ⟨hcz9_0, hcz9_1, hfz9_0, hfz9_1⟩ := cz2 BK136.1) | (go_at_call 23; (with_reducible refine (impl_areBits.calls k _ _ l0_1 t137 _ ?side1 ?side2 A7.1).mono ?_); (case side1 => exact CB (C_below HR0_1.1 HB.1)); (case side2 => exact HC0_1.1); rintro e w' ⟨rfl, ⟨nd, rfl⟩⟩; (try first | exact ⟨rfl, _, World.drewN_drewN _ _ _⟩ | exact ⟨rfl, _, Eq.trans (World.drewN_drewN _ _ _) (congrArg (World.drewN _) (Nat.add_assoc _ _ _))⟩)))
       repeat (go_quiet (first | ((with_reducible refine gate_dst (N := 1) rfl ?_); (try (refine gate_guard (by rfl) ?_; dsimp only)); refine boxE (cs := #[.int .i64 a0_0, .slice A0_1 l0_1.length c0_1]) (t := 26) ?_; intro gb136 hg w8 hbox hb; refine E4b HB.1 hg hbox hb ?_; clear HB; intro HB BK136 GW136 GE136; clear hb hbox hg; obtain ⟨hcz9_0, hcz9_1, hfz9_0, hfz9_1⟩ := cz2 BK136.1) | (go_at_call 23; (with_reducible refine (impl_areBits.calls k _ _ l0_1 t137 _ ?side1 ?side2 A7.1).mono ?_); (case side1 => exact CB (C_below HR0_1.1 HB.1)); (case side2 => exact HC0_1.1); rintro e w' ⟨rfl, ⟨nd, rfl⟩⟩; (try first | exact ⟨rfl, _, World.drewN_drewN _ _ _⟩ | exact ⟨rfl, _, Eq.trans (World.drewN_drewN _ _ _) (congrArg (World.drewN _) (Nat.add_assoc _ _ _))⟩))); try go_wp2_with (first | ((with_reducible refine gate_dst (N := 1) rfl ?_); (try (refine gate_guard (by rfl) ?_; dsimp only)); refine boxE (cs := #[.int .i64 a0_0, .slice A0_1 l0_1.length c0_1]) (t := 26) ?_; intro gb136 hg w8 hbox hb; refine E4b HB.1 hg hbox hb ?_; clear HB; intro HB BK136 GW136 GE136; clear hb hbox hg; obtain ⟨hcz9_0, hcz9_1, hfz9_0, hfz9_1⟩ := cz2 BK136.1) | (go_at_call 23; (with_reducible refine (impl_areBits.calls k _ _ l0_1 t137 _ ?side1 ?side2 A7.1).mono ?_); (case side1 => exact CB (C_below HR0_1.1 HB.1)); (case side2 => exact HC0_1.1); rintro e w' ⟨rfl, ⟨nd, rfl⟩⟩; (try first | exact ⟨rfl, _, World.drewN_drewN _ _ _⟩ | exact ⟨rfl, _, Eq.trans (World.drewN_drewN _ _ _) (congrArg (World.drewN _) (Nat.add_assoc _ _ _))⟩))))
       go_ret
       exact ⟨by first | rfl | (simp [errW_none, errW_some] <;> rfl) | (simp only [<- hji5]; first | rfl | (simp [errW_none, errW_some] <;> rfl)) | (simp [*, errW_none, errW_some] <;> rfl), BL HB.1⟩
     have c6b0 := beq_eq_false_iff_ne.mpr c6
     have c6b1 := bne_iff_ne.mpr c6
     obtain rfl := Option.some.inj H
     go_enter Try.func16, Try.ntmps16
     go_wp2_with (first | ((with_reducible refine gate_dst (N := 1) rfl ?_); (try (refine gate_guard (by rfl) ?_; dsimp only)); refine boxE (cs := #[.int .i64 a0_0, .slice A0_1 l0_1.length c0_1]) (t := 26) ?_; intro gb136 hg w10 hbox hb; refine E4b HB.1 hg hbox hb ?_; clear HB; intro HB BK136 GW136 GE136; clear hb hbox hg; obtain ⟨hcz11_0, hcz11_1, hfz11_0, hfz11_1⟩ := cz2 BK136.1))
     repeat (go_quiet (first | ((with_reducible refine gate_dst (N := 1) rfl ?_); (try (refine gate_guard (by rfl) ?_; dsimp only)); refine boxE (cs := #[.int .i64 a0_0, .slice A0_1 l0_1.length c0_1]) (t := 26) ?_; intro gb136 hg w10 hbox hb; refine E4b HB.1 hg hbox hb ?_; clear HB; intro HB BK136 GW136 GE136; clear hb hbox hg; obtain ⟨hcz11_0, hcz11_1, hfz11_0, hfz11_1⟩ := cz2 BK136.1)); try go_wp2_with (first | ((with_reducible refine gate_dst (N := 1) rfl ?_); (try (refine gate_guard (by rfl) ?_; dsimp only)); refine boxE (cs := #[.int .i64 a0_0, .slice A0_1 l0_1.length c0_1]) (t := 26) ?_; intro gb136 hg w10 hbox hb; refine E4b HB.1 hg hbox hb ?_; clear HB; intro HB BK136 GW136 GE136; clear hb hbox hg; obtain ⟨hcz11_0, hcz11_1, hfz11_0, hfz11_1⟩ := cz2 BK136.1)))
     go_ret
     exact ⟨by first | rfl | (simp [errW_none, errW_some] <;> rfl) | (simp only [<- hji5]; first | rfl | (simp [errW_none, errW_some] <;> rfl)) | (simp [*, errW_none, errW_some] <;> rfl), BL HB.1⟩
   obtain rfl := Option.some.inj H
   go_enter Try.func16, Try.ntmps16
   go_wp2_with (first | ((with_reducible refine gate_dst (N := 1) rfl ?_); (try (refine gate_guard (by rfl) ?_; dsimp only)); refine boxE (cs := #[.int .i64 a0_0, .slice A0_1 l0_1.length c0_1]) (t := 26) ?_; intro gb136 hg w12 hbox hb; refine E4b HB.1 hg hbox hb ?_; clear HB; intro HB BK136 GW136 GE136; clear hb hbox hg; obtain ⟨hcz13_0, hcz13_1, hfz13_0, hfz13_1⟩ := cz2 BK136.1))
   repeat (go_quiet (first | ((with_reducible refine gate_dst (N := 1) rfl ?_); (try (refine gate_guard (by rfl) ?_; dsimp only)); refine boxE (cs := #[.int .i64 a0_0, .slice A0_1 l0_1.length c0_1]) (t := 26) ?_; intro gb136 hg w12 hbox hb; refine E4b HB.1 hg hbox hb ?_; clear HB; intro HB BK136 GW136 GE136; clear hb hbox hg; obtain ⟨hcz13_0, hcz13_1, hfz13_0, hfz13_1⟩ := cz2 BK136.1)); try go_wp2_with (first | ((with_reducible refine gate_dst (N := 1) rfl ?_); (try (refine gate_guard (by rfl) ?_; dsimp only)); refine boxE (cs := #[.int .i64 a0_0, .slice A0_1 l0_1.length c0_1]) (t := 26) ?_; intro gb136 hg w12 hbox hb; refine E4b HB.1 hg hbox hb ?_; clear HB; intro HB BK136 GW136 GE136; clear hb hbox hg; obtain ⟨hcz13_0, hcz13_1, hfz13_0, hfz13_1⟩ := cz2 BK136.1)))
   go_ret
   exact ⟨RF, BL HB.1⟩
 have c2b0 : decide (0 <= a0_0) = false := decide_eq_false c2
 clear c2
 obtain rfl := Option.some.inj H
 go_enter Try.func16, Try.ntmps16
 go_wp2_with (first | ((with_reducible refine gate_dst (N := 1) rfl ?_); (try (refine gate_guard (by rfl) ?_; dsimp only)); refine boxE (cs := #[.int .i64 a0_0, .slice A0_1 l0_1.length c0_1]) (t := 26) ?_; intro gb136 hg w14 hbox hb; refine E4b HB.1 hg hbox hb ?_; clear HB; intro HB BK136 GW136 GE136; clear hb hbox hg; obtain ⟨hcz15_0, hcz15_1, hfz15_0, hfz15_1⟩ := cz2 BK136.1))
 repeat (go_quiet (first | ((with_reducible refine gate_dst (N := 1) rfl ?_); (try (refine gate_guard (by rfl) ?_; dsimp only)); refine boxE (cs := #[.int .i64 a0_0, .slice A0_1 l0_1.length c0_1]) (t := 26) ?_; intro gb136 hg w14 hbox hb; refine E4b HB.1 hg hbox hb ?_; clear HB; intro HB BK136 GW136 GE136; clear hb hbox hg; obtain ⟨hcz15_0, hcz15_1, hfz15_0, hfz15_1⟩ := cz2 BK136.1)); try go_wp2_with (first | ((with_reducible refine gate_dst (N := 1) rfl ?_); (try (refine gate_guard (by rfl) ?_; dsimp only)); refine boxE (cs := #[.int .i64 a0_0, .slice A0_1 l0_1.length c0_1]) (t := 26) ?_; intro gb136 hg w14 hbox hb; refine E4b HB.1 hg hbox hb ?_; clear HB; intro HB BK136 GW136 GE136; clear hb hbox hg; obtain ⟨hcz15_0, hcz15_1, hfz15_0, hfz15_1⟩ := cz2 BK136.1)))
 go_ret
 exact ⟨RF, BL HB.1⟩
end Go.Proofs.Ytifojdcnhlofkaa.P
