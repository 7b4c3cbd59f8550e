import Derived.Test.YtbpfdbjnnlmdjaaPx0
import Derived.Test.YtbpfdbjnnlmdjaaPx1
import Derived.Test.YtbpfdbjnnlmdjaaPx3
import Derived.Test.YtbpfdbjnnlmdjaaPx7
namespace Go.Proofs.Ytbpfdbjnnlmdjaa.P
open Go.RowKit Go.Proofs.YtbpfdbjnnlmdjaaW.PrintWords Go.Proofs.YtbpfdbjnnlmdjaaW.PrintLast Go.Proofs.YtbpfdbjnnlmdjaaW.PrintMore
attribute [local go_sem] max2_int min2_int max_two min_two max_three min_three max_four min_four
set_option linter.unusedVariables false
set_option linter.unusedSimpArgs false
set_option maxHeartbeats 8000000
set_option maxRecDepth 100000
open Kd
def spec_l1Rising.l0 : Nat -> List Int -> Int -> Int -> List Int -> Int -> Int -> Option (Bool)
 | 0, _, _, _, _, _, _ => none
 | k + 1, x0, x1, x2, x9, x10, x11 => if x11 < x10 then (if 0 <= x11 then (if x11 < (x9.length : Int) then ((spec_l1In.f (rd x9 x11) x1 x2).bind fun t826 => (if t826 = true then (if x11 > 0 then (if 0 <= (wrap64 (x11 - 1)) then (if (wrap64 (x11 - 1)) < (x0.length : Int) then (if (rd x0 (wrap64 (x11 - 1))) ≥ (rd x9 x11) then (some false) else (spec_l1Rising.l0 k x0 x1 x2 x9 x10 (wrap64 (x11 + 1)))) else (none)) else (none)) else (spec_l1Rising.l0 k x0 x1 x2 x9 x10 (wrap64 (x11 + 1)))) else (some false))) else (none)) else (none)) else (some true)
def spec_l1Rising.f (k : Nat) (l0 : List Int) (a1 : Int) (a2 : Int) : Option (Bool) := spec_l1Rising.l0 k l0 a1 a2 l0 (l0.length : Int) 0
theorem spec_l1Rising.mono_l : ∀ k, (∀ y0 y1 y2 y3 y4 y5, LeO (spec_l1Rising.l0 k y0 y1 y2 y3 y4 y5) (spec_l1Rising.l0 (k + 1) y0 y1 y2 y3 y4 y5))
 | 0 => fun _ _ _ _ _ _ r h => by simp [spec_l1Rising.l0] at h
 | k + 1 => by
  have ih0 := spec_l1Rising.mono_l k
  intros
  first | unfold spec_l1Rising.l0
  exact LM1 ih0
theorem spec_l1Rising.mono : ∀ a0 a1 a2 k, LeO (spec_l1Rising.f k a0 a1 a2) (spec_l1Rising.f (k + 1) a0 a1 a2) := by
 intro a0 a1 a2 k
 have ih0 := spec_l1Rising.mono_l k
 unfold spec_l1Rising.f
 exact LM1 ih0
theorem spec_l1Rising.calls (k : Nat) (A0 : Option Addr) (c0 : Nat) (l0 : List Int) (a1 : Int) (a2 : Int) (r : Bool) (w : World) (hr0 : Kd.C (Kd.int .i64) w A0 l0.length l0) (hc0 : l0.length <= c0) (h : spec_l1Rising.f k l0 a1 a2 = some r) :
 Calls Try.prog 81 #[.slice A0 l0.length c0, .int .i64 a1, .int .i64 a2] w fun e w' => e = .returned (.bool r) /\ Drawn0 w w' := by
 have HR0 := Aside0.mk hr0
 have HC0 := Aside0.mk hc0
 clear hr0 hc0
 have H := h
 clear h
 unfold spec_l1Rising.f at H
 have H' := Aside0.mk H
 clear H
 go_enter Try.func81, Try.ntmps81
 go_wp2
 go_loopg [11] k (fun kq v11 w' => ∃ (x11_1 : Int), v11 = .int .i64 x11_1 /\ Aside0 (spec_l1Rising.l0 kq l0 a1 a2 l0 (l0.length : Int) x11_1 = some r) /\ Aside0 (kq <= k) /\ Drawn0 w w')
 case atStart => exact ⟨(0), RG, H', ⟨Nat.le_refl _⟩, DR⟩
 clear H'
 obtain ⟨x11_1, rfl, HA, HK1, ⟨m1, rfl⟩⟩ := hrel
 cases gk with
 | zero => exact absurd HA.1 (by simp [spec_l1Rising.l0])
 | succ k1 => ?_
 have H := HA.1
 clear HA
 simp only [spec_l1Rising.l0] at H
 replace H := ifB H; rcases H with ⟨c4b0, H⟩ | ⟨c4b0, H⟩
 · replace H := ifN H; obtain ⟨c5b0, H⟩ := H
   replace H := ifN H; obtain ⟨c6b0, H⟩ := H
   replace H := bindA H; obtain ⟨t826, A7, H⟩ := H
   replace H := ifX H; rcases H with ⟨rfl, H⟩ | ⟨rfl, H⟩
   · replace H := ifQ H; rcases H with ⟨c9, H⟩ | ⟨c9, H⟩
     · have c9b0 : decide (0 < x11_1) = true := decide_eq_true c9
       clear c9
       obtain ⟨ji10, hji10⟩ : ∃ j_ : Int, (wrap64 (x11_1 - 1)) = j_ := ⟨_, rfl⟩
       replace H : (if 0 <= (ji10) then (if (ji10) < (l0.length : Int) then (if (rd l0 (ji10)) ≥ (rd l0 x11_1) then (some false) else (spec_l1Rising.l0 k1 l0 a1 a2 l0 (l0.length : Int) (wrap64 (x11_1 + 1)))) else (none)) else (none)) = some r := by first | (rw [hji10] at H; exact H) | (simp only [hji10] at H ⊢; exact H)
       (try rw [hji10] at A7)
       have hji10w : (IntKind.i64.wrap (x11_1 - 1)) = ji10 := (i64_w _).trans hji10
       replace H := ifN H; obtain ⟨c11b0, H⟩ := H
       replace H := ifN H; obtain ⟨c12b0, H⟩ := H
       replace H := ifQ H; rcases H with ⟨c13, H⟩ | ⟨c13, H⟩
       · have c13b0 : decide ((rd l0 x11_1) <= (rd l0 (ji10))) = true := decide_eq_true c13
         clear c13
         obtain rfl := Option.some.inj H
         have p825 : 0 <= (x11_1 : Int) := OD
         have q825 : x11_1 < (l0.length : Int) := OD
         obtain ⟨ad825, e825, hx825_0⟩ := Kd.at_int HR0.1 x11_1 p825 q825
         cases e825
         replace p825 := eq_true p825
         replace q825 := eq_true q825
         go_wp2_with (first | ((with_reducible refine gate_callee (f := 55) rfl ?_); refine goesM (N := (some 19)) #[.int .i64 (rd l0 x11_1), .int .i64 a1, .int .i64 a2] Try.func55 ?_; (with_reducible refine (spec_l1In.calls (rd l0 x11_1) a1 a2 true _ A7.1).mono ?_); rintro e w' ⟨rfl, ⟨nd, rfl⟩⟩; refine ⟨_, rfl, ?_⟩; have p827 : 0 <= ((ji10) : Int) := OD; have q827 : (ji10) < (l0.length : Int) := OD; obtain ⟨ad827, e827, hx827_0⟩ := Kd.at_int HR0.1 (ji10) p827 q827; obtain rfl : ad825 = ad827 := (by injection e827); replace p827 := eq_true p827; replace q827 := eq_true q827))
         go_ret
         exact ⟨by first | rfl | (simp; done) | (simp only [<- hji10] <;> (first | rfl | simp)) | (simp [*]; done), DR⟩
       have c13b0 : decide ((rd l0 x11_1) <= (rd l0 (ji10))) = false := decide_eq_false c13
       clear c13
       have H' := Aside0.mk H
       clear H
       have p825 : 0 <= (x11_1 : Int) := OD
       have q825 : x11_1 < (l0.length : Int) := OD
       obtain ⟨ad825, e825, hx825_0⟩ := Kd.at_int HR0.1 x11_1 p825 q825
       cases e825
       replace p825 := eq_true p825
       replace q825 := eq_true q825
       go_wp2_with (first | ((with_reducible refine gate_callee (f := 55) rfl ?_); refine goesM (N := (some 19)) #[.int .i64 (rd l0 x11_1), .int .i64 a1, .int .i64 a2] Try.func55 ?_; (with_reducible refine (spec_l1In.calls (rd l0 x11_1) a1 a2 true _ A7.1).mono ?_); rintro e w' ⟨rfl, ⟨nd, rfl⟩⟩; refine ⟨_, rfl, ?_⟩; have p827 : 0 <= ((ji10) : Int) := OD; have q827 : (ji10) < (l0.length : Int) := OD; obtain ⟨ad827, e827, hx827_0⟩ := Kd.at_int HR0.1 (ji10) p827 q827; obtain rfl : ad825 = ad827 := (by injection e827); replace p827 := eq_true p827; replace q827 := eq_true q827))
       go_roundg k1
       case measure => have := HK1.1; omega
       case rel => exact ⟨(wrap64 (x11_1 + 1)), RG, H', ⟨by have := HK1.1; omega⟩, DR⟩
     have c9b0 : decide (0 < x11_1) = false := decide_eq_false c9
     clear c9
     have H' := Aside0.mk H
     clear H
     have p825 : 0 <= (x11_1 : Int) := OD
     have q825 : x11_1 < (l0.length : Int) := OD
     obtain ⟨ad825, e825, hx825_0⟩ := Kd.at_int HR0.1 x11_1 p825 q825
     cases e825
     replace p825 := eq_true p825
     replace q825 := eq_true q825
     go_wp2_with (first | ((with_reducible refine gate_callee (f := 55) rfl ?_); refine goesM (N := (some 19)) #[.int .i64 (rd l0 x11_1), .int .i64 a1, .int .i64 a2] Try.func55 ?_; (with_reducible refine (spec_l1In.calls (rd l0 x11_1) a1 a2 true _ A7.1).mono ?_); rintro e w' ⟨rfl, ⟨nd, rfl⟩⟩; refine ⟨_, rfl, ?_⟩))
     go_roundg k1
     case measure => have := HK1.1; omega
     case rel => exact ⟨(wrap64 (x11_1 + 1)), RG, H', ⟨by have := HK1.1; omega⟩, DR⟩
   obtain rfl := Option.some.inj H
   have p825 : 0 <= (x11_1 : Int) := OD
   have q825 : x11_1 < (l0.length : Int) := OD
   obtain ⟨ad825, e825, hx825_0⟩ := Kd.at_int HR0.1 x11_1 p825 q825
   cases e825
   replace p825 := eq_true p825
   replace q825 := eq_true q825
   go_wp2_with (first | ((with_reducible refine gate_callee (f := 55) rfl ?_); refine goesM (N := (some 19)) #[.int .i64 (rd l0 x11_1), .int .i64 a1, .int .i64 a2] Try.func55 ?_; (with_reducible refine (spec_l1In.calls (rd l0 x11_1) a1 a2 false _ A7.1).mono ?_); rintro e w' ⟨rfl, ⟨nd, rfl⟩⟩; refine ⟨_, rfl, ?_⟩))
   go_ret
   exact ⟨RG, DR⟩
 obtain rfl := Option.some.inj H
 go_wp2
 go_ret
 exact ⟨RG, DR⟩
def spec_reAsked.f (k : Nat) (a0_0 : Int) (a0_1 : Int) (l0_2 : List (S83)) (l1 : List Int) : Option (Bool) := (spec_reGood.f k a0_0 a0_1 l0_2).bind fun t829 => (if t829 = true then (if (l1.length : Int) > 0 then ((spec_l1Rising.f k l1 0 (wrap64 (a0_1 - 1))).bind fun t830 => (some t830)) else (some false)) else (some false))
theorem spec_reAsked.mono : ∀ a0 a1 a2 a3 k, LeO (spec_reAsked.f k a0 a1 a2 a3) (spec_reAsked.f (k + 1) a0 a1 a2 a3) := by
 intro a0 a1 a2 a3 k
 unfold spec_reAsked.f
 repeat' first
  | (with_reducible exact spec_l1Rising.mono _ _ _ _)
  | (with_reducible exact spec_reGood.mono _ _ _ _)
  | (with_reducible exact LeO.refl _)
  | (with_reducible exact LeO.none _)
  | (with_reducible refine LeO.ite ?_ ?_)
  | (with_reducible refine LeO.bind ?_ (fun _ => ?_))
  | exact spec_l1Rising.mono _ _ _ _
  | exact spec_reGood.mono _ _ _ _
  | exact LeO.none _
  | refine LeO.ite ?_ ?_
  | refine LeO.bind ?_ (fun _ => ?_)
theorem spec_reAsked.calls (k : Nat) (a0_0 : Int) (a0_1 : Int) (A0_2 : Option Addr) (c0_2 : Nat) (l0_2 : List (S83)) (A1 : Option Addr) (c1 : Nat) (l1 : List Int) (r : Bool) (w : World) (hr0_2 : Kd.C k83 w A0_2 l0_2.length l0_2) (hc0_2 : l0_2.length <= c0_2) (hr1 : Kd.C (Kd.int .i64) w A1 l1.length l1) (hc1 : l1.length <= c1) (h : spec_reAsked.f k a0_0 a0_1 l0_2 l1 = some r) :
 Calls Try.prog 57 #[.agg #[.int .i64 a0_0, .int .i64 a0_1, .slice A0_2 l0_2.length c0_2], .slice A1 l1.length c1] w fun e w' => e = .returned (.bool r) /\ Below w.heap.size w w' := by
 have hu30 := Try.underlying30
 have HR0_2 := Aside0.mk hr0_2
 have HC0_2 := Aside0.mk hc0_2
 clear hr0_2 hc0_2
 have HR1 := Aside0.mk hr1
 have HC1 := Aside0.mk hc1
 clear hr1 hc1
 have HB := Aside0.mk (Below.refl w.heap.size w)
 have H := h
 clear h
 unfold spec_reAsked.f at H
 replace H := bindA H; obtain ⟨t829, A3, H⟩ := H
 replace H := ifX H; rcases H with ⟨rfl, H⟩ | ⟨rfl, H⟩
 · replace H := ifQ H; rcases H with ⟨c5, H⟩ | ⟨c5, H⟩
   · have c5b0 : decide (0 < (l1.length : Int)) = true := decide_eq_true c5
     have c5b1 : decide (0 < l1.length) = true := decide_eq_true (by omega)
     clear c5
     replace H := bindA H; obtain ⟨t830, A6, H⟩ := H
     obtain rfl := Option.some.inj H
     go_enter Try.func57, Try.ntmps57
     go_wp2_with (first | ((with_reducible refine gate_dst (N := 2) rfl ?_); (try (refine gate_guard (by rfl) ?_; dsimp only)); refine boxE (cs := #[.int .i64 a0_0, .int .i64 a0_1, .slice A0_2 l0_2.length c0_2]) (t := 30) ?_; intro gb828 hg w7 hbox hb; refine E4b HB.1 hg hbox hb ?_; clear HB; intro HB BK828 GW828 GE828; clear hb hbox hg; obtain ⟨hcz8_0, hcz8_1, hcz8_2, hfz8_0, hfz8_1, hfz8_2⟩ := cz3 BK828.1) | ((with_reducible refine gate_callee (f := 68) rfl ?_); refine goesM (N := (some 6)) #[.agg #[.int .i64 a0_0, .int .i64 a0_1, .slice A0_2 l0_2.length c0_2]] Try.func68 ?_; (with_reducible refine (spec_reGood.calls k a0_0 a0_1 _ _ l0_2 true _ ?side1 ?side2 A3.1).mono ?_); (case side1 => exact CB (C_below HR0_2.1 HB.1)); (case side2 => exact HC0_2.1); rintro e w9 ⟨rfl, hb⟩; refine ⟨_, rfl, ?_⟩; refine E2 (bB BK828.1 hb) (bS HB.1 hb) ?_; clear BK828 HB; intro BK828 HB; (try clear hb); obtain ⟨hcz10_0, hcz10_1, hcz10_2, hfz10_0, hfz10_1, hfz10_2⟩ := cz3 BK828.1) | (go_at_call 81; (with_reducible refine (spec_l1Rising.calls k _ _ l1 0 (wrap64 (a0_1 - 1)) t830 _ ?side1 ?side2 A6.1).mono ?_); (case side1 => exact CB (C_below HR1.1 HB.1)); (case side2 => exact HC1.1); rintro e w' ⟨rfl, ⟨nd, rfl⟩⟩))
     go_ret
     exact ⟨RF, BL HB.1⟩
   have c5b0 : decide (0 < (l1.length : Int)) = false := decide_eq_false c5
   have c5b1 : decide (0 < l1.length) = false := decide_eq_false (by omega)
   clear c5
   obtain rfl := Option.some.inj H
   go_enter Try.func57, Try.ntmps57
   go_wp2_with (first | ((with_reducible refine gate_dst (N := 2) rfl ?_); (try (refine gate_guard (by rfl) ?_; dsimp only)); refine boxE (cs := #[.int .i64 a0_0, .int .i64 a0_1, .slice A0_2 l0_2.length c0_2]) (t := 30) ?_; intro gb828 hg w11 hbox hb; refine E4b HB.1 hg hbox hb ?_; clear HB; intro HB BK828 GW828 GE828; clear hb hbox hg; obtain ⟨hcz12_0, hcz12_1, hcz12_2, hfz12_0, hfz12_1, hfz12_2⟩ := cz3 BK828.1) | ((with_reducible refine gate_callee (f := 68) rfl ?_); refine goesM (N := (some 6)) #[.agg #[.int .i64 a0_0, .int .i64 a0_1, .slice A0_2 l0_2.length c0_2]] Try.func68 ?_; (with_reducible refine (spec_reGood.calls k a0_0 a0_1 _ _ l0_2 true _ ?side1 ?side2 A3.1).mono ?_); (case side1 => exact CB (C_below HR0_2.1 HB.1)); (case side2 => exact HC0_2.1); rintro e w13 ⟨rfl, hb⟩; refine ⟨_, rfl, ?_⟩; refine E2 (bB BK828.1 hb) (bS HB.1 hb) ?_; clear BK828 HB; intro BK828 HB; (try clear hb)))
   go_ret
   exact ⟨RF, BL HB.1⟩
 obtain rfl := Option.some.inj H
 go_enter Try.func57, Try.ntmps57
 go_wp2_with (first | ((with_reducible refine gate_dst (N := 2) rfl ?_); (try (refine gate_guard (by rfl) ?_; dsimp only)); refine boxE (cs := #[.int .i64 a0_0, .int .i64 a0_1, .slice A0_2 l0_2.length c0_2]) (t := 30) ?_; intro gb828 hg w14 hbox hb; refine E4b HB.1 hg hbox hb ?_; clear HB; intro HB BK828 GW828 GE828; clear hb hbox hg; obtain ⟨hcz15_0, hcz15_1, hcz15_2, hfz15_0, hfz15_1, hfz15_2⟩ := cz3 BK828.1) | ((with_reducible refine gate_callee (f := 68) rfl ?_); refine goesM (N := (some 6)) #[.agg #[.int .i64 a0_0, .int .i64 a0_1, .slice A0_2 l0_2.length c0_2]] Try.func68 ?_; (with_reducible refine (spec_reGood.calls k a0_0 a0_1 _ _ l0_2 false _ ?side1 ?side2 A3.1).mono ?_); (case side1 => exact CB (C_below HR0_2.1 HB.1)); (case side2 => exact HC0_2.1); rintro e w16 ⟨rfl, hb⟩; refine ⟨_, rfl, ?_⟩; refine E2 (bB BK828.1 hb) (bS HB.1 hb) ?_; clear BK828 HB; intro BK828 HB; (try clear hb)))
 go_ret
 exact ⟨RF, BL HB.1⟩
def spec_l1Own.f (l0 : List Int) : Option (List Int) := (some (([] : List Int) : List Int)).bind fun y831 => (if y831.length + l0.length < 17592186044416 then (some (y831 ++ l0)) else (none))
theorem spec_l1Own.calls (A0 : Option Addr) (c0 : Nat) (l0 : List Int) (r : List Int) (w : World) (hr0 : Kd.C (Kd.int .i64) w A0 l0.length l0) (hc0 : l0.length <= c0) (h : spec_l1Own.f l0 = some r) :
 Calls Try.prog 59 #[.slice A0 l0.length c0] w fun e w' => ∃ v0_ : Value, e = .returned (v0_) /\ Kd.R (Kd.int .i64) 3 w' w.heap.size (fun _ => True) v0_ r /\ Below w.heap.size w w' := by
 have HR0 := Aside0.mk hr0
 have HC0 := Aside0.mk hc0
 clear hr0 hc0
 have HB := Aside0.mk (Below.refl w.heap.size w)
 have H := h
 clear h
 unfold spec_l1Own.f at H
 replace H := nameB H; obtain ⟨y831, Ny831, H⟩ := H
 replace H := ifP H; obtain ⟨c2, H⟩ := H
 have LMc2 := Aside0.mk c2
 clear c2
 generalize hy834 : ((y831 ++ l0) : List Int) = y834 at H
 have Ny834 := Aside0.mk hy834.symm; clear hy834
 obtain rfl := Option.some.inj H
 go_enter Try.func59, Try.ntmps59
 go_wp2_with (first | ((with_reducible refine gate_dst (N := 3) rfl ?_); refine R_lit (Kd.int .i64) _ 3 ?hg (N := 3) ?hd (xs := ([] : List Int)) (inner := []) (ok := fun _ => True) (okp := fun _ => True) ?hr ?hp (fun _ hk => hk) trivial (Below.refl _ _) (Nat.le_refl _) (by simp) ?_; (case hd => rfl); (case hg => rfl); (case hr => first | (go_simp; done) | (go_simp; rfl)); (case hp => exact (Reps.none _ _)); intro v832 w3 ho4 hb hg_ hnew_; clear hg_ hnew_; (first | rw [<- Ny831.1] at ho4 | (simp only [Int.reduceToNat] at ho4; rw [<- Ny831.1] at ho4)); refine E2 (R_lower ho4 (bZ HB.1)) (bS HB.1 hb) ?_; clear HB; intro HO833 HB; clear hb ho4) | ((with_reducible refine gate_builtin (b := .append) (xs := #[.tmp 3, .tmp 4]) rfl ?_); at_builtin; refine R_append_rows (Kd.int .i64) (w0 := w) w.heap.size rfl (.tmp 3) (.tmp 4) 38 3 (.int .i64 0) 8 rfl Try.underlying38 info3 rfl (by decide) (by omega) v832 y831 l0 _ _ _ (fun _ => True) (fun _ => False) rfl rfl ?aO ?aR (fun _ _ h => h) (fun _ h => h.elim) ?aF ?aB ?aS ?aL ?_; (case aR => repeat (first | exact (C_below HR0.1 HB.1) | (with_reducible refine C_alloc ?_ _) | (with_reducible refine C_drewN ?_ _) | (with_reducible refine C_drew ?_))); (case aB => exact (BL HB.1)); (case aF => exact (fun _ _ => trivial)); (case aO => exact (PR HO833.1)); (case aS => exact (bZ HB.1)); (case aL => have := LMc2.1; omega); intro v835 w5 ho hb hg hat; rw [<- Ny834.1] at ho; refine E2 (hb) (ho) ?_; clear HB HO833; intro HB HO836; clear ho hb hg hat))
 go_ret
 exact ⟨_, RF, RPE (HO836.1), BL HB.1⟩
mutual
def spec_reAll.l0 : Nat -> List Int -> List Int -> List (List Int) -> Int -> Int -> Int -> List (S83) -> Option (List Int × (List (List Int)))
 | 0, _, _, _, _, _, _, _ => none
 | k + 1, x1, x6, x7, x8, x838000, x838001, x838002 => if x8 < (x6.length : Int) then (spec_reAll.l1 k x1 x6 x7 x8 x1 (x1.length : Int) 0 x838000 x838001 x838002) else (some (x6, x7))
def spec_reAll.l1 : Nat -> List Int -> List Int -> List (List Int) -> Int -> List Int -> Int -> Int -> Int -> Int -> List (S83) -> Option (List Int × (List (List Int)))
 | 0, _, _, _, _, _, _, _, _, _, _ => none
 | k + 1, x1, x6, x7, x8, x23, x24, x25, x838000, x838001, x838002 => if x25 < x24 then (if 0 <= x25 then (if x25 < (x23.length : Int) then (if 0 <= x8 then (if x8 < (x6.length : Int) then ((spec_reNext.f k x838000 x838001 x838002 (rd x6 x8) (rd x23 x25)).bind fun bt847 => ((spec_l1Has.f k x6 bt847.1).bind fun t852 => (if t852 = true then (spec_reAll.l1 k x1 x6 x7 x8 x23 x24 (wrap64 (x25 + 1)) x838000 x838001 x838002) else (if x6.length < 17592186044416 then (if x8 < (x7.length : Int) then ((spec_l1Own.f (rd_L3 x7 x8)).bind fun t857 => (if t857.length < 17592186044416 then (if x7.length < 5864062014805 then (spec_reAll.l1 k x1 (x6 ++ [bt847.1]) (x7 ++ [(t857 ++ [rd x23 x25])]) x8 x23 x24 (wrap64 (x25 + 1)) x838000 x838001 x838002) else (none)) else (none))) else (none)) else (none))))) else (none)) else (none)) else (none)) else (none)) else (spec_reAll.l0 k x1 x6 x7 (wrap64 (x8 + 1)) x838000 x838001 x838002)
end
def spec_reAll.f (k : Nat) (a0_0 : Int) (a0_1 : Int) (l0_2 : List (S83)) (l1 : List Int) : Option (List Int × (List (List Int))) := (spec_saNumber.f k a0_0 a0_1 l0_2).bind fun t838 => (spec_reAll.l0 k l1 (([t838] : List Int)) (([[]] : List (List Int))) 0 a0_0 a0_1 l0_2)
theorem spec_reAll.mono_l : ∀ k, (∀ y0 y1 y2 y3 y4 y5 y6, LeO (spec_reAll.l0 k y0 y1 y2 y3 y4 y5 y6) (spec_reAll.l0 (k + 1) y0 y1 y2 y3 y4 y5 y6)) /\ (∀ y0 y1 y2 y3 y4 y5 y6 y7 y8 y9, LeO (spec_reAll.l1 k y0 y1 y2 y3 y4 y5 y6 y7 y8 y9) (spec_reAll.l1 (k + 1) y0 y1 y2 y3 y4 y5 y6 y7 y8 y9))
 | 0 => by refine ⟨?_, ?_⟩ <;> (intros; intro r h; first | (simp [spec_reAll.l0] at h; done) | (simp [spec_reAll.l1] at h; done))
 | k + 1 => by
  obtain ⟨ih0, ih1⟩ := spec_reAll.mono_l k
  refine ⟨?_, ?_⟩ <;> (
   intros
   first | unfold spec_reAll.l0 | unfold spec_reAll.l1
   exact LM5 ih0 ih1 spec_l1Has.mono spec_reNext.mono spec_saNumber.mono)
theorem spec_reAll.mono : ∀ a0 a1 a2 a3 k, LeO (spec_reAll.f k a0 a1 a2 a3) (spec_reAll.f (k + 1) a0 a1 a2 a3) := by
 intro a0 a1 a2 a3 k
 obtain ⟨ih0, ih1⟩ := spec_reAll.mono_l k
 unfold spec_reAll.f
 exact LM5 ih0 ih1 spec_l1Has.mono spec_reNext.mono spec_saNumber.mono
def spec_reAll.T8 : Bool × List (List Nat × List Nat) := (true, [([], []), ([], []), ([], []), ([1, 2], [1, 2]), ([3], [3]), ([], []), ([0, 4, 5], [0, 4, 5]), ([6], [6]), ([7], [7]), ([7], [7]), ([], []), ([8, 6, 0, 1, 2, 3, 4, 5, 6, 7, 8, 10], [8]), ([10, 9, 11, 0, 1, 2, 3, 4, 5, 6, 7, 8, 9, 10, 11], [9, 10])])
def spec_reAll.B8 : List Nat := [0, 0, 0, 6, 14, 0, 63, 127, 255, 255, 0, 1535, 4095]
theorem spec_reAll.tab8 : rtab .any (opsOf Try.f58 8) = spec_reAll.T8 := by kernel_rfl
theorem spec_reAll.bits8 : waitsOk spec_reAll.T8.2 spec_reAll.B8 = true := by kernel_rfl
theorem spec_reAll.calls (k : Nat) (a0_0 : Int) (a0_1 : Int) (A0_2 : Option Addr) (c0_2 : Nat) (l0_2 : List (S83)) (A1 : Option Addr) (c1 : Nat) (l1 : List Int) (r1 : List Int) (r2 : List (List Int)) (w : World) (hr0_2 : Kd.C k83 w A0_2 l0_2.length l0_2) (hc0_2 : l0_2.length <= c0_2) (hr1 : Kd.C (Kd.int .i64) w A1 l1.length l1) (hc1 : l1.length <= c1) (h : spec_reAll.f k a0_0 a0_1 l0_2 l1 = some (r1, r2)) :
 Calls Try.prog 58 #[.agg #[.int .i64 a0_0, .int .i64 a0_1, .slice A0_2 l0_2.length c0_2], .slice A1 l1.length c1] w fun e w' => ∃ v0_ v1_ : Value, e = .returned (.tuple #[v0_, v1_]) /\ Kd.R (Kd.int .i64) 3 w' w.heap.size (fun _ => True) v0_ r1 /\ Kd.S (Kd.slice 3 (Kd.int .i64)) 38 w' w.heap.size (fun k_ => some k_ ≠ (v0_ : Value).ownBlock) v1_ r2 /\ Below w.heap.size w w' := by
 have hu30 := Try.underlying30
 have hu54 := Try.underlying54
 have HR0_2 := Aside0.mk hr0_2
 have HC0_2 := Aside0.mk hc0_2
 clear hr0_2 hc0_2
 have HR1 := Aside0.mk hr1
 have HC1 := Aside0.mk hc1
 clear hr1 hc1
 have HB := Aside0.mk (Below.refl w.heap.size w)
 have H := h
 clear h
 unfold spec_reAll.f at H
 replace H := bindA H; obtain ⟨t838, A3, H⟩ := H
 generalize hy839 : ((([t838] : List Int)) : List Int) = y839 at H
 have Ny839 := Aside0.mk hy839.symm; clear hy839
 generalize hy842 : ((([[]] : List (List Int))) : List (List Int)) = y842 at H
 have Ny842 := Aside0.mk hy842.symm; clear hy842
 have H' := Aside0.mk H
 clear H
 go_enter Try.func58, Try.ntmps58
 go_wp2_with (first | ((with_reducible refine gate_dst (N := 2) rfl ?_); refine boxE (cs := #[.int .i64 a0_0, .int .i64 a0_1, .slice A0_2 l0_2.length c0_2]) (t := 30) ?_; intro gb837 hg w4 hbox hb; refine E4b HB.1 hg hbox hb ?_; clear HB; intro HB BK837 GW837 GE837; clear hb hbox hg; obtain ⟨hcz5_0, hcz5_1, hcz5_2, hfz5_0, hfz5_1, hfz5_2⟩ := cz3 BK837.1) | ((with_reducible refine gate_callee (f := 44) rfl ?_); refine goesM (N := (some 14)) #[.agg #[.int .i64 a0_0, .int .i64 a0_1, .slice A0_2 l0_2.length c0_2]] Try.func44 ?_; (with_reducible refine (spec_saNumber.calls k a0_0 a0_1 _ _ l0_2 t838 _ ?side1 ?side2 A3.1).mono ?_); (case side1 => exact CB (C_below HR0_2.1 HB.1)); (case side2 => exact HC0_2.1); rintro e w6 ⟨rfl, hb⟩; refine ⟨_, rfl, ?_⟩; refine E2 (bB BK837.1 hb) (bS HB.1 hb) ?_; clear BK837 HB; intro BK837 HB; (try clear hb)) | ((with_reducible refine gate_dst (N := 15) rfl ?_); refine R_lit (Kd.int .i64) _ 3 ?hg (N := 15) ?hd (xs := ([t838] : List Int)) (inner := [.int .i64 t838]) (ok := fun _ => True) (okp := fun _ => True) ?hr ?hp (fun _ hk => hk) trivial (Below.refl _ _) (Nat.le_refl _) (by simp) ?_; (case hd => rfl); (case hg => rfl); (case hr => first | (go_simp; done) | (go_simp; rfl)); (case hp => exact (Reps.one (show Kd.M (Kd.int .i64) _ _ _ t838 [.int .i64 t838] from rfl) (Reps.none _ _))); intro v840 w7 ho8 hb hg_ hnew_; clear hg_ hnew_; (first | rw [<- Ny839.1] at ho8 | (simp only [Int.reduceToNat] at ho8; rw [<- Ny839.1] at ho8)); refine E3 (R_lower ho8 (bZ HB.1)) (bB BK837.1 hb) (bS HB.1 hb) ?_; clear BK837 HB; intro HO841 BK837 HB; clear hb ho8) | ((with_reducible refine gate_dst (N := 16) rfl ?_); refine S_lit (Kd.slice 3 (Kd.int .i64)) _ 38 ?hg (N := 16) ?hd (xs := ([[]] : List (List Int))) (inner := [.slice none 0 0]) (ok := fun _ => True) (okp := fun _ => True) ?hr ?hp (fun _ hk => hk) trivial (Below.refl _ _) (Nat.le_refl _) (by simp) ?_; (case hd => rfl); (case hg => rfl); (case hr => first | (go_simp; done) | (go_simp; rfl)); (case hp => exact (Reps.one (show Kd.M (Kd.slice 3 (Kd.int .i64)) _ _ _ [] [.slice none 0 0] from ⟨_, rfl, R_nil _ _ _ _ _⟩) (Reps.none _ _))); intro v843 w9 ho10 hb hg_ hnew_; clear hg_ hnew_; (first | rw [<- Ny842.1] at ho10 | (simp only [Int.reduceToNat] at ho10; rw [<- Ny842.1] at ho10)); refine E4 (rB HO841.1 hb) (S_lower (S_new' ho10 (R_lt (PR HO841.1))) (bZ HB.1)) (bB BK837.1 hb) (bS HB.1 hb) ?_; clear HO841 BK837 HB; intro HO841 HO844 BK837 HB; clear hb ho10))
 go_loopg [6, 7, 8] k (fun kq v6 v7 v8 w' => ∃ (x6_1 : List Int) (x7_1 : List (List Int)) (x8_1 : Int), v8 = .int .i64 x8_1 /\ Aside0 (spec_reAll.l0 kq l1 x6_1 x7_1 x8_1 a0_0 a0_1 l0_2 = some (r1, r2)) /\ Aside0 (kq <= k) /\ Aside0 (Kd.R (Kd.int .i64) 3 w' w.heap.size (fun _ => True) v6 x6_1) /\ Aside0 (Kd.S (Kd.slice 3 (Kd.int .i64)) 38 w' w.heap.size (fun k_ => some k_ ≠ (v6 : Value).ownBlock) v7 x7_1) /\ Aside0 (w'.heap[gb837]? = some (.cells #[.int .i64 a0_0, .int .i64 a0_1, (.slice A0_2 l0_2.length c0_2)] 30 (0, 0))) /\ Aside0 (Below w.heap.size w w'))
 case atStart => exact ⟨(y839), (y842), (0), RG, H', ⟨Nat.le_refl _⟩, ⟨PR HO841.1⟩, ⟨SPE (S_mono HO844.1 (fun _ hk => hk.2))⟩, ⟨PB BK837.1⟩, ⟨BL HB.1⟩⟩
 clear H'
 try clear c1; clear hcz5_0 hcz5_1 hcz5_2 hfz5_0 hfz5_1 hfz5_2
 obtain ⟨x6_1, x7_1, x8_1, rfl, HA, HK1, HO_6, HO_7, BK837, HB⟩ := hrel
 cases gk with
 | zero => exact absurd HA.1 (by simp [spec_reAll.l0])
 | succ k1 => ?_
 have H := HA.1
 clear HA
 simp only [spec_reAll.l0] at H
 replace H := ifB H; rcases H with ⟨c11b0, H⟩ | ⟨c11b0, H⟩
 · have H' := Aside0.mk H
   clear H
   obtain ⟨Ao12, co12, eo12⟩ := R_slice HO_6.1
   subst eo12
   go_wp2
   go_loopg [6, 7, 25] k1 (fun kq v6 v7 v25 w' => ∃ (x6_2 : List Int) (x7_2 : List (List Int)) (x25_2 : Int), v25 = .int .i64 x25_2 /\ Aside0 (spec_reAll.l1 kq l1 x6_2 x7_2 x8_1 l1 (l1.length : Int) x25_2 a0_0 a0_1 l0_2 = some (r1, r2)) /\ Aside0 (kq <= k1) /\ Aside0 (Kd.R (Kd.int .i64) 3 w' w.heap.size (fun _ => True) v6 x6_2) /\ Aside0 (Kd.S (Kd.slice 3 (Kd.int .i64)) 38 w' w.heap.size (fun k_ => some k_ ≠ (v6 : Value).ownBlock) v7 x7_2) /\ Aside0 (w'.heap[gb837]? = some (.cells #[.int .i64 a0_0, .int .i64 a0_1, (.slice A0_2 l0_2.length c0_2)] 30 (0, 0))) /\ Aside0 (Below w.heap.size w w'))
   case atStart => exact ⟨(x6_1), (x7_1), (0), RG, H', ⟨Nat.le_refl _⟩, ⟨PR HO_6.1⟩, ⟨PS HO_7.1⟩, ⟨PB BK837.1⟩, ⟨BL HB.1⟩⟩
   clear H'
   try clear c11b0
   obtain ⟨x6_2, x7_2, x25_2, rfl, HA, HK2, HO_6, HO_7, BK837, HB⟩ := hrel
   cases gk with
   | zero => exact absurd HA.1 (by simp [spec_reAll.l1])
   | succ k2 => ?_
   have H := HA.1
   clear HA
   simp only [spec_reAll.l1] at H
   replace H := ifB H; rcases H with ⟨c13b0, H⟩ | ⟨c13b0, H⟩
   · replace H := ifN H; obtain ⟨c14b0, H⟩ := H
     replace H := ifN H; obtain ⟨c15b0, H⟩ := H
     replace H := ifN H; obtain ⟨c16b0, H⟩ := H
     replace H := ifN H; obtain ⟨c17b0, H⟩ := H
     replace H := bindA H; obtain ⟨⟨t847, t848, t849, t850⟩, A18, H⟩ := H
     dsimp only at H
     replace H := bindA H; obtain ⟨t852, A19, H⟩ := H
     replace H := ifX H; rcases H with ⟨rfl, H⟩ | ⟨rfl, H⟩
     · have H' := Aside0.mk H
       clear H
       have p845 : 0 <= (x25_2 : Int) := OD
       have q845 : x25_2 < (l1.length : Int) := OD
       obtain ⟨ad845, e845, hx845_0⟩ := Kd.at_int HR1.1 x25_2 p845 q845
       cases e845
       replace hx845_0 := (HB.1.cell (World.block_lt_of_cell? w _ hx845_0)).trans hx845_0
       replace p845 := eq_true p845
       replace q845 := eq_true q845
       try go_wp2
       refine E4 (R_drew HO_6.1) (S_drew HO_7.1) (blk_drew BK837.1) (below_drew1 HB.1) ?_
       clear HO_6 HO_7 BK837 HB
       intro HO_6 HO_7 BK837 HB
       obtain ⟨Ao22, co22, eo22⟩ := R_slice HO_6.1
       (first | subst eo22 | (injection eo22 with f1_ f2_ f3_; have f4_ := f1_.symm; have f5_ := f3_.symm; clear f1_ f2_ f3_; subst f4_; subst f5_))
       have p846 : 0 <= (x8_1 : Int) := OD
       have q846 : x8_1 < (x6_2.length : Int) := OD
       obtain ⟨ad846, e846, hx846_0⟩ := Kd.at_int (R_reads' HO_6.1).2.2 x8_1 p846 q846
       cases e846
       replace p846 := eq_true p846
       replace q846 := eq_true q846
       refine start_ (n := 13) (S := fun w' => w'.cell? ⟨gb837, 0, none⟩ = some (.int .i64 a0_0) /\ w'.cell? ⟨gb837, 1, none⟩ = some (.int .i64 a0_1) /\ w'.cell? ⟨gb837, 2, none⟩ = some (.slice A0_2 l0_2.length c0_2) /\ w'.cell? (ad846.add (x8_1).toNat) = some (.int .i64 (rd x6_2 x8_1))) (ds := []) #[Zz,Zz,Zz,Zz,Zz,Zz,Zz,Zz,Zz,Zz,Zz,Zz,Zz] (by kernel_rfl) rfl rfl ⟨(blk_cell BK837.1 0).trans rfl, (blk_cell BK837.1 1).trans rfl, (blk_cell BK837.1 2).trans rfl, hx846_0⟩ (fun hHeld => ?_); refine with_tabW spec_reAll.tab8 spec_reAll.bits8 (fun HT_ HW_ => ?_)
       generalize wr.drew = w21 at HO_6 HO_7 BK837 HB hx846_0 hHeld ⊢
       refine pureF 1 (N := some 31) HT_.1 ?_
       refine pureF 2 (N := some 32) HT_.1 ?_
       refine pureF 3 (N := some 33) HT_.1 ?_
       refine pureF 5 (N := some 35) HT_.1 ?_
       refine takeE 0 (N := some 30) HT_.1 HW_.1 hHeld ?_
       refine takeE 4 (N := some 34) HT_.1 HW_.1 hHeld ?_
       refine join_ (σ := Nat) 2 #[Yy,Yy,Yy,Yy,Yy,Yy,Yy,Yy,Yy,Yy,Yy,Zz,Zz] (fun s_ => [(36, .tuple #[.int .i64 t847, .agg #[.int .i64 t848, .int .i64 t849, .int .i64 t850]]), (12, .pointer (some ⟨s_, 0, none⟩)), (29, .tuple #[.int .i64 t847, .agg #[.int .i64 t848, .int .i64 t849, .int .i64 t850]]), (37, .int .i64 t847), (38, .agg #[.int .i64 t848, .int .i64 t849, .int .i64 t850])]) (fun s_ w' => (w'.cell? ⟨gb837, 0, none⟩ = some (.int .i64 a0_0) /\ w'.cell? ⟨gb837, 1, none⟩ = some (.int .i64 a0_1) /\ w'.cell? ⟨gb837, 2, none⟩ = some (.slice A0_2 l0_2.length c0_2) /\ w'.cell? (ad846.add (x8_1).toNat) = some (.int .i64 (rd x6_2 x8_1))) /\ (Kd.R (Kd.int .i64) 3 w' w.heap.size (fun _ => True) (.slice (some ad846) x6_2.length co22) x6_2) /\ (Kd.S (Kd.slice 3 (Kd.int .i64)) 38 w' w.heap.size (fun k_ => some k_ ≠ (.slice (some ad846) x6_2.length co22 : Value).ownBlock) u7 x7_2) /\ (w'.heap[gb837]? = some (.cells #[.int .i64 a0_0, .int .i64 a0_1, .slice A0_2 l0_2.length c0_2] 30 (0, 0))) /\ (w'.heap[s_]? = some (.cells #[.int .i64 0, .int .i64 0, .int .i64 0] 54 (0, 0))) /\ (w.heap.size <= s_) /\ (w.heap.size <= s_) /\ (gb837 ≠ s_) /\ (s_ ≠ gb837) /\ (Below w.heap.size w w')) ?_ ?_
       rotate_left
       · intro hCont
         refine two_ (i := 6) (j := 10) (Ni := some 36) (Nj := some 12) #[Yy,Yy,Yy,Yy,Yy,Yy,Yy,Zz,Zz,Zz,Zz,Zz,Zz] #[Yy,Yy,Yy,Yy,Yy,Yy,Zz,Zz,Zz,Zz,Yy,Zz,Zz] rfl rfl rfl rfl (two_of HT_.1 (by kernel_rfl)) (by decide) (by decide) (fun K hK => ?_) (fun K hK => ?_)
         · skip
           refine goes_ Try.func43 (by kernel_rfl) rfl #[.agg #[.int .i64 a0_0, .int .i64 a0_1, .slice A0_2 l0_2.length c0_2], .int .i64 (rd x6_2 x8_1), .int .i64 (rd l1 x25_2)] (by rfl) rfl rfl (by (try simp only [List.map_toArray, List.map_cons, List.map_nil]); first | done | rfl | (simp only [List.length_drop, List.length_take]; rfl)) ?_
           with_reducible refine (spec_reNext.calls k2 a0_0 a0_1 _ _ l0_2 (rd x6_2 x8_1) (rd l1 x25_2) t847 t848 t849 t850 _ ?side1 ?side2 A18.1).mono ?_
           (case side1 => exact CB (C_below HR0_2.1 HB.1))
           (case side2 => exact HC0_2.1)
           rintro e w23 ⟨rfl, hb⟩
           have HS3_ := (hb.cell (World.block_lt_of_cell? _ _ (hHeld.2.2.2))).trans (hHeld.2.2.2)
           refine ⟨_, rfl, ?_⟩
           refine E4 (rB HO_6.1 hb) (sB HO_7.1 hb) (bB BK837.1 hb) (bS HB.1 hb) ?_
           clear HO_6 HO_7 BK837 HB
           intro HO_6 HO_7 BK837 HB
           (try clear hb)
           (try clear hb2)
           (try clear hk)
           (try clear hi)
           refine hK.out _ _ ⟨(blk_cell BK837.1 0).trans rfl, (blk_cell BK837.1 1).trans rfl, (blk_cell BK837.1 2).trans rfl, HS3_⟩ (fun hHeld => ?_)
           clear hK K
           refine norm_ (a' := ?_) ?_ ?_
           rotate_left
           · show Act.put _ (some 36) _ = _
             simp only [Act.put, List.setIfInBounds_toArray, List.set_cons_zero, List.set_cons_succ, i64_w, i32_w]
             rfl
           refine pureF 7 (N := some 29) HT_.1 ?_
           refine pureF 8 (N := some 37) HT_.1 ?_
           refine pureF 9 (N := some 38) HT_.1 ?_
           refine one_ (i := 10) (N := some 12) #[Yy,Yy,Yy,Yy,Yy,Yy,Yy,Yy,Yy,Yy,Yy,Zz,Zz] rfl rfl (one_of HT_.1 (by kernel_rfl)) (by decide) (fun K hK => ?_)
           refine box_step ?hg (N := 12) ?hd (cs := #[.int .i64 0, .int .i64 0, .int .i64 0]) (t := 54) ?hr ?_; (case hd => rfl); (case hg => rfl); (case hr => first | (go_simp; done) | (go_simp; rfl))
           intro gb851 hg w24 hbox hb
           have HS3_ := (hb.cell (World.block_lt_of_cell? _ _ (hHeld.2.2.2))).trans (hHeld.2.2.2)
           refine E9 (rB HO_6.1 hb) (sB HO_7.1 hb) (bB BK837.1 hb) (bS HB.1 hb) (hbox) (gX HB.1 hg) (gX HB.1 hg) (nB BK837.1 hg) (nC BK837.1 hg) ?_
           clear HO_6 HO_7 BK837 HB
           intro HO_6 HO_7 BK837 HB BK851 GW851 GE851 NB837_851 NB851_837
           clear hb hbox hg
           refine hK.out _ _ ⟨(blk_cell BK837.1 0).trans rfl, (blk_cell BK837.1 1).trans rfl, (blk_cell BK837.1 2).trans rfl, HS3_⟩ (fun hHeld => ?_)
           clear hK K
           refine norm_ (a' := ?_) ?_ ?_
           rotate_left
           · show Act.put _ (some 12) _ = _
             simp only [Act.put, List.setIfInBounds_toArray, List.set_cons_zero, List.set_cons_succ, i64_w, i32_w]
             rfl
           exact norm_ NA (hCont (gb851) _ ⟨hHeld, (PR HO_6.1), (PS HO_7.1), (PB BK837.1), (PB BK851.1), GW851.1, GE851.1, NB837_851.1, NB851_837.1, (BL HB.1)⟩)
         skip
         refine box_step ?hg (N := 12) ?hd (cs := #[.int .i64 0, .int .i64 0, .int .i64 0]) (t := 54) ?hr ?_; (case hd => rfl); (case hg => rfl); (case hr => first | (go_simp; done) | (go_simp; rfl))
         intro gb851 hg w23 hbox hb
         have HS3_ := (hb.cell (World.block_lt_of_cell? _ _ (hHeld.2.2.2))).trans (hHeld.2.2.2)
         refine E9 (rB HO_6.1 hb) (sB HO_7.1 hb) (bB BK837.1 hb) (bS HB.1 hb) (hbox) (gX HB.1 hg) (gX HB.1 hg) (nB BK837.1 hg) (nC BK837.1 hg) ?_
         clear HO_6 HO_7 BK837 HB
         intro HO_6 HO_7 BK837 HB BK851 GW851 GE851 NB837_851 NB851_837
         clear hb hbox hg
         refine hK.out _ _ ⟨(blk_cell BK837.1 0).trans rfl, (blk_cell BK837.1 1).trans rfl, (blk_cell BK837.1 2).trans rfl, HS3_⟩ (fun hHeld => ?_)
         clear hK K
         refine norm_ (a' := ?_) ?_ ?_
         rotate_left
         · show Act.put _ (some 12) _ = _
           simp only [Act.put, List.setIfInBounds_toArray, List.set_cons_zero, List.set_cons_succ, i64_w, i32_w]
           rfl
         refine one_ (i := 6) (N := some 36) #[Yy,Yy,Yy,Yy,Yy,Yy,Yy,Zz,Zz,Zz,Yy,Zz,Zz] rfl rfl (one_of HT_.1 (by kernel_rfl)) (by decide) (fun K hK => ?_)
         refine goes_ Try.func43 (by kernel_rfl) rfl #[.agg #[.int .i64 a0_0, .int .i64 a0_1, .slice A0_2 l0_2.length c0_2], .int .i64 (rd x6_2 x8_1), .int .i64 (rd l1 x25_2)] (by rfl) rfl rfl (by (try simp only [List.map_toArray, List.map_cons, List.map_nil]); first | done | rfl | (simp only [List.length_drop, List.length_take]; rfl)) ?_
         with_reducible refine (spec_reNext.calls k2 a0_0 a0_1 _ _ l0_2 (rd x6_2 x8_1) (rd l1 x25_2) t847 t848 t849 t850 _ ?side1 ?side2 A18.1).mono ?_
         (case side1 => exact CB (C_below HR0_2.1 HB.1))
         (case side2 => exact HC0_2.1)
         rintro e w24 ⟨rfl, hb⟩
         have HS3_ := (hb.cell (World.block_lt_of_cell? _ _ (hHeld.2.2.2))).trans (hHeld.2.2.2)
         refine ⟨_, rfl, ?_⟩
         refine E5 (rB HO_6.1 hb) (sB HO_7.1 hb) (bB BK837.1 hb) (bB BK851.1 hb) (bS HB.1 hb) ?_
         clear HO_6 HO_7 BK837 BK851 HB
         intro HO_6 HO_7 BK837 BK851 HB
         (try clear hb)
         (try clear hb2)
         (try clear hk)
         (try clear hi)
         refine hK.out _ _ ⟨(blk_cell BK837.1 0).trans rfl, (blk_cell BK837.1 1).trans rfl, (blk_cell BK837.1 2).trans rfl, HS3_⟩ (fun hHeld => ?_)
         clear hK K
         refine norm_ (a' := ?_) ?_ ?_
         rotate_left
         · show Act.put _ (some 36) _ = _
           simp only [Act.put, List.setIfInBounds_toArray, List.set_cons_zero, List.set_cons_succ, i64_w, i32_w]
           rfl
         refine pureF 7 (N := some 29) HT_.1 ?_
         refine pureF 8 (N := some 37) HT_.1 ?_
         refine pureF 9 (N := some 38) HT_.1 ?_
         exact norm_ NA (hCont (gb851) _ ⟨hHeld, (PR HO_6.1), (PS HO_7.1), (PB BK837.1), (PB BK851.1), GW851.1, GE851.1, NB837_851.1, NB851_837.1, (BL HB.1)⟩)
       rintro gb851 w25 ⟨hS_, h0_, h1_, h2_, h3_, h4_, h5_, h6_, h7_, h8_⟩
       refine E9 h0_ h1_ h2_ h3_ h4_ h5_ h6_ h7_ h8_ ?_
       clear HO_6 HO_7 BK837 HB h0_ h1_ h2_ h3_ h4_ h5_ h6_ h7_ h8_
       intro HO_6 HO_7 BK837 BK851 GW851 GE851 NB837_851 NB851_837 HB
       have hHeld : w25.cell? ⟨gb837, 0, none⟩ = some (.int .i64 a0_0) /\ w25.cell? ⟨gb837, 1, none⟩ = some (.int .i64 a0_1) /\ w25.cell? ⟨gb837, 2, none⟩ = some (.slice A0_2 l0_2.length c0_2) /\ w25.cell? (ad846.add (x8_1).toNat) = some (.int .i64 (rd x6_2 x8_1)) := hS_
       refine norm_ (a' := ?_) ?_ ?_
       rotate_left
       · simp only [putAll, Act.put, List.setIfInBounds_toArray, List.set_cons_zero, List.set_cons_succ]
         rfl
       refine pureF 11 (N := some 11) HT_.1 ?_
       refine one_ (i := 12) (N := none) #[Yy,Yy,Yy,Yy,Yy,Yy,Yy,Yy,Yy,Yy,Yy,Yy,Yy] rfl rfl (one_of HT_.1 (by kernel_rfl)) (by decide) (fun K hK => ?_)
       obtain ⟨hs26, hs27, hs28, hfs26, hfs27, hfs28⟩ := cz3 BK851.1
       have hns26_0 := NB837_851.1
       have hms26_0 := NB851_837.1
       refine skip_ (w1 := ?_) (by rfl) rfl ?_ ?_
       rotate_left
       · go_simp
         rfl
       refine hK.out _ _ ⟨(CF3 NB837_851.1 hHeld.1), (CF3 NB837_851.1 hHeld.2.1), (CF3 NB837_851.1 hHeld.2.2.1), ((cell_far (p := ⟨gb851, _, none⟩) (by first | exact Kd.own_blk (R_ne HO_6.1 BK851.1 (by decide)) | (rw [add_block]; exact Kd.own_blk (R_ne HO_6.1 BK851.1 (by decide))) | (show (Addr.add _ _).block ≠ _; rw [add_block]; exact Kd.own_blk (R_ne HO_6.1 BK851.1 (by decide))) | (dsimp only; exact Kd.own_blk (R_ne HO_6.1 BK851.1 (by decide)))) _).trans (((cell_far (p := ⟨gb851, _, none⟩) (by first | exact Kd.own_blk (R_ne HO_6.1 BK851.1 (by decide)) | (rw [add_block]; exact Kd.own_blk (R_ne HO_6.1 BK851.1 (by decide))) | (show (Addr.add _ _).block ≠ _; rw [add_block]; exact Kd.own_blk (R_ne HO_6.1 BK851.1 (by decide))) | (dsimp only; exact Kd.own_blk (R_ne HO_6.1 BK851.1 (by decide)))) _).trans (((cell_far (p := ⟨gb851, _, none⟩) (by first | exact Kd.own_blk (R_ne HO_6.1 BK851.1 (by decide)) | (rw [add_block]; exact Kd.own_blk (R_ne HO_6.1 BK851.1 (by decide))) | (show (Addr.add _ _).block ≠ _; rw [add_block]; exact Kd.own_blk (R_ne HO_6.1 BK851.1 (by decide))) | (dsimp only; exact Kd.own_blk (R_ne HO_6.1 BK851.1 (by decide)))) _).trans (hHeld.2.2.2))))))⟩ (fun hHeld => ?_)
       clear hK K
       refine done_ (done_of HT_.1 (by kernel_rfl)) ?_
       try go_wp2_with (first | ((with_reducible refine gate_callee (f := 62) rfl ?_); refine goesM (N := (some 41)) #[.slice (some ad846) x6_2.length co22, .int .i64 t847] Try.func62 ?_; (with_reducible refine (spec_l1Has.calls k2 _ _ x6_2 t847 true _ ?side1 ?side2 A19.1).mono ?_); (case side1 => refine (R_reads' (e := 3) (base := w.heap.size) (ok := fun k_ => True) (n := x6_2.length) (c := co22) ?_).2.2; exact (by (with_reducible repeat (first | apply R_alloc | apply R_drewN | apply R_drew)); exact (R_mono (RQ gb851 2 (RQ gb851 1 (RQ gb851 0 (R_types HO_6.1 BK851.1 (by decide)) _) _) _) (fun _ h_ => h_.1)))); (case side2 => exact (R_reads' HO_6.1).2.1); rintro e w' ⟨rfl, ⟨nd, rfl⟩⟩; refine ⟨_, rfl, ?_⟩))
       go_roundg k2
       case measure => have := HK1.1; have := HK2.1; omega
       case rel => exact ⟨(x6_2), (x7_2), (wrap64 (x25_2 + 1)), RG, H', ⟨by have := HK1.1; have := HK2.1; omega⟩, ⟨by (with_reducible repeat (first | apply R_alloc | apply R_drewN | apply R_drew)); exact R_mono (RQ gb851 2 (RQ gb851 1 (RQ gb851 0 (R_types HO_6.1 BK851.1 (by decide)) _) _) _) (fun _ hk => trivial)⟩, ⟨by (with_reducible repeat (first | apply S_alloc | apply S_drewN | apply S_drew)); exact S_mono (SQ gb851 2 (SQ gb851 1 (SQ gb851 0 (S_types HO_7.1 BK851.1 (by decide)) _) _) _) (fun _ hk => hk.1)⟩, ⟨by (with_reducible repeat (first | refine blk_drewN ?_ _ | refine blk_drew ?_ | refine blk_alloc ?_ _)); refine blk_far ?_ NB837_851.1 _; (with_reducible repeat (first | refine blk_drewN ?_ _ | refine blk_drew ?_ | refine blk_alloc ?_ _)); refine blk_far ?_ NB837_851.1 _; (with_reducible repeat (first | refine blk_drewN ?_ _ | refine blk_drew ?_ | refine blk_alloc ?_ _)); refine blk_far ?_ NB837_851.1 _; (with_reducible repeat (first | refine blk_drewN ?_ _ | refine blk_drew ?_ | refine blk_alloc ?_ _)); exact BK837.1⟩, ⟨BL HB.1⟩⟩
     replace H := ifP H; obtain ⟨c29, H⟩ := H
     have LMc29 := Aside0.mk c29
     clear c29
     generalize hy853 : ((x6_2 ++ [t847]) : List Int) = y853 at H
     have Ny853 := Aside0.mk hy853.symm; clear hy853
     replace H := ifN H; obtain ⟨c30b0, H⟩ := H
     replace H := bindA H; obtain ⟨t857, A31, H⟩ := H
     replace H := ifP H; obtain ⟨c32, H⟩ := H
     have LMc32 := Aside0.mk c32
     clear c32
     generalize hy860 : ((t857 ++ [rd l1 x25_2]) : List Int) = y860 at H
     have Ny860 := Aside0.mk hy860.symm; clear hy860
     replace H := ifP H; obtain ⟨c33, H⟩ := H
     have LMc33 := Aside0.mk c33
     clear c33
     generalize hy863 : ((x7_2 ++ [y860]) : List (List Int)) = y863 at H
     have Ny863 := Aside0.mk hy863.symm; clear hy863
     have H' := Aside0.mk H
     clear H
     have p845 : 0 <= (x25_2 : Int) := OD
     have q845 : x25_2 < (l1.length : Int) := OD
     obtain ⟨ad845, e845, hx845_0⟩ := Kd.at_int HR1.1 x25_2 p845 q845
     cases e845
     replace hx845_0 := (HB.1.cell (World.block_lt_of_cell? w _ hx845_0)).trans hx845_0
     replace p845 := eq_true p845
     replace q845 := eq_true q845
     try go_wp2
     refine E4 (R_drew HO_6.1) (S_drew HO_7.1) (blk_drew BK837.1) (below_drew1 HB.1) ?_
     clear HO_6 HO_7 BK837 HB
     intro HO_6 HO_7 BK837 HB
     obtain ⟨Ao35, co35, eo35⟩ := R_slice HO_6.1
     (first | subst eo35 | (injection eo35 with f1_ f2_ f3_; have f4_ := f1_.symm; have f5_ := f3_.symm; clear f1_ f2_ f3_; subst f4_; subst f5_))
     have p846 : 0 <= (x8_1 : Int) := OD
     have q846 : x8_1 < (x6_2.length : Int) := OD
     obtain ⟨ad846, e846, hx846_0⟩ := Kd.at_int (R_reads' HO_6.1).2.2 x8_1 p846 q846
     cases e846
     replace p846 := eq_true p846
     replace q846 := eq_true q846
     refine start_ (n := 13) (S := fun w' => w'.cell? ⟨gb837, 0, none⟩ = some (.int .i64 a0_0) /\ w'.cell? ⟨gb837, 1, none⟩ = some (.int .i64 a0_1) /\ w'.cell? ⟨gb837, 2, none⟩ = some (.slice A0_2 l0_2.length c0_2) /\ w'.cell? (ad846.add (x8_1).toNat) = some (.int .i64 (rd x6_2 x8_1))) (ds := []) #[Zz,Zz,Zz,Zz,Zz,Zz,Zz,Zz,Zz,Zz,Zz,Zz,Zz] (by kernel_rfl) rfl rfl ⟨(blk_cell BK837.1 0).trans rfl, (blk_cell BK837.1 1).trans rfl, (blk_cell BK837.1 2).trans rfl, hx846_0⟩ (fun hHeld => ?_); refine with_tabW spec_reAll.tab8 spec_reAll.bits8 (fun HT_ HW_ => ?_)
     generalize wr.drew = w34 at HO_6 HO_7 BK837 HB hx846_0 hHeld ⊢
     refine pureF 1 (N := some 31) HT_.1 ?_
     refine pureF 2 (N := some 32) HT_.1 ?_
     refine pureF 3 (N := some 33) HT_.1 ?_
     refine pureF 5 (N := some 35) HT_.1 ?_
     refine takeE 0 (N := some 30) HT_.1 HW_.1 hHeld ?_
     refine takeE 4 (N := some 34) HT_.1 HW_.1 hHeld ?_
     refine join_ (σ := Nat) 2 #[Yy,Yy,Yy,Yy,Yy,Yy,Yy,Yy,Yy,Yy,Yy,Zz,Zz] (fun s_ => [(36, .tuple #[.int .i64 t847, .agg #[.int .i64 t848, .int .i64 t849, .int .i64 t850]]), (12, .pointer (some ⟨s_, 0, none⟩)), (29, .tuple #[.int .i64 t847, .agg #[.int .i64 t848, .int .i64 t849, .int .i64 t850]]), (37, .int .i64 t847), (38, .agg #[.int .i64 t848, .int .i64 t849, .int .i64 t850])]) (fun s_ w' => (w'.cell? ⟨gb837, 0, none⟩ = some (.int .i64 a0_0) /\ w'.cell? ⟨gb837, 1, none⟩ = some (.int .i64 a0_1) /\ w'.cell? ⟨gb837, 2, none⟩ = some (.slice A0_2 l0_2.length c0_2) /\ w'.cell? (ad846.add (x8_1).toNat) = some (.int .i64 (rd x6_2 x8_1))) /\ (Kd.R (Kd.int .i64) 3 w' w.heap.size (fun _ => True) (.slice (some ad846) x6_2.length co35) x6_2) /\ (Kd.S (Kd.slice 3 (Kd.int .i64)) 38 w' w.heap.size (fun k_ => some k_ ≠ (.slice (some ad846) x6_2.length co35 : Value).ownBlock) u7 x7_2) /\ (w'.heap[gb837]? = some (.cells #[.int .i64 a0_0, .int .i64 a0_1, .slice A0_2 l0_2.length c0_2] 30 (0, 0))) /\ (w'.heap[s_]? = some (.cells #[.int .i64 0, .int .i64 0, .int .i64 0] 54 (0, 0))) /\ (w.heap.size <= s_) /\ (w.heap.size <= s_) /\ (gb837 ≠ s_) /\ (s_ ≠ gb837) /\ (Below w.heap.size w w')) ?_ ?_
     rotate_left
     · intro hCont
       refine two_ (i := 6) (j := 10) (Ni := some 36) (Nj := some 12) #[Yy,Yy,Yy,Yy,Yy,Yy,Yy,Zz,Zz,Zz,Zz,Zz,Zz] #[Yy,Yy,Yy,Yy,Yy,Yy,Zz,Zz,Zz,Zz,Yy,Zz,Zz] rfl rfl rfl rfl (two_of HT_.1 (by kernel_rfl)) (by decide) (by decide) (fun K hK => ?_) (fun K hK => ?_)
       · skip
         refine goes_ Try.func43 (by kernel_rfl) rfl #[.agg #[.int .i64 a0_0, .int .i64 a0_1, .slice A0_2 l0_2.length c0_2], .int .i64 (rd x6_2 x8_1), .int .i64 (rd l1 x25_2)] (by rfl) rfl rfl (by (try simp only [List.map_toArray, List.map_cons, List.map_nil]); first | done | rfl | (simp only [List.length_drop, List.length_take]; rfl)) ?_
         with_reducible refine (spec_reNext.calls k2 a0_0 a0_1 _ _ l0_2 (rd x6_2 x8_1) (rd l1 x25_2) t847 t848 t849 t850 _ ?side1 ?side2 A18.1).mono ?_
         (case side1 => exact CB (C_below HR0_2.1 HB.1))
         (case side2 => exact HC0_2.1)
         rintro e w36 ⟨rfl, hb⟩
         have HS3_ := (hb.cell (World.block_lt_of_cell? _ _ (hHeld.2.2.2))).trans (hHeld.2.2.2)
         refine ⟨_, rfl, ?_⟩
         refine E4 (rB HO_6.1 hb) (sB HO_7.1 hb) (bB BK837.1 hb) (bS HB.1 hb) ?_
         clear HO_6 HO_7 BK837 HB
         intro HO_6 HO_7 BK837 HB
         (try clear hb)
         (try clear hb2)
         (try clear hk)
         (try clear hi)
         refine hK.out _ _ ⟨(blk_cell BK837.1 0).trans rfl, (blk_cell BK837.1 1).trans rfl, (blk_cell BK837.1 2).trans rfl, HS3_⟩ (fun hHeld => ?_)
         clear hK K
         refine norm_ (a' := ?_) ?_ ?_
         rotate_left
         · show Act.put _ (some 36) _ = _
           simp only [Act.put, List.setIfInBounds_toArray, List.set_cons_zero, List.set_cons_succ, i64_w, i32_w]
           rfl
         refine pureF 7 (N := some 29) HT_.1 ?_
         refine pureF 8 (N := some 37) HT_.1 ?_
         refine pureF 9 (N := some 38) HT_.1 ?_
         refine one_ (i := 10) (N := some 12) #[Yy,Yy,Yy,Yy,Yy,Yy,Yy,Yy,Yy,Yy,Yy,Zz,Zz] rfl rfl (one_of HT_.1 (by kernel_rfl)) (by decide) (fun K hK => ?_)
         refine box_step ?hg (N := 12) ?hd (cs := #[.int .i64 0, .int .i64 0, .int .i64 0]) (t := 54) ?hr ?_; (case hd => rfl); (case hg => rfl); (case hr => first | (go_simp; done) | (go_simp; rfl))
         intro gb851 hg w37 hbox hb
         have HS3_ := (hb.cell (World.block_lt_of_cell? _ _ (hHeld.2.2.2))).trans (hHeld.2.2.2)
         refine E9 (rB HO_6.1 hb) (sB HO_7.1 hb) (bB BK837.1 hb) (bS HB.1 hb) (hbox) (gX HB.1 hg) (gX HB.1 hg) (nB BK837.1 hg) (nC BK837.1 hg) ?_
         clear HO_6 HO_7 BK837 HB
         intro HO_6 HO_7 BK837 HB BK851 GW851 GE851 NB837_851 NB851_837
         clear hb hbox hg
         refine hK.out _ _ ⟨(blk_cell BK837.1 0).trans rfl, (blk_cell BK837.1 1).trans rfl, (blk_cell BK837.1 2).trans rfl, HS3_⟩ (fun hHeld => ?_)
         clear hK K
         refine norm_ (a' := ?_) ?_ ?_
         rotate_left
         · show Act.put _ (some 12) _ = _
           simp only [Act.put, List.setIfInBounds_toArray, List.set_cons_zero, List.set_cons_succ, i64_w, i32_w]
           rfl
         exact norm_ NA (hCont (gb851) _ ⟨hHeld, (PR HO_6.1), (PS HO_7.1), (PB BK837.1), (PB BK851.1), GW851.1, GE851.1, NB837_851.1, NB851_837.1, (BL HB.1)⟩)
       skip
       refine box_step ?hg (N := 12) ?hd (cs := #[.int .i64 0, .int .i64 0, .int .i64 0]) (t := 54) ?hr ?_; (case hd => rfl); (case hg => rfl); (case hr => first | (go_simp; done) | (go_simp; rfl))
       intro gb851 hg w36 hbox hb
       have HS3_ := (hb.cell (World.block_lt_of_cell? _ _ (hHeld.2.2.2))).trans (hHeld.2.2.2)
       refine E9 (rB HO_6.1 hb) (sB HO_7.1 hb) (bB BK837.1 hb) (bS HB.1 hb) (hbox) (gX HB.1 hg) (gX HB.1 hg) (nB BK837.1 hg) (nC BK837.1 hg) ?_
       clear HO_6 HO_7 BK837 HB
       intro HO_6 HO_7 BK837 HB BK851 GW851 GE851 NB837_851 NB851_837
       clear hb hbox hg
       refine hK.out _ _ ⟨(blk_cell BK837.1 0).trans rfl, (blk_cell BK837.1 1).trans rfl, (blk_cell BK837.1 2).trans rfl, HS3_⟩ (fun hHeld => ?_)
       clear hK K
       refine norm_ (a' := ?_) ?_ ?_
       rotate_left
       · show Act.put _ (some 12) _ = _
         simp only [Act.put, List.setIfInBounds_toArray, List.set_cons_zero, List.set_cons_succ, i64_w, i32_w]
         rfl
       refine one_ (i := 6) (N := some 36) #[Yy,Yy,Yy,Yy,Yy,Yy,Yy,Zz,Zz,Zz,Yy,Zz,Zz] rfl rfl (one_of HT_.1 (by kernel_rfl)) (by decide) (fun K hK => ?_)
       refine goes_ Try.func43 (by kernel_rfl) rfl #[.agg #[.int .i64 a0_0, .int .i64 a0_1, .slice A0_2 l0_2.length c0_2], .int .i64 (rd x6_2 x8_1), .int .i64 (rd l1 x25_2)] (by rfl) rfl rfl (by (try simp only [List.map_toArray, List.map_cons, List.map_nil]); first | done | rfl | (simp only [List.length_drop, List.length_take]; rfl)) ?_
       with_reducible refine (spec_reNext.calls k2 a0_0 a0_1 _ _ l0_2 (rd x6_2 x8_1) (rd l1 x25_2) t847 t848 t849 t850 _ ?side1 ?side2 A18.1).mono ?_
       (case side1 => exact CB (C_below HR0_2.1 HB.1))
       (case side2 => exact HC0_2.1)
       rintro e w37 ⟨rfl, hb⟩
       have HS3_ := (hb.cell (World.block_lt_of_cell? _ _ (hHeld.2.2.2))).trans (hHeld.2.2.2)
       refine ⟨_, rfl, ?_⟩
       refine E5 (rB HO_6.1 hb) (sB HO_7.1 hb) (bB BK837.1 hb) (bB BK851.1 hb) (bS HB.1 hb) ?_
       clear HO_6 HO_7 BK837 BK851 HB
       intro HO_6 HO_7 BK837 BK851 HB
       (try clear hb)
       (try clear hb2)
       (try clear hk)
       (try clear hi)
       refine hK.out _ _ ⟨(blk_cell BK837.1 0).trans rfl, (blk_cell BK837.1 1).trans rfl, (blk_cell BK837.1 2).trans rfl, HS3_⟩ (fun hHeld => ?_)
       clear hK K
       refine norm_ (a' := ?_) ?_ ?_
       rotate_left
       · show Act.put _ (some 36) _ = _
         simp only [Act.put, List.setIfInBounds_toArray, List.set_cons_zero, List.set_cons_succ, i64_w, i32_w]
         rfl
       refine pureF 7 (N := some 29) HT_.1 ?_
       refine pureF 8 (N := some 37) HT_.1 ?_
       refine pureF 9 (N := some 38) HT_.1 ?_
       exact norm_ NA (hCont (gb851) _ ⟨hHeld, (PR HO_6.1), (PS HO_7.1), (PB BK837.1), (PB BK851.1), GW851.1, GE851.1, NB837_851.1, NB851_837.1, (BL HB.1)⟩)
     rintro gb851 w38 ⟨hS_, h0_, h1_, h2_, h3_, h4_, h5_, h6_, h7_, h8_⟩
     refine E9 h0_ h1_ h2_ h3_ h4_ h5_ h6_ h7_ h8_ ?_
     clear HO_6 HO_7 BK837 HB h0_ h1_ h2_ h3_ h4_ h5_ h6_ h7_ h8_
     intro HO_6 HO_7 BK837 BK851 GW851 GE851 NB837_851 NB851_837 HB
     have hHeld : w38.cell? ⟨gb837, 0, none⟩ = some (.int .i64 a0_0) /\ w38.cell? ⟨gb837, 1, none⟩ = some (.int .i64 a0_1) /\ w38.cell? ⟨gb837, 2, none⟩ = some (.slice A0_2 l0_2.length c0_2) /\ w38.cell? (ad846.add (x8_1).toNat) = some (.int .i64 (rd x6_2 x8_1)) := hS_
     refine norm_ (a' := ?_) ?_ ?_
     rotate_left
     · simp only [putAll, Act.put, List.setIfInBounds_toArray, List.set_cons_zero, List.set_cons_succ]
       rfl
     refine pureF 11 (N := some 11) HT_.1 ?_
     refine one_ (i := 12) (N := none) #[Yy,Yy,Yy,Yy,Yy,Yy,Yy,Yy,Yy,Yy,Yy,Yy,Yy] rfl rfl (one_of HT_.1 (by kernel_rfl)) (by decide) (fun K hK => ?_)
     obtain ⟨hs39, hs40, hs41, hfs39, hfs40, hfs41⟩ := cz3 BK851.1
     have hns39_0 := NB837_851.1
     have hms39_0 := NB851_837.1
     refine skip_ (w1 := ?_) (by rfl) rfl ?_ ?_
     rotate_left
     · go_simp
       rfl
     refine hK.out _ _ ⟨(CF3 NB837_851.1 hHeld.1), (CF3 NB837_851.1 hHeld.2.1), (CF3 NB837_851.1 hHeld.2.2.1), ((cell_far (p := ⟨gb851, _, none⟩) (by first | exact Kd.own_blk (R_ne HO_6.1 BK851.1 (by decide)) | (rw [add_block]; exact Kd.own_blk (R_ne HO_6.1 BK851.1 (by decide))) | (show (Addr.add _ _).block ≠ _; rw [add_block]; exact Kd.own_blk (R_ne HO_6.1 BK851.1 (by decide))) | (dsimp only; exact Kd.own_blk (R_ne HO_6.1 BK851.1 (by decide)))) _).trans (((cell_far (p := ⟨gb851, _, none⟩) (by first | exact Kd.own_blk (R_ne HO_6.1 BK851.1 (by decide)) | (rw [add_block]; exact Kd.own_blk (R_ne HO_6.1 BK851.1 (by decide))) | (show (Addr.add _ _).block ≠ _; rw [add_block]; exact Kd.own_blk (R_ne HO_6.1 BK851.1 (by decide))) | (dsimp only; exact Kd.own_blk (R_ne HO_6.1 BK851.1 (by decide)))) _).trans (((cell_far (p := ⟨gb851, _, none⟩) (by first | exact Kd.own_blk (R_ne HO_6.1 BK851.1 (by decide)) | (rw [add_block]; exact Kd.own_blk (R_ne HO_6.1 BK851.1 (by decide))) | (show (Addr.add _ _).block ≠ _; rw [add_block]; exact Kd.own_blk (R_ne HO_6.1 BK851.1 (by decide))) | (dsimp only; exact Kd.own_blk (R_ne HO_6.1 BK851.1 (by decide)))) _).trans (hHeld.2.2.2))))))⟩ (fun hHeld => ?_)
     clear hK K
     refine done_ (done_of HT_.1 (by kernel_rfl)) ?_
     try go_wp2_with (first | ((with_reducible refine gate_callee (f := 62) rfl ?_); refine goesM (N := (some 41)) #[.slice (some ad846) x6_2.length co35, .int .i64 t847] Try.func62 ?_; (with_reducible refine (spec_l1Has.calls k2 _ _ x6_2 t847 false _ ?side1 ?side2 A19.1).mono ?_); (case side1 => refine (R_reads' (e := 3) (base := w.heap.size) (ok := fun k_ => True) (n := x6_2.length) (c := co35) ?_).2.2; exact (by (with_reducible repeat (first | apply R_alloc | apply R_drewN | apply R_drew)); exact (R_mono (RQ gb851 2 (RQ gb851 1 (RQ gb851 0 (R_types HO_6.1 BK851.1 (by decide)) _) _) _) (fun _ h_ => h_.1)))); (case side2 => exact (R_reads' HO_6.1).2.1); rintro e w' ⟨rfl, ⟨nd, rfl⟩⟩; refine ⟨_, rfl, ?_⟩) | ((with_reducible refine gate_builtin (b := .append) (xs := #[.tmp 43, .tmp 45]) rfl ?_); at_builtin; refine R_append (Kd.int .i64) (w0 := w) w.heap.size rfl (.tmp 43) (.tmp 45) 38 3 (.int .i64 0) 8 rfl Try.underlying38 info3 rfl (by decide) (by omega) (.slice (some ad846) x6_2.length co35) x6_2 t847 [.int .i64 t847] (fun _ => True) (fun _ => False) rfl (by first | (go_simp; done) | (go_simp; rfl)) ?aP (fun _ hk => hk.elim) ?aF ?aO ?aB ?aS ?aL ?_; (case aP => exact rfl); (case aB => exact (BL HB.1)); (case aF => exact (fun _ _ => trivial)); (case aO => exact (by (with_reducible repeat (first | apply R_alloc | apply R_drewN | apply R_drew)); exact R_mono (RQ gb851 2 (RQ gb851 1 (RQ gb851 0 (R_types HO_6.1 BK851.1 (by decide)) _) _) _) (fun _ hk => trivial))); (case aS => exact (bZ HB.1)); (case aL => have := LMc29.1; omega); intro v854 w42 ho hb hg hat; rw [<- Ny853.1] at ho; refine E5 (S_after (ok := (fun _ => True)) (by (with_reducible repeat (first | apply S_alloc | apply S_drewN | apply S_drew)); exact S_mono (SQ gb851 2 (SQ gb851 1 (SQ gb851 0 (S_types HO_7.1 BK851.1 (by decide)) _) _) _) (fun _ hk => ⟨trivial, hk.1⟩)) hg hat) (blk_grown (g := gb837) (o := .cells #[.int .i64 a0_0, .int .i64 a0_1, .slice A0_2 l0_2.length c0_2] 30 (0, 0)) (PF1 NB837_851.1 BK837.1) hg (R_ne HO_6.1 BK837.1 (by decide))) (blk_grown (g := gb851) (o := .cells #[.int .i64 t848, .int .i64 t849, .int .i64 t850] 54 (0, 0)) (PF0 BK851.1) hg (R_ne HO_6.1 BK851.1 (by decide))) (hb) (ho) ?_; clear HO_7 BK837 BK851 HB HO_6; intro HO_7 BK837 BK851 HB HO855; clear ho hb hg hat; obtain ⟨Ao43, co43, eo43⟩ := S_slice HO_7.1; subst eo43; have p856 : 0 <= (x8_1 : Int) := OD; have q856 : x8_1 < (x7_2.length : Int) := OD; obtain ⟨ad856, A856_0, c856_0, e856, hx856_0, hl856_0, hi856_0⟩ := at_L3 (S_reads' HO_7.1).2.2 x8_1 p856 q856; cases e856; obtain ⟨ce856, hce856, hMe856, hcc856⟩ := S_get HO_7.1 [] x8_1 p856 (by first | exact q856 | exact OD | (have e_ := (S_reads' HO_7.1).1; omega)); obtain ⟨ve856_0, rfl, ge856_0⟩ := hMe856; have hv856_0 := hcc856 0 _ rfl; rw [Nat.add_zero, show ((Kd.slice 3 (Kd.int .i64))).sz = 1 from rfl, Nat.mul_one] at hv856_0; replace hv856_0 := Option.some.inj (hv856_0.symm.trans hx856_0); rw [hv856_0] at ge856_0; have HL856_0 := Aside0.mk (show Kd.R (Kd.int .i64) 3 _ _ _ _ (rd_L3 x7_2 x8_1) from ge856_0); clear hv856_0 ge856_0; clear hcc856 hce856; have HR856_0 := Aside0.mk hi856_0; have HC856_0 := Aside0.mk hl856_0; clear hi856_0 hl856_0; replace p856 := eq_true p856; replace q856 := eq_true q856) | ((with_reducible refine gate_callee (f := 59) rfl ?_); refine goesM (N := (some 52)) #[.slice A856_0 (rd_L3 x7_2 x8_1).length c856_0] Try.func59 ?_; (with_reducible refine (spec_l1Own.calls _ _ (rd_L3 x7_2 x8_1) t857 _ ?side1 ?side2 A31.1).mono ?_); (case side1 => repeat (first | exact (by repeat (first | (with_reducible exact HR856_0.1) | (with_reducible refine C_alloc ?_ _) | (with_reducible refine C_drewN ?_ _) | (with_reducible refine C_drew ?_) | exact HR856_0.1)) | (with_reducible refine C_alloc ?_ _) | (with_reducible refine C_drewN ?_ _) | (with_reducible refine C_drew ?_))); (case side2 => exact HC856_0.1); rintro e w44 ⟨v858, rfl, ho0, hb⟩; refine ⟨_, rfl, ?_⟩; refine E8 (S_elder' (PS HO_7.1) (R_base ho0) hb) (R_elder' (PR HO855.1) (R_base ho0) hb) (R_elder' (PR HL856_0.1) (R_base ho0) hb) (R_lower (R_new' (R_new' ho0 (R_lt (PR HO855.1))) (R_lt (PR HL856_0.1))) (bZ HB.1)) (bB BK837.1 hb) (bB BK851.1 hb) (C_below (by repeat (first | (with_reducible exact HR856_0.1) | (with_reducible refine C_alloc ?_ _) | (with_reducible refine C_drewN ?_ _) | (with_reducible refine C_drew ?_) | exact HR856_0.1)) hb) (bS HB.1 hb) ?_; clear HO_7 HO855 HL856_0 BK837 BK851 HR856_0 HB; intro HO_7 HO855 HL856_0 HO859 BK837 BK851 HR856_0 HB; (try clear hb)) | ((with_reducible refine gate_builtin (b := .append) (xs := #[.tmp 52, .tmp 54]) rfl ?_); at_builtin; refine R_append (Kd.int .i64) (w0 := w) w.heap.size rfl (.tmp 52) (.tmp 54) 38 3 (.int .i64 0) 8 rfl Try.underlying38 info3 rfl (by decide) (by omega) v858 t857 (rd l1 x25_2) [.int .i64 (rd l1 x25_2)] (fun k_ => some k_ ≠ (v854 : Value).ownBlock /\ some k_ ≠ (.slice A856_0 (rd_L3 x7_2 x8_1).length c856_0 : Value).ownBlock) (fun _ => False) rfl rfl ?aP (fun _ hk => hk.elim) ?aF ?aO ?aB ?aS ?aL ?_; (case aP => exact rfl); (case aB => exact (BL HB.1)); (case aF => exact (fun k_ hk => ⟨Kd.fresh' (R_lt (PR HO855.1)) k_ hk, Kd.fresh' (R_lt (PR HL856_0.1)) k_ hk⟩)); (case aO => exact (RPE (R_mono HO859.1 (fun _ hk => ⟨hk.1.2, hk.2⟩)))); (case aS => exact (bZ HB.1)); (case aL => have := LMc32.1; omega); intro v861 w45 ho hb hg hat; rw [<- Ny860.1] at ho; refine E7 (S_after (ok := (fun k_ => some k_ ≠ (v854 : Value).ownBlock)) (SPE (S_mono HO_7.1 (fun _ hk => ⟨hk.1.2, hk.2⟩))) hg hat) (bG BK837.1 hg (R_ne HO859.1 BK837.1 (by decide))) (bG BK851.1 hg (R_ne HO859.1 BK851.1 (by decide))) (R_after (ok := (fun _ => True)) (PR HO855.1) hg hat) (R_after (ok := (fun k_ => some k_ ≠ (.slice (some ad856) x7_2.length co43 : Value).ownBlock /\ some k_ ≠ (v854 : Value).ownBlock)) (RPE (R_mono HL856_0.1 (fun _ hk => ⟨⟨hk.1.2, hk.1.1.2⟩, hk.2⟩))) hg hat) (hb) (ho) ?_; clear HO_7 BK837 BK851 HO855 HL856_0 HB HO859; intro HO_7 BK837 BK851 HO855 HL856_0 HB HO862; clear ho hb hg hat; obtain ⟨Ao47, co47, eo47⟩ := R_slice HO862.1; subst eo47) | ((with_reducible refine gate_builtin (b := .append) (xs := #[.tmp 47, .tmp 56]) rfl ?_); at_builtin; refine S_append (Kd.slice 3 (Kd.int .i64)) (w0 := w) w.heap.size rfl (.tmp 47) (.tmp 56) 60 38 (.slice none 0 0) 24 rfl Try.underlying60 info38 rfl (by decide) (by omega) (.slice (some ad856) x7_2.length co43) x7_2 y860 [.slice Ao47 y860.length co47] (fun k_ => some k_ ≠ (v854 : Value).ownBlock) (fun k_ => some k_ = (.slice Ao47 y860.length co47 : Value).ownBlock) rfl rfl ?aP (fun k_ hk_ => ((R_mono (ok' := fun k_ => ((fun k_ => some k_ ≠ (v854 : Value).ownBlock)) k_ /\ some k_ ≠ (.slice (some ad856) x7_2.length co43 : Value).ownBlock) (R_apart' (HO862.1) (S_typed HO_7.1) (by decide)) (fun k_ hk => ⟨hk.1.1, hk.2⟩))).1 k_ hk_.symm) ?aF ?aO ?aB ?aS ?aL ?_; (case aP => exact M_row (R_mono (R_tight rfl (R_mono (ok' := fun k_ => ((fun k_ => some k_ ≠ (v854 : Value).ownBlock)) k_ /\ some k_ ≠ (.slice (some ad856) x7_2.length co43 : Value).ownBlock) (R_apart' (HO862.1) (S_typed HO_7.1) (by decide)) (fun k_ hk => ⟨hk.1.1, hk.2⟩))) (fun _ h_ => h_))); (case aB => exact (BL HB.1)); (case aF => exact (fun k_ hk => Kd.fresh' (R_lt (PR HO855.1)) k_ hk)); (case aO => exact (SPE (S_mono HO_7.1 (fun k_ hk => ⟨hk.1, fun e_ => hk.2 e_⟩)))); (case aS => exact (bZ HB.1)); (case aL => have := LMc33.1; omega); intro v864 w46 ho hb hg hat; rw [<- Ny863.1] at ho; refine E6 (bG BK837.1 hg (S_ne HO_7.1 BK837.1 (by decide))) (bG BK851.1 hg (S_ne HO_7.1 BK851.1 (by decide))) (R_over' (PR HO855.1) (S_typed (PS HO_7.1)) (by decide) hg) (R_after (ok := (fun k_ => some k_ ≠ (v854 : Value).ownBlock /\ some k_ ≠ (.slice Ao47 y860.length co47 : Value).ownBlock)) (RPE (R_mono HL856_0.1 (fun _ hk => ⟨⟨hk.1.2, hk.2⟩, hk.1.1⟩))) hg hat) (hb) (ho) ?_; clear BK837 BK851 HO855 HL856_0 HB HO_7 HO862; intro BK837 BK851 HO855 HL856_0 HB HO865; clear ho hb hg hat))
     go_roundg k2
     case measure => have := HK1.1; have := HK2.1; omega
     case rel => exact ⟨(y853), (y863), (wrap64 (x25_2 + 1)), RG, H', ⟨by have := HK1.1; have := HK2.1; omega⟩, ⟨RPE (R_mono HO855.1 (fun _ hk => trivial))⟩, ⟨PS HO865.1⟩, ⟨PB BK837.1⟩, ⟨BL HB.1⟩⟩
   have H' := Aside0.mk H
   clear H
   go_wp2
   go_roundg k2
   case measure => have := HK1.1; have := HK2.1; omega
   case rel => exact ⟨(x6_2), (x7_2), (wrap64 (x8_1 + 1)), RG, H', ⟨by have := HK1.1; have := HK2.1; omega⟩, ⟨PR HO_6.1⟩, ⟨PS HO_7.1⟩, ⟨PB BK837.1⟩, ⟨BL HB.1⟩⟩
 simp only [Option.some.injEq, Prod.mk.injEq] at H
 obtain ⟨rfl, rfl⟩ := H
 obtain ⟨Ao48, co48, eo48⟩ := R_slice HO_6.1
 subst eo48
 go_wp2
 go_ret2
 exact ⟨_, _, RF, RPE (HO_6.1), SPE (HO_7.1), BL HB.1⟩
def laws_toIntS.l0 : Nat -> List Int -> List Int -> Int -> Option (List Int)
 | 0, _, _, _ => none
 | k + 1, x0, x3, x4 => if x4 < (x0.length : Int) then (if 0 <= x4 then (if x4 < (x3.length : Int) then (laws_toIntS.l0 k x0 (x3.set (x4 : Int).toNat (rd x0 x4)) (wrap64 (x4 + 1))) else (none)) else (none)) else (some x3)
def laws_toIntS.f (k : Nat) (l0 : List Int) : Option (List Int) := if 0 <= (l0.length : Int) then (if ((l0.length : Int) : Int).toNat <= 35184372088832 then (laws_toIntS.l0 k l0 (List.replicate ((l0.length : Int) : Int).toNat 0) 0) else (none)) else (none)
theorem laws_toIntS.mono_l : ∀ k, (∀ y0 y1 y2, LeO (laws_toIntS.l0 k y0 y1 y2) (laws_toIntS.l0 (k + 1) y0 y1 y2))
 | 0 => fun _ _ _ r h => by simp [laws_toIntS.l0] at h
 | k + 1 => by
  have ih0 := laws_toIntS.mono_l k
  intros
  first | unfold laws_toIntS.l0
  exact LM1 ih0
theorem laws_toIntS.mono : ∀ a0 k, LeO (laws_toIntS.f k a0) (laws_toIntS.f (k + 1) a0) := by
 intro a0 k
 have ih0 := laws_toIntS.mono_l k
 unfold laws_toIntS.f
 exact LM1 ih0
theorem laws_toIntS.calls (k : Nat) (A0 : Option Addr) (c0 : Nat) (l0 : List Int) (r : List Int) (w : World) (hr0 : Kd.C (Kd.int .i64) w A0 l0.length l0) (hc0 : l0.length <= c0) (h : laws_toIntS.f k l0 = some r) :
 Calls Try.prog 31 #[.slice A0 l0.length c0] w fun e w' => ∃ v0_ : Value, e = .returned (v0_) /\ Kd.R (Kd.int .i64) 3 w' w.heap.size (fun _ => True) v0_ r /\ Below w.heap.size w w' := by
 have HR0 := Aside0.mk hr0
 have HC0 := Aside0.mk hc0
 clear hr0 hc0
 have HB := Aside0.mk (Below.refl w.heap.size w)
 have H := h
 clear h
 unfold laws_toIntS.f at H
 replace H := ifP H; obtain ⟨c2, H⟩ := H
 have c2b0 := eq_true c2
 have c2b1 := decide_eq_true c2
 clear c2
 replace H := ifP H; obtain ⟨c3, H⟩ := H
 have c3b0 := eq_true c3
 have c3b1 := decide_eq_true c3
 clear c3
 generalize hy883 : ((List.replicate ((l0.length : Int) : Int).toNat 0) : List Int) = y883 at H
 have Ny883 := Aside0.mk hy883.symm; clear hy883
 have H' := Aside0.mk H
 clear H
 go_enter Try.func31, Try.ntmps31
 go_wp2_with (first | ((with_reducible refine gate_dst (N := 7) rfl ?_); refine R_make (Kd.int .i64) _ 3 rfl (N := 7) rfl 38 _ _ rfl (l0.length : Int) rfl rfl Try.underlying38 (.int .i64 0) 8 info3 rfl (by decide) (by omega) 0 (ok := fun _ => True) (okp := fun _ => True) rfl (fun _ hk => hk) trivial (OD) (Nat.le_trans (Nat.mul_le_mul_right _ (OD : (l0.length : Int).toNat <= 35184372088832)) (by omega)) (Below.refl _ _) (Nat.le_refl _) ?_; intro v884 w4 ho5 hb hg_ hnew_; clear hg_ hnew_; (first | rw [<- Ny883.1] at ho5 | (simp only [Int.reduceToNat] at ho5; rw [<- Ny883.1] at ho5)); refine E2 (R_lower ho5 (bZ HB.1)) (bS HB.1 hb) ?_; clear HB; intro HO885 HB; clear hb ho5))
 go_loopg [4] k (fun kq v4 w' => ∃ (x3_1 : List Int) (x4_1 : Int), v4 = .int .i64 x4_1 /\ Aside0 (laws_toIntS.l0 kq l0 x3_1 x4_1 = some r) /\ Aside0 (kq <= k) /\ Aside0 (Kd.R (Kd.int .i64) 3 w' w.heap.size (fun _ => True) v884 x3_1) /\ Aside0 (Below w.heap.size w w'))
 case atStart => exact ⟨(y883), (0), RG, H', ⟨Nat.le_refl _⟩, ⟨PR HO885.1⟩, ⟨BL HB.1⟩⟩
 clear H'
 clear c2b0 c2b1 c3b0 c3b1
 obtain ⟨x3_1, x4_1, rfl, HA, HK1, HO_3, HB⟩ := hrel
 cases gk with
 | zero => exact absurd HA.1 (by simp [laws_toIntS.l0])
 | succ k1 => ?_
 have H := HA.1
 clear HA
 simp only [laws_toIntS.l0] at H
 replace H := ifB H; rcases H with ⟨c6b0, H⟩ | ⟨c6b0, H⟩
 · replace H := ifN H; obtain ⟨c7b0, H⟩ := H
   replace H := ifN H; obtain ⟨c8b0, H⟩ := H
   generalize hy887 : ((x3_1.set (x4_1 : Int).toNat (rd l0 x4_1)) : List Int) = y887 at H
   have Ny887 := Aside0.mk hy887.symm; clear hy887
   have H' := Aside0.mk H
   clear H
   have p886 : 0 <= (x4_1 : Int) := OD
   have q886 : x4_1 < (l0.length : Int) := OD
   obtain ⟨ad886, e886, hx886_0⟩ := Kd.at_int HR0.1 x4_1 p886 q886
   cases e886
   replace hx886_0 := (HB.1.cell (World.block_lt_of_cell? w _ hx886_0)).trans hx886_0
   replace p886 := eq_true p886
   replace q886 := eq_true q886
   have p9 : 0 <= (x4_1 : Int) := OD
   have q9 : (x4_1 : Int) < ((x3_1.length : Int) : Int) := OD
   obtain ⟨go9, co9, eo9, gb9, gl9, cl9, HG9⟩ := R_form HO_3.1 (by omega)
   (first | cases eo9 | (injection eo9 with ea_ en_ ec_; (first | subst ea_ | (injection ea_ with ea_; subst ea_)); subst ec_; clear en_))
   have GB9 := Aside0.mk gb9
   have GG9 := Aside0.mk HG9
   clear gb9 gl9 HG9
   obtain ⟨hx9_0, hf9_0⟩ := R_celln 0 HO_3.1 (x4_1 : Int) p9 q9
   replace p9 := eq_true p9
   replace q9 := eq_true q9
   have HP10 := R_putg HO_3.1 (x4_1 : Int) (rd l0 x4_1)
   go_wp2_with (first | ((with_reducible refine gate_store (t := 3) (p := 20) rfl ?_); refine storeE (t := 3) (p := 20) (w1 := (wr.setCell ⟨go9, (x4_1 : Int).toNat, none⟩ (.int .i64 (rd l0 x4_1)))) ?_; intro w11 hw; have hg : wr.grownBy w11 (some go9) := (by rw [hw]; exact HP10.2); have hp_ : Kd.R (Kd.int .i64) 3 w11 w.heap.size (fun _ => True) (.slice (some ⟨go9, 0, none⟩) x3_1.length co9) y887 := (by rw [hw, Ny887.1]; exact HP10.1); clear HP10; refine E2 (hp_) ((by rw [hw]; exact below_set (HB.1) GB9.1 : Below w.heap.size w w11)) ?_; clear HO_3 HB; intro HO_3 HB; clear hg hw hp_))
   go_roundg k1
   case measure => have := HK1.1; omega
   case rel => exact ⟨(y887), (wrap64 (x4_1 + 1)), RG, H', ⟨by have := HK1.1; omega⟩, ⟨PR HO_3.1⟩, ⟨BL HB.1⟩⟩
 obtain rfl := Option.some.inj H
 go_wp2
 go_ret
 exact ⟨_, RF, RPE (HO_3.1), BL HB.1⟩
def impl_validEntriesUp.l0 : Nat -> List Int -> List Int -> Int -> Int -> Int -> Int -> List (S83) -> Option (Bool)
 | 0, _, _, _, _, _, _, _ => none
 | k + 1, x1, x10, x11, x12, x889000, x889001, x889002 => if x12 < x11 then (if 0 <= x12 then (if x12 < (x10.length : Int) then (if (rd x10 x12) < 0 then (some false) else (if (rd x10 x12) ≥ x889001 then (some false) else (if x12 > 0 then (if 0 <= (wrap64 (x12 - 1)) then (if (wrap64 (x12 - 1)) < (x1.length : Int) then (if (rd x10 x12) <= (rd x1 (wrap64 (x12 - 1))) then (some false) else (impl_validEntriesUp.l0 k x1 x10 x11 (wrap64 (x12 + 1)) x889000 x889001 x889002)) else (none)) else (none)) else (impl_validEntriesUp.l0 k x1 x10 x11 (wrap64 (x12 + 1)) x889000 x889001 x889002)))) else (none)) else (none)) else (some true)
def impl_validEntriesUp.f (k : Nat) (a0_0 : Int) (a0_1 : Int) (l0_2 : List (S83)) (l1 : List Int) : Option (Bool) := if (l1.length : Int) < 1 then (some false) else (impl_validEntriesUp.l0 k l1 l1 (l1.length : Int) 0 a0_0 a0_1 l0_2)
theorem impl_validEntriesUp.mono_l : ∀ k, (∀ y0 y1 y2 y3 y4 y5 y6, LeO (impl_validEntriesUp.l0 k y0 y1 y2 y3 y4 y5 y6) (impl_validEntriesUp.l0 (k + 1) y0 y1 y2 y3 y4 y5 y6))
 | 0 => fun _ _ _ _ _ _ _ r h => by simp [impl_validEntriesUp.l0] at h
 | k + 1 => by
  have ih0 := impl_validEntriesUp.mono_l k
  intros
  first | unfold impl_validEntriesUp.l0
  exact LM1 ih0
theorem impl_validEntriesUp.mono : ∀ a0 a1 a2 a3 k, LeO (impl_validEntriesUp.f k a0 a1 a2 a3) (impl_validEntriesUp.f (k + 1) a0 a1 a2 a3) := by
 intro a0 a1 a2 a3 k
 have ih0 := impl_validEntriesUp.mono_l k
 unfold impl_validEntriesUp.f
 exact LM1 ih0
theorem impl_validEntriesUp.calls (k : Nat) (a0_0 : Int) (a0_1 : Int) (A0_2 : Option Addr) (c0_2 : Nat) (l0_2 : List (S83)) (A1 : Option Addr) (c1 : Nat) (l1 : List Int) (r : Bool) (w : World) (hr0_2 : Kd.C k83 w A0_2 l0_2.length l0_2) (hc0_2 : l0_2.length <= c0_2) (hr1 : Kd.C (Kd.int .i64) w A1 l1.length l1) (hc1 : l1.length <= c1) (h : impl_validEntriesUp.f k a0_0 a0_1 l0_2 l1 = some r) :
 Calls Try.prog 60 #[.agg #[.int .i64 a0_0, .int .i64 a0_1, .slice A0_2 l0_2.length c0_2], .slice A1 l1.length c1] w fun e w' => e = .returned (.bool r) /\ Below w.heap.size w w' := by
 have hu30 := Try.underlying30
 have HR0_2 := Aside0.mk hr0_2
 have HC0_2 := Aside0.mk hc0_2
 clear hr0_2 hc0_2
 have HR1 := Aside0.mk hr1
 have HC1 := Aside0.mk hc1
 clear hr1 hc1
 have HB := Aside0.mk (Below.refl w.heap.size w)
 have H := h
 clear h
 unfold impl_validEntriesUp.f at H
 replace H := ifQ H; rcases H with ⟨c3, H⟩ | ⟨c3, H⟩
 · have c3b0 := decide_eq_true c3
   have c3b1 : decide (l1.length < 1) = true := decide_eq_true (by omega)
   clear c3
   obtain rfl := Option.some.inj H
   go_enter Try.func60, Try.ntmps60
   go_wp2_with (first | ((with_reducible refine gate_dst (N := 2) rfl ?_); refine boxE (cs := #[.int .i64 a0_0, .int .i64 a0_1, .slice A0_2 l0_2.length c0_2]) (t := 30) ?_; intro gb888 hg w4 hbox hb; refine E4b HB.1 hg hbox hb ?_; clear HB; intro HB BK888 GW888 GE888; clear hb hbox hg))
   go_ret
   exact ⟨RF, BL HB.1⟩
 have c3b0 := decide_eq_false c3
 have c3b1 : decide (l1.length < 1) = false := decide_eq_false (by omega)
 clear c3
 have H' := Aside0.mk H
 clear H
 go_enter Try.func60, Try.ntmps60
 go_wp2_with (first | ((with_reducible refine gate_dst (N := 2) rfl ?_); refine boxE (cs := #[.int .i64 a0_0, .int .i64 a0_1, .slice A0_2 l0_2.length c0_2]) (t := 30) ?_; intro gb888 hg w5 hbox hb; refine E4b HB.1 hg hbox hb ?_; clear HB; intro HB BK888 GW888 GE888; clear hb hbox hg))
 go_loopg [12] k (fun kq v12 w' => ∃ (x12_1 : Int), v12 = .int .i64 x12_1 /\ Aside0 (impl_validEntriesUp.l0 kq l1 l1 (l1.length : Int) x12_1 a0_0 a0_1 l0_2 = some r) /\ Aside0 (kq <= k) /\ Aside0 (w'.heap[gb888]? = some (.cells #[.int .i64 a0_0, .int .i64 a0_1, (.slice A0_2 l0_2.length c0_2)] 30 (0, 0))) /\ Aside0 (Below w.heap.size w w'))
 case atStart => exact ⟨(0), RG, H', ⟨Nat.le_refl _⟩, ⟨PB BK888.1⟩, ⟨BL HB.1⟩⟩
 clear H'
 try clear c1; clear c3b0 c3b1
 obtain ⟨x12_1, rfl, HA, HK1, BK888, HB⟩ := hrel
 cases gk with
 | zero => exact absurd HA.1 (by simp [impl_validEntriesUp.l0])
 | succ k1 => ?_
 have H := HA.1
 clear HA
 simp only [impl_validEntriesUp.l0] at H
 replace H := ifB H; rcases H with ⟨c6b0, H⟩ | ⟨c6b0, H⟩
 · replace H := ifN H; obtain ⟨c7b0, H⟩ := H
   replace H := ifN H; obtain ⟨c8b0, H⟩ := H
   replace H := ifB H; rcases H with ⟨c9b0, H⟩ | ⟨c9b0, H⟩
   · obtain rfl := Option.some.inj H
     have p889 : 0 <= (x12_1 : Int) := OD
     have q889 : x12_1 < (l1.length : Int) := OD
     obtain ⟨ad889, e889, hx889_0⟩ := Kd.at_int HR1.1 x12_1 p889 q889
     cases e889
     replace hx889_0 := (HB.1.cell (World.block_lt_of_cell? w _ hx889_0)).trans hx889_0
     replace p889 := eq_true p889
     replace q889 := eq_true q889
     go_wp2
     go_ret
     exact ⟨RF, BL HB.1⟩
   replace H := ifQ H; rcases H with ⟨c10, H⟩ | ⟨c10, H⟩
   · have c10b0 : decide (a0_1 <= (rd l1 x12_1)) = true := decide_eq_true c10
     clear c10
     obtain rfl := Option.some.inj H
     have p889 : 0 <= (x12_1 : Int) := OD
     have q889 : x12_1 < (l1.length : Int) := OD
     obtain ⟨ad889, e889, hx889_0⟩ := Kd.at_int HR1.1 x12_1 p889 q889
     cases e889
     replace hx889_0 := (HB.1.cell (World.block_lt_of_cell? w _ hx889_0)).trans hx889_0
     replace p889 := eq_true p889
     replace q889 := eq_true q889
     obtain ⟨hcz11_0, hcz11_1, hcz11_2, hfz11_0, hfz11_1, hfz11_2⟩ := cz3 BK888.1
     go_wp2
     go_ret
     exact ⟨RF, BL HB.1⟩
   have c10b0 : decide (a0_1 <= (rd l1 x12_1)) = false := decide_eq_false c10
   clear c10
   replace H := ifQ H; rcases H with ⟨c12, H⟩ | ⟨c12, H⟩
   · have c12b0 : decide (0 < x12_1) = true := decide_eq_true c12
     clear c12
     obtain ⟨ji13, hji13⟩ : ∃ j_ : Int, (wrap64 (x12_1 - 1)) = j_ := ⟨_, rfl⟩
     replace H : (if 0 <= (ji13) then (if (ji13) < (l1.length : Int) then (if (rd l1 x12_1) <= (rd l1 (ji13)) then (some false) else (impl_validEntriesUp.l0 k1 l1 l1 (l1.length : Int) (wrap64 (x12_1 + 1)) a0_0 a0_1 l0_2)) else (none)) else (none)) = some r := by first | (rw [hji13] at H; exact H) | (simp only [hji13] at H ⊢; exact H)
     have hji13w : (IntKind.i64.wrap (x12_1 - 1)) = ji13 := (i64_w _).trans hji13
     replace H := ifN H; obtain ⟨c14b0, H⟩ := H
     replace H := ifN H; obtain ⟨c15b0, H⟩ := H
     replace H := ifB H; rcases H with ⟨c16b0, H⟩ | ⟨c16b0, H⟩
     · obtain rfl := Option.some.inj H
       have p889 : 0 <= (x12_1 : Int) := OD
       have q889 : x12_1 < (l1.length : Int) := OD
       obtain ⟨ad889, e889, hx889_0⟩ := Kd.at_int HR1.1 x12_1 p889 q889
       cases e889
       replace hx889_0 := (HB.1.cell (World.block_lt_of_cell? w _ hx889_0)).trans hx889_0
       replace p889 := eq_true p889
       replace q889 := eq_true q889
       obtain ⟨hcz17_0, hcz17_1, hcz17_2, hfz17_0, hfz17_1, hfz17_2⟩ := cz3 BK888.1
       have p890 : 0 <= ((ji13) : Int) := OD
       have q890 : (ji13) < (l1.length : Int) := OD
       obtain ⟨ad890, e890, hx890_0⟩ := Kd.at_int HR1.1 (ji13) p890 q890
       obtain rfl : ad889 = ad890 := (by injection e890)
       replace hx890_0 := (HB.1.cell (World.block_lt_of_cell? w _ hx890_0)).trans hx890_0
       replace p890 := eq_true p890
       replace q890 := eq_true q890
       go_wp2
       go_ret
       exact ⟨by first | rfl | (simp [errW_none, errW_some] <;> rfl) | (simp only [<- hji13]; first | rfl | (simp [errW_none, errW_some] <;> rfl)) | (simp [*, errW_none, errW_some] <;> rfl), BL HB.1⟩
     have H' := Aside0.mk H
     clear H
     have p889 : 0 <= (x12_1 : Int) := OD
     have q889 : x12_1 < (l1.length : Int) := OD
     obtain ⟨ad889, e889, hx889_0⟩ := Kd.at_int HR1.1 x12_1 p889 q889
     cases e889
     replace hx889_0 := (HB.1.cell (World.block_lt_of_cell? w _ hx889_0)).trans hx889_0
     replace p889 := eq_true p889
     replace q889 := eq_true q889
     obtain ⟨hcz18_0, hcz18_1, hcz18_2, hfz18_0, hfz18_1, hfz18_2⟩ := cz3 BK888.1
     have p890 : 0 <= ((ji13) : Int) := OD
     have q890 : (ji13) < (l1.length : Int) := OD
     obtain ⟨ad890, e890, hx890_0⟩ := Kd.at_int HR1.1 (ji13) p890 q890
     obtain rfl : ad889 = ad890 := (by injection e890)
     replace hx890_0 := (HB.1.cell (World.block_lt_of_cell? w _ hx890_0)).trans hx890_0
     replace p890 := eq_true p890
     replace q890 := eq_true q890
     go_wp2
     go_roundg k1
     case measure => have := HK1.1; omega
     case rel => exact ⟨(wrap64 (x12_1 + 1)), RG, H', ⟨by have := HK1.1; omega⟩, ⟨PB BK888.1⟩, ⟨BL HB.1⟩⟩
   have c12b0 : decide (0 < x12_1) = false := decide_eq_false c12
   clear c12
   have H' := Aside0.mk H
   clear H
   have p889 : 0 <= (x12_1 : Int) := OD
   have q889 : x12_1 < (l1.length : Int) := OD
   obtain ⟨ad889, e889, hx889_0⟩ := Kd.at_int HR1.1 x12_1 p889 q889
   cases e889
   replace hx889_0 := (HB.1.cell (World.block_lt_of_cell? w _ hx889_0)).trans hx889_0
   replace p889 := eq_true p889
   replace q889 := eq_true q889
   obtain ⟨hcz19_0, hcz19_1, hcz19_2, hfz19_0, hfz19_1, hfz19_2⟩ := cz3 BK888.1
   go_wp2
   go_roundg k1
   case measure => have := HK1.1; omega
   case rel => exact ⟨(wrap64 (x12_1 + 1)), RG, H', ⟨by have := HK1.1; omega⟩, ⟨PB BK888.1⟩, ⟨BL HB.1⟩⟩
 obtain rfl := Option.some.inj H
 go_wp2
 go_ret
 exact ⟨RF, BL HB.1⟩
end Go.Proofs.Ytbpfdbjnnlmdjaa.P
