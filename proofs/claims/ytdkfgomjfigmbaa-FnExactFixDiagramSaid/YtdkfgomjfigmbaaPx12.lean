-- PRINTED by print.py (a twelfth state) out of the translation. Not trusted: Lean checks it.
import Derived.Test.YtdkfgomjfigmbaaPx0
import Derived.Test.YtdkfgomjfigmbaaPx2
import Derived.Test.YtdkfgomjfigmbaaPx8
namespace Go.Proofs.Ytdkfgomjfigmbaa.P
open Go.RowKit Go.Proofs.YtdkfgomjfigmbaaW.PrintWords Go.Proofs.YtdkfgomjfigmbaaW.PrintLast Go.Proofs.YtdkfgomjfigmbaaW.PrintMore
attribute [local go_sem] max2_int min2_int max_two min_two max_three min_three max_four min_four   -- for this text's walks alone
set_option linter.unusedVariables false
set_option linter.unusedSimpArgs false

/-! ### spec_ttGood: function 51 -/
open Kd
def spec_ttGood.f (k : Nat) (a0_0 : Int) (l0_1 : List Int) : Option (Bool) := (spec_ttInputs.f a0_0).bind fun t260 => (if t260 = true then (if 0 <= (IntKind.u64.wrap (a0_0)) then (if (l0_1.length : Int) = (shl .i64 1 (IntKind.u64.wrap (a0_0))) then ((spec_l1All.f k l0_1 0 1).bind fun t261 => (some t261)) else (some false)) else (none)) else (some false))
theorem spec_ttGood.mono : ∀ a0 a1 k, LeO (spec_ttGood.f k a0 a1) (spec_ttGood.f (k + 1) a0 a1) := by
 intro a0 a1 k
 unfold spec_ttGood.f
 repeat' first
  | (with_reducible exact spec_l1All.mono _ _ _ _)
  | (with_reducible exact LeO.refl _)
  | (with_reducible exact LeO.none _)
  | (with_reducible refine LeO.ite ?_ ?_)
  | (with_reducible refine LeO.bind ?_ (fun _ => ?_))
  | exact spec_l1All.mono _ _ _ _
  | exact LeO.none _
  | refine LeO.ite ?_ ?_
  | refine LeO.bind ?_ (fun _ => ?_)
set_option maxHeartbeats 8000000 in
set_option maxRecDepth 100000 in
theorem spec_ttGood.calls (k : Nat) (a0_0 : Int) (A0_1 : Option Addr) (c0_1 : Nat) (l0_1 : List Int) (r : Bool) (w : World) (hr0_1 : Kd.C (Kd.int .i64) w A0_1 l0_1.length l0_1) (hc0_1 : l0_1.length <= c0_1) (h : spec_ttGood.f k a0_0 l0_1 = some r) :
 Calls Try.prog 51 #[.agg #[.int .i64 a0_0, .slice A0_1 l0_1.length c0_1]] w fun e w' => e = .returned (.bool r) /\ Below w.heap.size w w' := by
 have hu41 := Try.underlying41
 have HR0_1 := Aside0.mk hr0_1
 have HC0_1 := Aside0.mk hc0_1
 clear hr0_1 hc0_1
 have HB := Aside0.mk (Below.refl w.heap.size w)
 have H := h
 clear h
 unfold spec_ttGood.f at H
 replace H := bindA H; obtain ⟨t260, A2, H⟩ := H
 replace H := ifX H; rcases H with ⟨rfl, H⟩ | ⟨rfl, H⟩
 · obtain ⟨ji4, hji4⟩ : ∃ j_ : Int, (IntKind.u64.wrap (a0_0)) = j_ := ⟨_, rfl⟩
   replace H : (if 0 <= (ji4) then (if (l0_1.length : Int) = (shl .i64 1 (ji4)) then ((spec_l1All.f k l0_1 0 1).bind fun t261 => (some t261)) else (some false)) else (none)) = some r := by first | (rw [hji4] at H; exact H) | (simp only [hji4] at H ⊢; exact H)
   (try rw [hji4] at A2)
   replace H := ifP H; obtain ⟨c5, H⟩ := H
   have c5b0 := eq_true c5
   have c5b1 := decide_eq_true c5
   clear c5
   obtain ⟨ji6, hji6⟩ : ∃ j_ : Int, (shl .i64 1 (ji4)) = j_ := ⟨_, rfl⟩
   replace H : (if (l0_1.length : Int) = (ji6) then ((spec_l1All.f k l0_1 0 1).bind fun t261 => (some t261)) else (some false)) = some r := by first | (rw [hji6] at H; exact H) | (simp only [hji6] at H ⊢; exact H)
   (try rw [hji6] at A2)
   have hji6_ : (IntKind.i64.wrap (1 * 2 ^ min (ji4).toNat 64)) = ji6 := hji6
   have hji6z : (ji4) <= 64 -> (IntKind.i64.wrap (1 * 2 ^ (ji4).toNat)) = ji6 := shl_small hji6
   have hji6u : (IntKind.i64.wrap (2 ^ min (ji4).toNat 64)) = ji6 := by have h_ := hji6_; rw [Int.one_mul] at h_; exact h_
   have hji6v : (ji4) <= 64 -> (IntKind.i64.wrap (2 ^ (ji4).toNat)) = ji6 := fun hle_ => by have h_ := hji6z hle_; rw [Int.one_mul] at h_; exact h_
   have hji6y : (wrap64 (1 * 2 ^ min (ji4).toNat 64)) = ji6 := (i64_w _).symm.trans hji6_
   have hji6x : (ji4) <= 64 -> (wrap64 (1 * 2 ^ (ji4).toNat)) = ji6 := fun h_ => (i64_w _).symm.trans (hji6z h_)
   replace H := ifQ H; rcases H with ⟨c7, H⟩ | ⟨c7, H⟩
   · have c7b0 := beq_iff_eq.mpr c7
     have c7b1 := bne_eq_false_iff_eq.mpr c7
     clear c7
     replace H := bindA H; obtain ⟨t261, A8, H⟩ := H
     obtain rfl := Option.some.inj H
     go_enter Try.func51, Try.ntmps51
     go_wp2_with (first | ((with_reducible refine gate_dst (N := 1) rfl ?_); (try (refine gate_guard (by rfl) ?_; dsimp only)); refine boxE (cs := #[.int .i64 a0_0, .slice A0_1 l0_1.length c0_1]) (t := 41) ?_; intro gb259 hg w9 hbox hb; refine E4b HB.1 hg hbox hb ?_; clear HB; intro HB BK259 GW259 GE259; clear hb hbox hg; obtain ⟨hcz10_0, hcz10_1, hfz10_0, hfz10_1⟩ := cz2 BK259.1) | ((with_reducible refine gate_callee (f := 72) rfl ?_); refine goesM (N := (some 5)) #[.int .i64 a0_0] Try.func72 ?_; (with_reducible refine (spec_ttInputs.calls a0_0 true _ A2.1).mono ?_); rintro e w' ⟨rfl, ⟨nd, rfl⟩⟩; refine ⟨_, rfl, ?_⟩) | (go_at_call 64; (with_reducible refine (spec_l1All.calls k _ _ l0_1 0 1 t261 _ ?side1 ?side2 A8.1).mono ?_); (case side1 => repeat (first | exact (C_below HR0_1.1 (BL HB.1)) | (with_reducible refine C_alloc ?_ _) | (with_reducible refine C_drewN ?_ _) | (with_reducible refine C_drew ?_))); (case side2 => exact HC0_1.1); rintro e w' ⟨rfl, ⟨nd, rfl⟩⟩))
     go_ret
     exact ⟨by first | rfl | (simp [errW_none, errW_some] <;> rfl) | (simp only [<- hji4, <- hji6]; first | rfl | (simp [errW_none, errW_some] <;> rfl)) | (simp [*, errW_none, errW_some] <;> rfl), BL HB.1⟩
   have c7b0 := beq_eq_false_iff_ne.mpr c7
   have c7b1 := bne_iff_ne.mpr c7
   obtain rfl := Option.some.inj H
   go_enter Try.func51, Try.ntmps51
   go_wp2_with (first | ((with_reducible refine gate_dst (N := 1) rfl ?_); (try (refine gate_guard (by rfl) ?_; dsimp only)); refine boxE (cs := #[.int .i64 a0_0, .slice A0_1 l0_1.length c0_1]) (t := 41) ?_; intro gb259 hg w11 hbox hb; refine E4b HB.1 hg hbox hb ?_; clear HB; intro HB BK259 GW259 GE259; clear hb hbox hg; obtain ⟨hcz12_0, hcz12_1, hfz12_0, hfz12_1⟩ := cz2 BK259.1) | ((with_reducible refine gate_callee (f := 72) rfl ?_); refine goesM (N := (some 5)) #[.int .i64 a0_0] Try.func72 ?_; (with_reducible refine (spec_ttInputs.calls a0_0 true _ A2.1).mono ?_); rintro e w' ⟨rfl, ⟨nd, rfl⟩⟩; refine ⟨_, rfl, ?_⟩))
   go_ret
   exact ⟨by first | rfl | (simp [errW_none, errW_some] <;> rfl) | (simp only [<- hji4, <- hji6]; first | rfl | (simp [errW_none, errW_some] <;> rfl)) | (simp [*, errW_none, errW_some] <;> rfl), BL HB.1⟩
 obtain rfl := Option.some.inj H
 go_enter Try.func51, Try.ntmps51
 go_wp2_with (first | ((with_reducible refine gate_dst (N := 1) rfl ?_); (try (refine gate_guard (by rfl) ?_; dsimp only)); refine boxE (cs := #[.int .i64 a0_0, .slice A0_1 l0_1.length c0_1]) (t := 41) ?_; intro gb259 hg w13 hbox hb; refine E4b HB.1 hg hbox hb ?_; clear HB; intro HB BK259 GW259 GE259; clear hb hbox hg; obtain ⟨hcz14_0, hcz14_1, hfz14_0, hfz14_1⟩ := cz2 BK259.1) | ((with_reducible refine gate_callee (f := 72) rfl ?_); refine goesM (N := (some 5)) #[.int .i64 a0_0] Try.func72 ?_; (with_reducible refine (spec_ttInputs.calls a0_0 false _ A2.1).mono ?_); rintro e w' ⟨rfl, ⟨nd, rfl⟩⟩; refine ⟨_, rfl, ?_⟩))
 go_ret
 exact ⟨RF, BL HB.1⟩

/-! ### impl_IsTable: function 53 -/
open Kd
def impl_IsTable.f (k : Nat) (a0_0 : Int) (l0_1 : List Int) : Option (Bool) := if a0_0 ≥ 0 then (if a0_0 <= 4 then (if 0 <= a0_0 then (if (l0_1.length : Int) = (shl .i64 1 a0_0) then ((impl_areBits.f k l0_1).bind fun t283 => (some t283)) else (some false)) else (none)) else (some false)) else (some false)
theorem impl_IsTable.mono : ∀ a0 a1 k, LeO (impl_IsTable.f k a0 a1) (impl_IsTable.f (k + 1) a0 a1) := by
 intro a0 a1 k
 unfold impl_IsTable.f
 repeat' first
  | (with_reducible exact impl_areBits.mono _ _)
  | (with_reducible exact LeO.refl _)
  | (with_reducible exact LeO.none _)
  | (with_reducible refine LeO.ite ?_ ?_)
  | (with_reducible refine LeO.bind ?_ (fun _ => ?_))
  | exact impl_areBits.mono _ _
  | exact LeO.none _
  | refine LeO.ite ?_ ?_
  | refine LeO.bind ?_ (fun _ => ?_)
set_option maxHeartbeats 8000000 in
set_option maxRecDepth 100000 in
theorem impl_IsTable.calls (k : Nat) (a0_0 : Int) (A0_1 : Option Addr) (c0_1 : Nat) (l0_1 : List Int) (r : Bool) (w : World) (hr0_1 : Kd.C (Kd.int .i64) w A0_1 l0_1.length l0_1) (hc0_1 : l0_1.length <= c0_1) (h : impl_IsTable.f k a0_0 l0_1 = some r) :
 Calls Try.prog 53 #[.agg #[.int .i64 a0_0, .slice A0_1 l0_1.length c0_1]] w fun e w' => e = .returned (.bool r) /\ Below w.heap.size w w' := by
 have hu41 := Try.underlying41
 have HR0_1 := Aside0.mk hr0_1
 have HC0_1 := Aside0.mk hc0_1
 clear hr0_1 hc0_1
 have HB := Aside0.mk (Below.refl w.heap.size w)
 have H := h
 clear h
 unfold impl_IsTable.f at H
 replace H := ifQ H; rcases H with ⟨c2, H⟩ | ⟨c2, H⟩
 · have c2b0 : decide (0 <= a0_0) = true := decide_eq_true c2
   clear c2
   replace H := ifB H; rcases H with ⟨c3b0, H⟩ | ⟨c3b0, H⟩
   · replace H := ifP H; obtain ⟨c4, H⟩ := H
     have c4b0 := eq_true c4
     have c4b1 := decide_eq_true c4
     clear c4
     obtain ⟨ji5, hji5⟩ : ∃ j_ : Int, (shl .i64 1 a0_0) = j_ := ⟨_, rfl⟩
     replace H : (if (l0_1.length : Int) = (ji5) then ((impl_areBits.f k l0_1).bind fun t283 => (some t283)) else (some false)) = some r := by first | (rw [hji5] at H; exact H) | (simp only [hji5] at H ⊢; exact H)
     have hji5_ : (IntKind.i64.wrap (1 * 2 ^ min a0_0.toNat 64)) = ji5 := hji5
     have hji5z : a0_0 <= 64 -> (IntKind.i64.wrap (1 * 2 ^ a0_0.toNat)) = ji5 := shl_small hji5
     have hji5u : (IntKind.i64.wrap (2 ^ min a0_0.toNat 64)) = ji5 := by have h_ := hji5_; rw [Int.one_mul] at h_; exact h_
     have hji5v : a0_0 <= 64 -> (IntKind.i64.wrap (2 ^ a0_0.toNat)) = ji5 := fun hle_ => by have h_ := hji5z hle_; rw [Int.one_mul] at h_; exact h_
     have hji5y : (wrap64 (1 * 2 ^ min a0_0.toNat 64)) = ji5 := (i64_w _).symm.trans hji5_
     have hji5x : a0_0 <= 64 -> (wrap64 (1 * 2 ^ a0_0.toNat)) = ji5 := fun h_ => (i64_w _).symm.trans (hji5z h_)
     replace H := ifQ H; rcases H with ⟨c6, H⟩ | ⟨c6, H⟩
     · have c6b0 := beq_iff_eq.mpr c6
       have c6b1 := bne_eq_false_iff_eq.mpr c6
       clear c6
       replace H := bindA H; obtain ⟨t283, A7, H⟩ := H
       obtain rfl := Option.some.inj H
       go_enter Try.func53, Try.ntmps53
       go_wp2_with (first | ((with_reducible refine gate_dst (N := 1) rfl ?_); (try (refine gate_guard (by rfl) ?_; dsimp only)); refine boxE (cs := #[.int .i64 a0_0, .slice A0_1 l0_1.length c0_1]) (t := 41) ?_; intro gb282 hg w8 hbox hb; refine E4b HB.1 hg hbox hb ?_; clear HB; intro HB BK282 GW282 GE282; clear hb hbox hg; obtain ⟨hcz9_0, hcz9_1, hfz9_0, hfz9_1⟩ := cz2 BK282.1) | (go_at_call 67; (with_reducible refine (impl_areBits.calls k _ _ l0_1 t283 _ ?side1 ?side2 A7.1).mono ?_); (case side1 => exact CB (C_below HR0_1.1 HB.1)); (case side2 => exact HC0_1.1); rintro e w' ⟨rfl, ⟨nd, rfl⟩⟩; (try first | exact ⟨rfl, _, World.drewN_drewN _ _ _⟩ | exact ⟨rfl, _, Eq.trans (World.drewN_drewN _ _ _) (congrArg (World.drewN _) (Nat.add_assoc _ _ _))⟩)))
       repeat (go_quiet (first | ((with_reducible refine gate_dst (N := 1) rfl ?_); (try (refine gate_guard (by rfl) ?_; dsimp only)); refine boxE (cs := #[.int .i64 a0_0, .slice A0_1 l0_1.length c0_1]) (t := 41) ?_; intro gb282 hg w8 hbox hb; refine E4b HB.1 hg hbox hb ?_; clear HB; intro HB BK282 GW282 GE282; clear hb hbox hg; obtain ⟨hcz9_0, hcz9_1, hfz9_0, hfz9_1⟩ := cz2 BK282.1) | (go_at_call 67; (with_reducible refine (impl_areBits.calls k _ _ l0_1 t283 _ ?side1 ?side2 A7.1).mono ?_); (case side1 => exact CB (C_below HR0_1.1 HB.1)); (case side2 => exact HC0_1.1); rintro e w' ⟨rfl, ⟨nd, rfl⟩⟩; (try first | exact ⟨rfl, _, World.drewN_drewN _ _ _⟩ | exact ⟨rfl, _, Eq.trans (World.drewN_drewN _ _ _) (congrArg (World.drewN _) (Nat.add_assoc _ _ _))⟩))); try go_wp2_with (first | ((with_reducible refine gate_dst (N := 1) rfl ?_); (try (refine gate_guard (by rfl) ?_; dsimp only)); refine boxE (cs := #[.int .i64 a0_0, .slice A0_1 l0_1.length c0_1]) (t := 41) ?_; intro gb282 hg w8 hbox hb; refine E4b HB.1 hg hbox hb ?_; clear HB; intro HB BK282 GW282 GE282; clear hb hbox hg; obtain ⟨hcz9_0, hcz9_1, hfz9_0, hfz9_1⟩ := cz2 BK282.1) | (go_at_call 67; (with_reducible refine (impl_areBits.calls k _ _ l0_1 t283 _ ?side1 ?side2 A7.1).mono ?_); (case side1 => exact CB (C_below HR0_1.1 HB.1)); (case side2 => exact HC0_1.1); rintro e w' ⟨rfl, ⟨nd, rfl⟩⟩; (try first | exact ⟨rfl, _, World.drewN_drewN _ _ _⟩ | exact ⟨rfl, _, Eq.trans (World.drewN_drewN _ _ _) (congrArg (World.drewN _) (Nat.add_assoc _ _ _))⟩))))
       go_ret
       exact ⟨by first | rfl | (simp [errW_none, errW_some] <;> rfl) | (simp only [<- hji5]; first | rfl | (simp [errW_none, errW_some] <;> rfl)) | (simp [*, errW_none, errW_some] <;> rfl), BL HB.1⟩
     have c6b0 := beq_eq_false_iff_ne.mpr c6
     have c6b1 := bne_iff_ne.mpr c6
     obtain rfl := Option.some.inj H
     go_enter Try.func53, Try.ntmps53
     go_wp2_with (first | ((with_reducible refine gate_dst (N := 1) rfl ?_); (try (refine gate_guard (by rfl) ?_; dsimp only)); refine boxE (cs := #[.int .i64 a0_0, .slice A0_1 l0_1.length c0_1]) (t := 41) ?_; intro gb282 hg w10 hbox hb; refine E4b HB.1 hg hbox hb ?_; clear HB; intro HB BK282 GW282 GE282; clear hb hbox hg; obtain ⟨hcz11_0, hcz11_1, hfz11_0, hfz11_1⟩ := cz2 BK282.1))
     repeat (go_quiet (first | ((with_reducible refine gate_dst (N := 1) rfl ?_); (try (refine gate_guard (by rfl) ?_; dsimp only)); refine boxE (cs := #[.int .i64 a0_0, .slice A0_1 l0_1.length c0_1]) (t := 41) ?_; intro gb282 hg w10 hbox hb; refine E4b HB.1 hg hbox hb ?_; clear HB; intro HB BK282 GW282 GE282; clear hb hbox hg; obtain ⟨hcz11_0, hcz11_1, hfz11_0, hfz11_1⟩ := cz2 BK282.1)); try go_wp2_with (first | ((with_reducible refine gate_dst (N := 1) rfl ?_); (try (refine gate_guard (by rfl) ?_; dsimp only)); refine boxE (cs := #[.int .i64 a0_0, .slice A0_1 l0_1.length c0_1]) (t := 41) ?_; intro gb282 hg w10 hbox hb; refine E4b HB.1 hg hbox hb ?_; clear HB; intro HB BK282 GW282 GE282; clear hb hbox hg; obtain ⟨hcz11_0, hcz11_1, hfz11_0, hfz11_1⟩ := cz2 BK282.1)))
     go_ret
     exact ⟨by first | rfl | (simp [errW_none, errW_some] <;> rfl) | (simp only [<- hji5]; first | rfl | (simp [errW_none, errW_some] <;> rfl)) | (simp [*, errW_none, errW_some] <;> rfl), BL HB.1⟩
   obtain rfl := Option.some.inj H
   go_enter Try.func53, Try.ntmps53
   go_wp2_with (first | ((with_reducible refine gate_dst (N := 1) rfl ?_); (try (refine gate_guard (by rfl) ?_; dsimp only)); refine boxE (cs := #[.int .i64 a0_0, .slice A0_1 l0_1.length c0_1]) (t := 41) ?_; intro gb282 hg w12 hbox hb; refine E4b HB.1 hg hbox hb ?_; clear HB; intro HB BK282 GW282 GE282; clear hb hbox hg; obtain ⟨hcz13_0, hcz13_1, hfz13_0, hfz13_1⟩ := cz2 BK282.1))
   repeat (go_quiet (first | ((with_reducible refine gate_dst (N := 1) rfl ?_); (try (refine gate_guard (by rfl) ?_; dsimp only)); refine boxE (cs := #[.int .i64 a0_0, .slice A0_1 l0_1.length c0_1]) (t := 41) ?_; intro gb282 hg w12 hbox hb; refine E4b HB.1 hg hbox hb ?_; clear HB; intro HB BK282 GW282 GE282; clear hb hbox hg; obtain ⟨hcz13_0, hcz13_1, hfz13_0, hfz13_1⟩ := cz2 BK282.1)); try go_wp2_with (first | ((with_reducible refine gate_dst (N := 1) rfl ?_); (try (refine gate_guard (by rfl) ?_; dsimp only)); refine boxE (cs := #[.int .i64 a0_0, .slice A0_1 l0_1.length c0_1]) (t := 41) ?_; intro gb282 hg w12 hbox hb; refine E4b HB.1 hg hbox hb ?_; clear HB; intro HB BK282 GW282 GE282; clear hb hbox hg; obtain ⟨hcz13_0, hcz13_1, hfz13_0, hfz13_1⟩ := cz2 BK282.1)))
   go_ret
   exact ⟨RF, BL HB.1⟩
 have c2b0 : decide (0 <= a0_0) = false := decide_eq_false c2
 clear c2
 obtain rfl := Option.some.inj H
 go_enter Try.func53, Try.ntmps53
 go_wp2_with (first | ((with_reducible refine gate_dst (N := 1) rfl ?_); (try (refine gate_guard (by rfl) ?_; dsimp only)); refine boxE (cs := #[.int .i64 a0_0, .slice A0_1 l0_1.length c0_1]) (t := 41) ?_; intro gb282 hg w14 hbox hb; refine E4b HB.1 hg hbox hb ?_; clear HB; intro HB BK282 GW282 GE282; clear hb hbox hg; obtain ⟨hcz15_0, hcz15_1, hfz15_0, hfz15_1⟩ := cz2 BK282.1))
 repeat (go_quiet (first | ((with_reducible refine gate_dst (N := 1) rfl ?_); (try (refine gate_guard (by rfl) ?_; dsimp only)); refine boxE (cs := #[.int .i64 a0_0, .slice A0_1 l0_1.length c0_1]) (t := 41) ?_; intro gb282 hg w14 hbox hb; refine E4b HB.1 hg hbox hb ?_; clear HB; intro HB BK282 GW282 GE282; clear hb hbox hg; obtain ⟨hcz15_0, hcz15_1, hfz15_0, hfz15_1⟩ := cz2 BK282.1)); try go_wp2_with (first | ((with_reducible refine gate_dst (N := 1) rfl ?_); (try (refine gate_guard (by rfl) ?_; dsimp only)); refine boxE (cs := #[.int .i64 a0_0, .slice A0_1 l0_1.length c0_1]) (t := 41) ?_; intro gb282 hg w14 hbox hb; refine E4b HB.1 hg hbox hb ?_; clear HB; intro HB BK282 GW282 GE282; clear hb hbox hg; obtain ⟨hcz15_0, hcz15_1, hfz15_0, hfz15_1⟩ := cz2 BK282.1)))
 go_ret
 exact ⟨RF, BL HB.1⟩
/-! ### impl_diagramOf: function 54 -/
open Kd
attribute [local go_sem] max2_int min2_int max_two min_two max_three min_three max_four min_four
attribute [local go_sem high] deqA63
/-! the program's builder: a closure over the table, itself and the diagram -/
theorem dor_nat (a b : Nat) (ha : a < 2 ^ 62) (hb : b < 2 ^ 62) : Go.bits .or .i64 (a : Int) (b : Int) = ((a ||| b : Nat) : Int) := (bits_nat .i64 62 (by decide) (fun n h0 h1 => by rw [IntKind.wrap_i64]; omega) a b ha hb).2
theorem dor_pow {a i : Nat} (h : a < 2 ^ i) : a ||| 2 ^ i = a + 2 ^ i := by
 have := Nat.two_pow_add_eq_or_of_lt h 1
 rw [Nat.mul_one, Nat.or_comm] at this
 rw [<- this, Nat.add_comm]
theorem ine_type {w : World} {a b : Nat} {t t' : TypeId} {cs cs' : Array Value} (ha : w.heap[a]? = some (.cells cs t (0, 0))) (hb : w.heap[b]? = some (.cells cs' t' (0, 0))) (h : t ≠ t') : a ≠ b := by
 rintro rfl
 rw [ha] at hb
 cases hb
 exact h rfl
theorem at_eqI {ns : List S63} {x : S63} {i : Nat} (h : i < ns.length) : ((rd_T63 ns (i : Int)).f0 == x.f0 && ((rd_T63 ns (i : Int)).f1 == x.f1 && (rd_T63 ns (i : Int)).f2 == x.f2)) = decide (ns[i]? = some x) := by
 have e : rd_T63 ns (i : Int) = ns[i] := by simp [rd_T63, List.getD, h]
 rw [e, List.getElem?_eq_getElem h, Bool.eq_iff_iff]
 obtain ⟨a, b, c⟩ := x
 generalize ns[i] = y
 obtain ⟨a', b', c'⟩ := y
 simp
def IFix (pt pb pd : Nat) (t0 t1 : Value) (w : World) : Prop := w.heap[pt]? = some (.cells #[t0, t1] 41 (0, 0)) /\ w.heap[pb]? = some (.cells #[.func (.func 79) #[] #[.pointer (some ⟨pt, 0, none⟩), .pointer (some ⟨pb, 0, none⟩), .pointer (some ⟨pd, 0, none⟩)]] 95 (0, 0))
def ISt (base pd : Nat) (d0 : Value) (ns : List S63) (w : World) : Prop := ∃ v, w.heap[pd]? = some (.cells #[d0, v, .int .i64 0] 29 (0, 0)) /\ Kd.R k63 63 w base (fun _ => True) v ns
def IStay (pd : Nat) (w w' : World) : Prop := w.heap.size <= w'.heap.size /\ ∀ (k : Nat) (cs : Array Value) (t : TypeId), w.heap[k]? = some (.cells cs t (0, 0)) -> (t ≠ 29 ∨ k ≠ pd) -> t ≠ 63 -> w'.heap[k]? = some (.cells cs t (0, 0))
theorem IStay.refl (pd : Nat) (w : World) : IStay pd w w := ⟨Nat.le_refl _, fun _ _ _ h _ _ => h⟩
theorem IStay.trans {pd : Nat} {w w1 w2 : World} (h : IStay pd w w1) (h' : IStay pd w1 w2) : IStay pd w w2 := ⟨Nat.le_trans h.1 h'.1, fun k cs t hk a b => h'.2 k cs t (h.2 k cs t hk a b) a b⟩
theorem IStay.below {pd : Nat} {w w1 w2 : World} (h : IStay pd w w1) (hb : Below w1.heap.size w1 w2) : IStay pd w w2 := h.trans ⟨hb.size, fun k cs t hk _ _ => blk_below hk hb⟩
theorem IFix.stay {pt pb pd : Nat} {t0 t1 : Value} {w w' : World} (h : IFix pt pb pd t0 t1 w) (hs : IStay pd w w') : IFix pt pb pd t0 t1 w' := ⟨hs.2 _ _ _ h.1 (.inl (by decide)) (by decide), hs.2 _ _ _ h.2 (.inl (by decide)) (by decide)⟩
structure IAll (W0 : World) (pt pb pd : Nat) (d0 t0 t1 : Value) (ns : List S63) (w0 w : World) : Prop where
 hb : Below W0.heap.size W0 w
 fx : IFix pt pb pd t0 t1 w
 st : ISt W0.heap.size pd d0 ns w
 sy : IStay pd w0 w
section
variable {W0 : World} {pt pb pd : Nat} {d0 t0 t1 : Value} {ns ns' : List S63} {w0 w w' : World}
theorem IAll.below (h : IAll W0 pt pb pd d0 t0 t1 ns w0 w) (hb : Below w.heap.size w w') : IAll W0 pt pb pd d0 t0 t1 ns w0 w' := by
 obtain ⟨v, h1, h2⟩ := h.st
 exact ⟨h.hb.trans (hb.mono h.hb.size), h.fx.stay ((IStay.refl _ w).below hb), ⟨v, blk_below h1 hb, R_below h2 hb⟩, h.sy.below hb⟩
theorem IAll.call (h : IAll W0 pt pb pd d0 t0 t1 ns w0 w) (h1 : ISt W0.heap.size pd d0 ns' w') (h2 : IStay pd w w') (h3 : Below W0.heap.size W0 w') : IAll W0 pt pb pd d0 t0 t1 ns' w0 w' := ⟨h3, h.fx.stay h2, h1, h.sy.trans h2⟩
theorem IAll.cells (h : IAll W0 pt pb pd d0 t0 t1 ns w0 w) : w.cell? ⟨pt, 0, none⟩ = some t0 /\ w.cell? ⟨pt, 1, none⟩ = some t1 /\ w.cell? ⟨pb, 0, none⟩ = some (.func (.func 79) #[] #[.pointer (some ⟨pt, 0, none⟩), .pointer (some ⟨pb, 0, none⟩), .pointer (some ⟨pd, 0, none⟩)]) :=
 ⟨(blk_cell h.fx.1 0).trans rfl, (blk_cell h.fx.1 1).trans rfl, (blk_cell h.fx.2 0).trans rfl⟩
end
theorem dgoesC {P : Program} {ops : Array Oper} {Q : Exit -> Act -> World -> Prop} {oi : Oper} {N : Option Tmp} {a : Act} {w : World} {K : Act -> World -> Prop} {f : FuncId} {fn : Func} {xs_ : Array Operand} {ts : Array TypeId} (hf : P.funcs[f]? = some fn) (hname : (fn.name == "runtime.NumGoroutine") = false) (hb : fn.body.isSome = true) (x : Operand) (caps : Array Value) (hx : a.eval x = .func (.func f) #[] caps) (args : Array Value)
 (hw : Region.wanted oi (yielded ops a.tmps) = true) (hN : oi.dst = N) (hop : oi.op = .call { callee := .value x, args := xs_, argTypes := ts }) (hargs : xs_.map a.eval ++ caps = args)
 (h : Calls P f args w fun e w' => ∃ v, e = .returned v /\ K (a.put N v) w') : if Region.wanted oi (yielded ops a.tmps) = true then Oper.wp P oi a w K Q else K (a.put N undef) w := by
 refine call_ f args hw hN ?_ h
 have he := enters_ hf hname hb args w
 unfold execOp
 simp [hop, resolve, Deferred.ofValue, invoke, hx, hargs, he]
set_option maxHeartbeats 8000000 in
set_option maxRecDepth 100000 in
theorem dclos_calls (W0 : World) (pt pb pd n : Nat) (d0 : Value) (A : Option Addr) (c : Nat) (vs : List Int) (hC : Kd.C (Kd.int .i64) W0 A vs.length vs) (hn : n <= 4) (hvs : vs.length = 2 ^ n) (hp : W0.heap.size <= pd) (xn : Int) (hxn : xn = (n : Int)) : ∀ (d i f : Nat) (xi xf : Int) (ns : List S63) (w : World), i + d = n -> f < 2 ^ i -> xi = (i : Int) -> xf = (f : Int) -> ns.length + 2 ^ d <= 1000 -> Below W0.heap.size W0 w -> IFix pt pb pd (.int .i64 xn) (.slice A vs.length c) w -> ISt W0.heap.size pd d0 ns w ->
 Calls Try.prog 79 #[.int .i64 xi, .int .i64 xf, .pointer (some ⟨pt, 0, none⟩), .pointer (some ⟨pb, 0, none⟩), .pointer (some ⟨pd, 0, none⟩)] w fun e w' => e = .returned (.int .i64 (dbld vs d i f ns).2) /\ ISt W0.heap.size pd d0 (dbld vs d i f ns).1 w' /\ IStay pd w w' /\ Below W0.heap.size W0 w' := by
 intro d
 have hu41 := Try.underlying41
 have hu29 := Try.underlying29
 have hu63 := Try.underlying63
 have HC := Aside0.mk hC
 have HVS := Aside0.mk hvs
 have HXN := Aside0.mk hxn
 clear hC hvs hxn
 induction d with
 | zero =>
  intro i f xi xf ns w hi hf hxi hxf hl hB hF hD
  have HV := Aside0.mk (IAll.mk hB hF hD (IStay.refl _ w))
  have c0 : (xi == xn) = true := beq_iff_eq.mpr (by have := HXN.1; omega)
  have hin : i = n := by omega
  have p104 : 0 <= (xf : Int) := by omega
  have q104 : xf < (vs.length : Int) := by rw [HVS.1, <- hin]; omega
  obtain ⟨ad104, e104, hx104_0⟩ := Kd.at_int HC.1 xf p104 q104
  cases e104
  replace hx104_0 := (hB.cell (World.block_lt_of_cell? W0 _ hx104_0)).trans hx104_0
  obtain ⟨hc1, hc2, hc3⟩ := HV.1.cells
  have HXF := Aside0.mk hxf
  clear hB hD hF hxi hxf hi hin hf
  replace p104 := eq_true p104
  replace q104 := eq_true q104
  go_enter Try.func79, Try.ntmps79
  go_wp2
  go_ret
  refine ⟨?_, HV.1.st, HV.1.sy, HV.1.hb⟩
  show Ending.returned (.int .i64 (rd vs xf)) = .returned (.int .i64 (rd vs (f : Int)))
  rw [HXF.1]
 | succ d ih =>
  intro i f xi xf ns w hi hf hxi hxf hl hB hF hD
  have hp2 : (2 : Nat) ^ (i + 1) = 2 ^ i + 2 ^ i := by rw [Nat.pow_succ]; omega
  have hpd : (2 : Nat) ^ (d + 1) = 2 ^ d + 2 ^ d := by rw [Nat.pow_succ]; omega
  have hi16 := pow_le16 (show i <= 4 by omega)
  have hpos := Nat.two_pow_pos d
  have e1 : wrap64 (xi + 1) = ((i + 1 : Nat) : Int) := by rw [wrap_small (by omega) (by omega)]; omega
  have e2 : Go.bits .or .i64 xf (wrap64 (2 ^ min xi.toNat 64)) = ((f + 2 ^ i : Nat) : Int) := by
   rw [hxi, show min (i : Int).toNat 64 = i by omega, show (2 : Int) ^ i = ((2 ^ i : Nat) : Int) by simp, hxf, wrap_small (x := ((2 ^ i : Nat) : Int)) (by omega) (by omega), dor_nat f (2 ^ i) (by omega) (by omega), dor_pow hf]
  have hA := ih (i + 1) f (wrap64 (xi + 1)) xf ns
  have hB2 := ih (i + 1) (f + 2 ^ i) (wrap64 (xi + 1)) (Go.bits .or .i64 xf (wrap64 (2 ^ min xi.toNat 64))) (dbld vs d (i + 1) f ns).1
  have l1 := dbld_len vs d (i + 1) f ns
  have l2 := dbld_len vs d (i + 1) (f + 2 ^ i) (dbld vs d (i + 1) f ns).1
  have hE : dbld vs (d + 1) i f ns = dnode (dbld vs d (i + 1) (f + 2 ^ i) (dbld vs d (i + 1) f ns).1).1 ⟨(i : Int), (dbld vs d (i + 1) f ns).2, (dbld vs d (i + 1) (f + 2 ^ i) (dbld vs d (i + 1) f ns).1).2⟩ := rfl
  rw [hE]
  clear hE
  generalize dbld vs d (i + 1) (f + 2 ^ i) (dbld vs d (i + 1) f ns).1 = R2 at *
  generalize dbld vs d (i + 1) f ns = R1 at *
  obtain ⟨n2, hi2⟩ := R2
  obtain ⟨n1, lo⟩ := R1
  simp only at *
  have hA1 := fun w => hA w (by omega) (by omega) e1 hxf (by omega)
  have hA2 := fun w => hB2 w (by omega) (by omega) e1 e2 (by omega)
  have HA1 := Aside0.mk hA1
  have HA2 := Aside0.mk hA2
  have hl2 : n2.length <= 1000 := by omega
  have c0 : (xi == xn) = false := beq_eq_false_iff_ne.mpr (by have := HXN.1; omega)
  have cs : decide (0 <= xi) = true := decide_eq_true (by omega)
  have cs1 : (0 <= xi) = True := eq_true (by omega)
  have cs3 : decide (xi < 0) = false := decide_eq_false (by omega)
  have cs4 : (xi < 0) = False := eq_false (by omega)
  have HXI := Aside0.mk hxi
  have HV := Aside0.mk (IAll.mk hB hF hD (IStay.refl _ w))
  have hWw := hB.size
  obtain ⟨hc1, hc2, hc3⟩ := HV.1.cells
  clear hA hB2 hA1 hA2 hpos l1 l2 hxi hxf hi hf hl e1 e2 hp2 hpd hi16 ih hB hF hD
  rw [<- HXI.1]
  go_enter Try.func79, Try.ntmps79
  go_wp2_with (first
   | (go_at_call 79; refine (HA1.1 _ HV.1.hb HV.1.fx HV.1.st).mono ?_; rintro e w7 ⟨rfl, q1, q2, q3⟩; refine E1 (HV.1.call q1 q2 q3) ?_; clear HV hc1 hc2 hc3 q1 q2 q3; intro HV; obtain ⟨hc1, hc2, hc3⟩ := HV.1.cells))
  refine start_ (n := 9) (S := fun w' => w'.cell? ⟨pb, 0, none⟩ = some (.func (.func 79) #[] #[.pointer (some ⟨pt, 0, none⟩), .pointer (some ⟨pb, 0, none⟩), .pointer (some ⟨pd, 0, none⟩)]) /\ w'.cell? ⟨pt, 0, none⟩ = some (.int .i64 xn)) (ds := [7]) #[Zz,Zz,Zz,Zz,Zz,Zz,Zz,Zz,Zz] (by kernel_rfl) rfl rfl ⟨hc3, hc1⟩ (fun hHeld => ?_)
  refine E1 (HV.1.below (below_drew1 (Below.refl _ _))) ?_
  clear HV hc1 hc2 hc3
  intro HV
  generalize w7.drew = w8 at hHeld HV ⊢
  refine pureF 1 (N := some 28) rfl ?_
  refine pureF 2 (N := some 29) rfl ?_
  refine pureF 3 (N := some 30) rfl ?_
  refine pureF 4 (N := some 31) rfl ?_
  refine pureF 5 (N := some 32) rfl ?_
  refine pureF 6 (N := some 33) rfl ?_
  refine takeF 0 (N := some 27) hHeld ?_
  refine last_ (i := 7) (N := some 34) #[Yy,Yy,Yy,Yy,Yy,Yy,Yy,Yy,Zz] rfl rfl (by kernel_rfl) (by decide) (fun K hK => ?_)
  refine dgoesC Try.func79 (by kernel_rfl) rfl (.tmp 27) #[.pointer (some ⟨pt, 0, none⟩), .pointer (some ⟨pb, 0, none⟩), .pointer (some ⟨pd, 0, none⟩)] rfl #[.int .i64 (wrap64 (xi + 1)), .int .i64 (Go.bits .or .i64 xf (wrap64 (2 ^ min xi.toNat 64))), .pointer (some ⟨pt, 0, none⟩), .pointer (some ⟨pb, 0, none⟩), .pointer (some ⟨pd, 0, none⟩)] (by rfl) rfl rfl (by simp only [List.map_toArray, List.map_cons, List.map_nil, List.append_toArray, List.cons_append, List.nil_append]; rfl) ?_
  refine (HA2.1 _ HV.1.hb HV.1.fx HV.1.st).mono ?_
  rintro e w9 ⟨rfl, q1, q2, q3⟩
  refine ⟨_, rfl, ?_⟩
  refine E1 (HV.1.call q1 q2 q3) ?_
  clear HV q1 q2 q3 hHeld
  intro HV
  refine hK.out _ _ ?_
  clear hK K
  refine norm_ (a' := ?_) ?_ ?_
  rotate_left
  · show Act.put _ (some 34) _ = _
    simp only [Act.put, List.setIfInBounds_toArray, List.set_cons_zero, List.set_cons_succ, i64_w, i32_w]
    rfl
  refine pureF 8 (N := some 9) rfl ?_
  refine done_ (by kernel_rfl) ?_
  obtain ⟨hc1, hc2, hc3⟩ := HV.1.cells
  by_cases hx : lo = hi2
  · have c5 : (lo == hi2) = true := beq_iff_eq.mpr hx
    have hd := Aside0.mk (show dnode n2 ⟨xi, lo, hi2⟩ = (n2, lo) from if_pos hx)
    clear hx
    go_wp2
    go_ret
    rw [hd.1]
    exact ⟨rfl, HV.1.st, HV.1.sy, HV.1.hb⟩
  have c5 : (lo == hi2) = false := beq_eq_false_iff_ne.mpr hx
  have HX := Aside0.mk hx
  clear hx
  obtain ⟨v, hv, hR⟩ := HV.1.st
  obtain ⟨A2, c2, ev, hc0, hC2⟩ := R_reads hR
  subst ev
  have HC2 := Aside0.mk hC2
  have HR := Aside0.mk hR
  have HD := Aside0.mk hv
  have HY := Aside0.mk HV.1.sy
  have HB0 := Aside0.mk HV.1.hb
  have HB := Aside0.mk (Below.refl w9.heap.size w9)
  have hcd : w9.cell? ⟨pd, 1, none⟩ = some (.slice A2 n2.length c2) := (blk_cell hv 1).trans rfl
  clear hv hR hC2 HV hc1 hc2 hc3 HA1 HA2
  go_wp2_with (first
   | ((with_reducible refine gate_dst (N := 10) rfl ?_); refine boxE (cs := #[.int .i64 0, .int .i64 0, .int .i64 0]) (t := 63) ?_; intro gn hg w10 hbox hb; have n0_ := Aside0.mk (HB.1.trans hb); have BK := Aside0.mk hbox; have GE := Aside0.mk (hg ▸ Nat.le_refl _ : w9.heap.size <= gn); clear HB hcd; have HB := n0_; clear n0_ hbox hg hb; obtain ⟨hcz_0, hcz_1, hcz_2, hfz_0, hfz_1, hfz_2⟩ := cz3 BK.1)
   | ((with_reducible refine gate_store (t := 63) (p := 10) rfl ?_); refine storeE (t := 63) (p := 10) (w1 := ((w10.setCell ⟨gn, 0, none⟩ (.int .i64 xi)).setCell ⟨gn, 1, none⟩ (.int .i64 lo)).setCell ⟨gn, 2, none⟩ (.int .i64 hi2)) ?_; intro w11 hw; have b3 := Aside0.mk (blk_put (blk_put (blk_put BK.1 0 (.int .i64 xi) rfl) 1 (.int .i64 lo) rfl) 2 (.int .i64 hi2) rfl); have n0_ := Aside0.mk (((HB.1.setCell (p := ⟨gn, 0, none⟩) GE.1 (.int .i64 xi)).setCell (p := ⟨gn, 1, none⟩) GE.1 (.int .i64 lo)).setCell (p := ⟨gn, 2, none⟩) GE.1 (.int .i64 hi2)); rw [<- hw] at n0_ b3; clear BK HB hcz_0 hcz_1 hcz_2 hfz_0 hfz_1 hfz_2 hw; have HB := n0_; have BK := b3; clear n0_ b3; have hcd : w11.cell? ⟨pd, 1, none⟩ = some (.slice A2 n2.length c2) := (HB.1.cell (p := ⟨pd, 1, none⟩) (blk_lt HD.1)).trans ((blk_cell HD.1 1).trans rfl)))
  go_loopg [46] (n2.length + 1) (fun kq v46 w' => ∃ (x46 : Int) (k : Nat), v46 = .int .i64 x46 /\ Aside0 (x46 = (k : Int)) /\ Aside0 (kq + k = n2.length + 1) /\ Aside0 (k <= n2.length) /\ Aside0 (∀ j, j < k -> n2[j]? ≠ some ⟨xi, lo, hi2⟩) /\ Aside0 (w'.heap[gn]? = some (.cells #[.int .i64 xi, .int .i64 lo, .int .i64 hi2] 63 (0, 0))) /\ Aside0 (Below w9.heap.size w9 w'))
  case atStart => exact ⟨0, 0, rfl, ⟨rfl⟩, ⟨rfl⟩, ⟨Nat.zero_le _⟩, ⟨fun j h => by omega⟩, ⟨PB BK.1⟩, ⟨HB.1⟩⟩
  clear hcd
  obtain ⟨x46, k, rfl, HI, HK, HL, HN, BK, HB⟩ := hrel
  have hin : k <= n2.length := HL.1
  cases gk with
  | zero => have := HK.1; omega
  | succ k1 => ?_
  by_cases hk : k < n2.length
  · have c8 : decide (x46 < (n2.length : Int)) = true := decide_eq_true (by have := HI.1; omega)
    have c8b : decide (0 <= x46) = true := decide_eq_true (by have := HI.1; omega)
    have p104 : 0 <= (x46 : Int) := OD
    have q104 : x46 < (n2.length : Int) := OD
    obtain ⟨ad104, e104, hx104_0, hx104_1, hx104_2⟩ := at_T63 HC2.1 x46 p104 q104
    cases e104
    replace hx104_0 := (HB.1.cell (World.block_lt_of_cell? w9 _ hx104_0)).trans hx104_0
    replace hx104_1 := (HB.1.cell (World.block_lt_of_cell? w9 _ hx104_1)).trans hx104_1
    replace hx104_2 := (HB.1.cell (World.block_lt_of_cell? w9 _ hx104_2)).trans hx104_2
    replace p104 := eq_true p104
    replace q104 := eq_true q104
    have he0 := at_eqI (x := ⟨xi, lo, hi2⟩) hk
    rw [<- HI.1] at he0
    by_cases he : n2[k]? = some ⟨xi, lo, hi2⟩
    · have c11 : ((rd_T63 n2 x46).f0 == xi && ((rd_T63 n2 x46).f1 == lo && ((rd_T63 n2 x46).f2 == hi2))) = true := he0.trans (decide_eq_true he)
      clear he0
      go_wp2_with (first | ((with_reducible refine gate_dst (N := 12) rfl ?_); refine boxE (cs := #[.int .i64 0, .int .i64 0, .int .i64 0]) (t := 63) ?_; intro gb105 hg w12 hbox hb; refine E7 (bB BK.1 hb) (bS HB.1 hb) (hbox) (gX HB.1 hg) (gX HB.1 hg) (nB BK.1 hg) (nC BK.1 hg) ?_; clear BK HB; intro BK HB BK105 GW105 GE105 NB103_105 NB105_103; clear hb hbox hg; have hnb13 := NB105_103.1; have hnc13 := NB103_105.1; obtain ⟨hcz14_0, hcz14_1, hcz14_2, hfz14_0, hfz14_1, hfz14_2⟩ := cz3 BK105.1; obtain ⟨hcz15_0, hcz15_1, hcz15_2, hfz15_0, hfz15_1, hfz15_2⟩ := cz3 BK.1))
      go_ret
      obtain ⟨q1, q2⟩ := dplace_skip n2 k hin HN.1
      have hd : n2.drop k = n2[k] :: n2.drop (k + 1) := List.drop_eq_getElem_cons hk
      have hxi : n2[k] = ⟨xi, lo, hi2⟩ := by rw [List.getElem?_eq_getElem hk] at he; exact Option.some.inj he
      rw [hd, hxi] at q1 q2
      simp only [dplace, if_true, Nat.add_zero] at q1
      have hm : (⟨xi, lo, hi2⟩ : S63) ∈ n2 := q2.2 List.mem_cons_self
      rw [show dnode n2 ⟨xi, lo, hi2⟩ = (n2, 2 + (dplace ⟨xi, lo, hi2⟩ n2 : Int)) from (if_neg HX.1).trans (if_pos hm), q1]
      have ew : wrap64 (2 + x46) = 2 + (k : Int) := by
       have := HI.1
       unfold wrap64; omega
      refine ⟨?_, (fun hB2 => ⟨⟨_, blk_below HD.1 hB2, R_below HR.1 hB2⟩, HY.1.below hB2, HB0.1.trans (hB2.mono HB0.1.size)⟩) (BL HB.1)⟩
      show Ending.returned (.int .i64 (wrap64 (2 + x46))) = .returned (.int .i64 (2 + (k : Int)))
      rw [ew]
    · have c11 : ((rd_T63 n2 x46).f0 == xi && ((rd_T63 n2 x46).f1 == lo && ((rd_T63 n2 x46).f2 == hi2))) = false := he0.trans (decide_eq_false he)
      clear he0
      go_wp2_with (first | ((with_reducible refine gate_dst (N := 12) rfl ?_); refine boxE (cs := #[.int .i64 0, .int .i64 0, .int .i64 0]) (t := 63) ?_; intro gb105 hg w16 hbox hb; refine E7 (bB BK.1 hb) (bS HB.1 hb) (hbox) (gX HB.1 hg) (gX HB.1 hg) (nB BK.1 hg) (nC BK.1 hg) ?_; clear BK HB; intro BK HB BK105 GW105 GE105 NB103_105 NB105_103; clear hb hbox hg; have hnb17 := NB105_103.1; have hnc17 := NB103_105.1; obtain ⟨hcz18_0, hcz18_1, hcz18_2, hfz18_0, hfz18_1, hfz18_2⟩ := cz3 BK105.1; obtain ⟨hcz19_0, hcz19_1, hcz19_2, hfz19_0, hfz19_1, hfz19_2⟩ := cz3 BK.1))
      go_roundg k1
      case measure => exact Nat.lt_succ_self _
      case rel =>
       refine ⟨(wrap64 (x46 + 1)), k + 1, RG, ⟨?_⟩, ⟨by have := HK.1; omega⟩, ⟨by omega⟩, ⟨fun j hj => ?_⟩, ⟨PF1 NB103_105.1 BK.1⟩, ⟨BL HB.1⟩⟩
       · have := HI.1
         unfold wrap64; omega
       · by_cases e : j = k
         · rw [e]; exact he
         · exact HN.1 j (by omega)
  · have c8 : decide (x46 < (n2.length : Int)) = false := decide_eq_false (by have := HI.1; omega)
    have hcd : wr.cell? ⟨pd, 1, none⟩ = some (.slice A2 n2.length c2) := (HB.1.cell (p := ⟨pd, 1, none⟩) (blk_lt HD.1)).trans ((blk_cell HD.1 1).trans rfl)
    obtain ⟨hcz19_0, hcz19_1, hcz19_2, hfz19_0, hfz19_1, hfz19_2⟩ := cz3 BK.1
    have HRr := Aside0.mk (R_below HR.1 HB.1)
    have HDr := Aside0.mk (blk_below HD.1 HB.1)
    have HB1 := Aside0.mk (HB0.1.trans (HB.1.mono HB0.1.size))
    have HYr := Aside0.mk (HY.1.below HB.1)
    go_wp2_with (first
     | ((with_reducible refine gate_builtin (b := .append) (xs := #[.tmp 58, .tmp 60]) rfl ?_); at_builtin; refine R_append k63 (w0 := W0) W0.heap.size rfl (.tmp 58) (.tmp 60) 27 63 (.agg #[.int .i64 0, .int .i64 0, .int .i64 0]) 24 rfl Try.underlying27 dinfo63 rfl (by decide) (by omega) (.slice A2 n2.length c2) n2 ⟨xi, lo, hi2⟩ [.int .i64 xi, .int .i64 lo, .int .i64 hi2] (fun _ => True) (fun _ => False) rfl rfl (k63_mkM _ _ _ ⟨xi, lo, hi2⟩) (fun _ hk => hk.elim) (fun _ _ => trivial) HRr.1 HB1.1 HB1.1.size (by omega) ?_; intro v12 w12 ho hb hg hat; obtain ⟨A9, c9, e9⟩ := R_slice ho; subst e9; have k3 := blk_grown HDr.1 hg (R_ne HRr.1 HDr.1 (by decide)); have HO := Aside0.mk ho; have HB12 := Aside0.mk hb; have HG := Aside0.mk hg; have K3 := Aside0.mk k3; obtain ⟨hcz_0, hcz_1, hcz_2, hfz_0, hfz_1, hfz_2⟩ := cz3 k3; clear ho hb hg hat k3 hcd hcz19_0 hcz19_1 hcz19_2 hfz19_0 hfz19_1 hfz19_2)
     | ((with_reducible refine gate_store (t := 27) (p := 62) rfl ?_); refine storeE (t := 27) (p := 62) (w1 := w12.setCell ⟨pd, 1, none⟩ (.slice A9 (n2 ++ [(⟨xi, lo, hi2⟩ : S63)]).length c9)) ?_; intro w13 hw; have n1_ := Aside0.mk (blk_put K3.1 1 (.slice A9 (n2 ++ [(⟨xi, lo, hi2⟩ : S63)]).length c9) rfl); have n2_ := Aside0.mk (R_set HO.1 K3.1 (by decide) 1 (.slice A9 (n2 ++ [(⟨xi, lo, hi2⟩ : S63)]).length c9)); have n3_ := Aside0.mk (HB12.1.setCell (p := ⟨pd, 1, none⟩) hp (.slice A9 (n2 ++ [(⟨xi, lo, hi2⟩ : S63)]).length c9)); rw [<- hw] at n1_ n2_ n3_; have HW := Aside0.mk hw; clear hw hcz_0 hcz_1 hcz_2 hfz_0 hfz_1 hfz_2; have hcd : w13.cell? ⟨pd, 1, none⟩ = some (.slice A9 (n2 ++ [(⟨xi, lo, hi2⟩ : S63)]).length c9) := (blk_cell n1_.1 1).trans rfl))
    go_ret
    obtain ⟨q1, q2⟩ := dplace_skip n2 k hin HN.1
    have hm : (⟨xi, lo, hi2⟩ : S63) ∉ n2 := fun h => by
     have := q2.1 h
     rw [List.drop_of_length_le (by omega)] at this
     simp at this
    rw [show dnode n2 ⟨xi, lo, hi2⟩ = (n2 ++ [⟨xi, lo, hi2⟩], 2 + (n2.length : Int)) from (if_neg HX.1).trans (if_neg hm)]
    refine ⟨?_, ⟨_, n1_.1, n2_.1⟩, ⟨?_, fun k' cs t hk a b => ?_⟩, n3_.1⟩
    · show Ending.returned (.int .i64 (1 + ((n2.length : Int) + 1))) = .returned (.int .i64 (2 + (n2.length : Int)))
      rw [show 1 + ((n2.length : Int) + 1) = 2 + (n2.length : Int) by omega]
    · have h1 := HYr.1.1
      have h2 := HG.1.size
      rw [HW.1]; simp [World.setCell]; omega
    · have h8 := HYr.1.2 k' cs t hk a b
      rw [HW.1]
      have h9 := blk_grown h8 HG.1 (R_ne HRr.1 h8 (Ne.symm b))
      exact blk_far h9 (a.elim (fun a => ine_type h9 K3.1 a) id) _
def impl_diagramOf.f (a0_0 : Int) (l0_1 : List Int) : Option (Int × List (S63) × Int) := spec_ddMake.f a0_0 l0_1
theorem drun_store_funcI {a : Addr} {m : Mode} {P : Program} {w : World} (f : Fn) (x y : Array Value) : (store a (.func f x y) m).run P w = stored P w a (.func f x y) m := run_store P w a _ m rfl
attribute [local go_sem] drun_store_funcI
set_option maxHeartbeats 8000000 in
set_option maxRecDepth 100000 in
theorem diagramOf_calls (n : Nat) (xn : Int) (A : Option Addr) (c : Nat) (vs : List Int) (w : World) (hC : Kd.C (Kd.int .i64) w A vs.length vs) (hxn : xn = (n : Int)) (hn : n <= 4) (hvs : vs.length = 2 ^ n) :
 Calls Try.prog 54 #[.agg #[.int .i64 xn, .slice A vs.length c]] w fun e w' => ∃ v1_ : Value, e = .returned (.agg #[.int .i64 xn, v1_, .int .i64 (dbld vs n 0 0 []).2]) /\ Kd.R k63 63 w' w.heap.size (fun _ => True) v1_ (dbld vs n 0 0 []).1 /\ Below w.heap.size w w' := by
 have hu41 := Try.underlying41
 have hu29 := Try.underlying29
 have hB := fun pt pb pd (hp : w.heap.size <= pd) => dclos_calls w pt pb pd n (.int .i64 xn) A c vs hC hn hvs hp xn hxn n 0 0 0 0 []
 generalize dbld vs n 0 0 [] = R at *
 obtain ⟨ns, r⟩ := R
 simp only at *
 have hp16 := pow_le16 hn
 have hB1 := fun pt pb pd (hp : w.heap.size <= pd) w1 => hB pt pb pd hp w1 (by omega) (by omega) rfl rfl (by simp; omega)
 have HB1 := Aside0.mk hB1
 clear hB hB1 hxn hvs hn hp16 hC
 have HB := Aside0.mk (Below.refl w.heap.size w)
 go_enter Try.func54, Try.ntmps54
 go_wp2_with (first
  | ((with_reducible refine gate_dst (N := 1) rfl ?_); refine boxE (cs := #[.int .i64 xn, .slice A vs.length c]) (t := 41) ?_; intro pt hg w4 hbox hb; have n0_ := Aside0.mk (HB.1.trans (hb.mono HB.1.size)); have BK1 := Aside0.mk hbox; clear HB; have HB := n0_; clear n0_ hbox hg hb)
  | ((with_reducible refine gate_dst (N := 2) rfl ?_); refine boxE (cs := #[.int .i64 0, .slice none 0 0, .int .i64 0]) (t := 29) ?_; intro gb2 hg w5 hbox hb; have n0_ := Aside0.mk (HB.1.trans (hb.mono HB.1.size)); have n1_ := Aside0.mk (blk_below BK1.1 hb); have BK2 := Aside0.mk hbox; have GE2 := Aside0.mk (hg ▸ HB.1.size : w.heap.size <= gb2); clear HB BK1; have HB := n0_; have BK1 := n1_; clear n0_ n1_ hbox hg hb; obtain ⟨hcz1_0, hcz1_1, hfz1_0, hfz1_1⟩ := cz2 BK1.1)
  | ((with_reducible refine gate_dst (N := 3) rfl ?_); refine boxE (cs := #[.int .i64 0, .slice none 0 0, .int .i64 0]) (t := 29) ?_; intro pd hg w6 hbox hb; have n0_ := Aside0.mk (HB.1.trans (hb.mono HB.1.size)); have n1_ := Aside0.mk (blk_below BK1.1 hb); have n2_ := Aside0.mk (blk_below BK2.1 hb); have BKd := Aside0.mk hbox; have GEd := Aside0.mk (hg ▸ HB.1.size : w.heap.size <= pd); have N2d := Aside0.mk (nB BK2.1 hg); clear HB BK1 BK2 hcz1_0 hcz1_1 hfz1_0 hfz1_1; have HB := n0_; have BK1 := n1_; have BK2 := n2_; clear n0_ n1_ n2_ hbox hg hb; obtain ⟨hcz_0, hcz_1, hcz_2, hfz_0, hfz_1, hfz_2⟩ := cz3 BKd.1)
  | ((with_reducible refine gate_store (t := 29) (p := 3) rfl ?_); refine storeE (t := 29) (p := 3) (w1 := ((w6.setCell ⟨pd, 0, none⟩ (.int .i64 xn)).setCell ⟨pd, 1, none⟩ (.slice none 0 0)).setCell ⟨pd, 2, none⟩ (.int .i64 0)) ?_; intro w7 hw; have b3 := Aside0.mk (blk_put (blk_put (blk_put BKd.1 0 (.int .i64 xn) rfl) 1 (.slice none 0 0) rfl) 2 (.int .i64 0) rfl); have n0_ := Aside0.mk (((HB.1.setCell (p := ⟨pd, 0, none⟩) GEd.1 (.int .i64 xn)).setCell (p := ⟨pd, 1, none⟩) GEd.1 (.slice none 0 0)).setCell (p := ⟨pd, 2, none⟩) GEd.1 (.int .i64 0)); have n1_ := Aside0.mk (blk_far (blk_far (blk_far BK1.1 (ine_type BK1.1 BKd.1 (by decide)) (p := ⟨pd, 0, none⟩) (.int .i64 xn)) (ine_type BK1.1 BKd.1 (by decide)) (p := ⟨pd, 1, none⟩) (.slice none 0 0)) (ine_type BK1.1 BKd.1 (by decide)) (p := ⟨pd, 2, none⟩) (.int .i64 0)); have n2_ := Aside0.mk (blk_far (blk_far (blk_far BK2.1 N2d.1 (p := ⟨pd, 0, none⟩) (.int .i64 xn)) N2d.1 (p := ⟨pd, 1, none⟩) (.slice none 0 0)) N2d.1 (p := ⟨pd, 2, none⟩) (.int .i64 0)); rw [<- hw] at n0_ n1_ n2_ b3; clear HB BK1 BK2 BKd hcz_0 hcz_1 hcz_2 hfz_0 hfz_1 hfz_2 hw; have HB := n0_; have BK1 := n1_; have BK2 := n2_; have BKd := b3; clear n0_ n1_ n2_ b3)
  | ((with_reducible refine gate_dst (N := 4) rfl ?_); refine boxE (cs := #[.nilFunc]) (t := 95) ?_; intro pb hg w8 hbox hb; have n0_ := Aside0.mk (HB.1.trans (hb.mono HB.1.size)); have n1_ := Aside0.mk (blk_below BK1.1 hb); have n2_ := Aside0.mk (blk_below BK2.1 hb); have n3_ := Aside0.mk (blk_below BKd.1 hb); have BKb := Aside0.mk hbox; have GEb := Aside0.mk (hg ▸ HB.1.size : w.heap.size <= pb); clear HB BK1 BK2 BKd; have HB := n0_; have BK1 := n1_; have BK2 := n2_; have BKd := n3_; clear n0_ n1_ n2_ n3_ hg hb; have hcv : w8.cell? ⟨pb, 0, none⟩ = some .nilFunc := (blk_cell hbox 0).trans rfl; have hfv := blk_frozen hbox 0; clear hbox)
  | ((with_reducible refine gate_store (t := 95) (p := 4) rfl ?_); refine storeE (t := 95) (p := 4) (w1 := w8.setCell ⟨pb, 0, none⟩ (.func (.func 79) #[] #[.pointer (some ⟨pt, 0, none⟩), .pointer (some ⟨pb, 0, none⟩), .pointer (some ⟨pd, 0, none⟩)])) ?_; intro w9 hw; have n0_ := Aside0.mk (HB.1.setCell (p := ⟨pb, 0, none⟩) GEb.1 (.func (.func 79) #[] #[.pointer (some ⟨pt, 0, none⟩), .pointer (some ⟨pb, 0, none⟩), .pointer (some ⟨pd, 0, none⟩)])); have n1_ := Aside0.mk (blk_far BK1.1 (ine_type BK1.1 BKb.1 (by decide)) (p := ⟨pb, 0, none⟩) (.func (.func 79) #[] #[.pointer (some ⟨pt, 0, none⟩), .pointer (some ⟨pb, 0, none⟩), .pointer (some ⟨pd, 0, none⟩)])); have n2_ := Aside0.mk (blk_far BK2.1 (ine_type BK2.1 BKb.1 (by decide)) (p := ⟨pb, 0, none⟩) (.func (.func 79) #[] #[.pointer (some ⟨pt, 0, none⟩), .pointer (some ⟨pb, 0, none⟩), .pointer (some ⟨pd, 0, none⟩)])); have n3_ := Aside0.mk (blk_far BKd.1 (ine_type BKd.1 BKb.1 (by decide)) (p := ⟨pb, 0, none⟩) (.func (.func 79) #[] #[.pointer (some ⟨pt, 0, none⟩), .pointer (some ⟨pb, 0, none⟩), .pointer (some ⟨pd, 0, none⟩)])); have n4_ := Aside0.mk (blk_put BKb.1 0 (.func (.func 79) #[] #[.pointer (some ⟨pt, 0, none⟩), .pointer (some ⟨pb, 0, none⟩), .pointer (some ⟨pd, 0, none⟩)]) rfl); rw [<- hw] at n0_ n1_ n2_ n3_ n4_; clear HB BK1 BK2 BKd BKb hcv hfv hw; have HB := n0_; have BK2 := n2_; have BKd := n3_; have HX := Aside0.mk (⟨n1_.1, n4_.1⟩ : IFix pt pb pd (.int .i64 xn) (.slice A vs.length c) w9); clear n0_ n1_ n2_ n3_ n4_; have hcv : w9.cell? ⟨pb, 0, none⟩ = some (.func (.func 79) #[] #[.pointer (some ⟨pt, 0, none⟩), .pointer (some ⟨pb, 0, none⟩), .pointer (some ⟨pd, 0, none⟩)]) := (blk_cell HX.1.2 0).trans rfl)
  | (go_at_call 79; refine (HB1.1 pt pb pd GEd.1 _ HB.1 HX.1 ⟨_, BKd.1, R_nil _ _ _ _ _⟩).mono ?_; rintro e w10 ⟨rfl, q1, q2, q3⟩; obtain ⟨v, hv, hR⟩ := q1; obtain ⟨A1, c1, ev⟩ := R_slice hR; subst ev; have HR := Aside0.mk hR; have n0_ := Aside0.mk q3; have n1_ := Aside0.mk (q2.2 _ _ _ BK2.1 (.inr N2d.1) (by decide)); clear HB BK2 BKd HX hcv q2 q3 hR; have HB := n0_; have BK2 := n1_; have BKd := Aside0.mk hv; clear n0_ n1_ hv; obtain ⟨hcz_0, hcz_1, hcz_2, hfz_0, hfz_1, hfz_2⟩ := cz3 BKd.1)
  | ((with_reducible refine gate_store (t := 3) (p := 11) rfl ?_); refine storeE (t := 3) (p := 11) (w1 := w10.setCell ⟨pd, 2, none⟩ (.int .i64 r)) ?_; intro w11 hw; have n0_ := Aside0.mk (HB.1.setCell (p := ⟨pd, 2, none⟩) GEd.1 (.int .i64 r)); have n1_ := Aside0.mk (blk_far BK2.1 N2d.1 (p := ⟨pd, 2, none⟩) (.int .i64 r)); have n2_ := Aside0.mk (blk_put BKd.1 2 (.int .i64 r) rfl); have n3_ := Aside0.mk (R_set HR.1 BKd.1 (by decide) 2 (.int .i64 r)); rw [<- hw] at n0_ n1_ n2_ n3_; clear HB BK2 BKd HR hw hcz_0 hcz_1 hcz_2 hfz_0 hfz_1 hfz_2; have HB := n0_; have BK2 := n1_; have BKd := n2_; have HR := n3_; clear n0_ n1_ n2_ n3_; obtain ⟨hcz_0, hcz_1, hcz_2, hfz_0, hfz_1, hfz_2⟩ := cz3 BKd.1; obtain ⟨hcy_0, hcy_1, hcy_2, hfy_0, hfy_1, hfy_2⟩ := cz3 BK2.1))
 refine bodyPost_ret (results_cell_row rfl _ _ gb2 29 #[.int .i64 xn, .slice A1 ns.length c1, .int .i64 r] (0, 0) _ rfl (PF0 BK2.1) Try.underlying29 rfl (by kernel_rfl)) rfl ?_
 exact ⟨_, rfl, R_set (R_set (R_set HR.1 BK2.1 (by decide) 0 _) (PF0 BK2.1) (by decide) 1 _) (PF0 BK2.1) (by decide) 2 _, BL HB.1⟩
theorem impl_diagramOf.calls (a0_0 : Int) (A0_1 : Option Addr) (c0_1 : Nat) (l0_1 : List Int) (r1 : Int) (r2 : List (S63)) (r3 : Int) (w : World) (hr0_1 : Kd.C (Kd.int .i64) w A0_1 l0_1.length l0_1) (hc0_1 : l0_1.length <= c0_1) (h : impl_diagramOf.f a0_0 l0_1 = some (r1, r2, r3)) :
 Calls Try.prog 54 #[.agg #[.int .i64 a0_0, .slice A0_1 l0_1.length c0_1]] w fun e w' => ∃ v1_ : Value, e = .returned (.agg #[.int .i64 r1, v1_, .int .i64 r3]) /\ Kd.R k63 63 w' w.heap.size (fun _ => True) v1_ r2 /\ Below w.heap.size w w' := by
 unfold impl_diagramOf.f spec_ddMake.f at h
 obtain ⟨⟨h0, h1, h2⟩, h⟩ := ifP h
 cases h
 exact diagramOf_calls a0_0.toNat a0_0 A0_1 c0_1 l0_1 w hr0_1 (by omega) (by omega) h2

end Go.Proofs.Ytdkfgomjfigmbaa.P
