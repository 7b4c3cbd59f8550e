-- PRINTED by print.py (a twelfth state) out of the translation. Not trusted: Lean checks it.
import Derived.Test.YtbpfdbjnnlmdjaaPx0
import Derived.Test.YtbpfdbjnnlmdjaaPx1
import Derived.Test.YtbpfdbjnnlmdjaaPx3
import Derived.Test.YtbpfdbjnnlmdjaaPx4
import Derived.Test.YtbpfdbjnnlmdjaaPx5
import Derived.Test.YtbpfdbjnnlmdjaaPx9
namespace Go.Proofs.Ytbpfdbjnnlmdjaa.P
open Go.RowKit Go.Proofs.YtbpfdbjnnlmdjaaW.PrintWords Go.Proofs.YtbpfdbjnnlmdjaaW.PrintLast Go.Proofs.YtbpfdbjnnlmdjaaW.PrintMore
attribute [local go_sem] max2_int min2_int max_two min_two max_three min_three max_four min_four   -- for this text's walks alone
set_option linter.unusedVariables false
set_option linter.unusedSimpArgs false

/-! ### spec_NeverMixes: function 18 -/
def spec_NeverMixes.l0 : Nat → Int → Int → List Bool → Int → Int → Int → List (S83) → Option (Bool × Bool)
  | 0, _, _, _, _, _, _, _ => none
  | k + 1, x1, x6, x7, x8, x592000, x592001, x592002 => if x8 < x6 then ((spec_reNext.f k x592000 x592001 x592002 x8 x1).bind fun bt599 => (if 0 ≤ bt599.1 then (if bt599.1 < (x7.length : Int) then (if rdOf false x7 bt599.1 = true then (some (false, true)) else (spec_NeverMixes.l0 k x1 x6 (x7.set (bt599.1 : Int).toNat true) (wrap64 (x8 + 1)) x592000 x592001 x592002)) else (none)) else (none))) else (some (true, true))
def spec_NeverMixes.f (k : Nat) (a0_0 : Int) (a0_1 : Int) (l0_2 : List (S83)) (a1 : Int) : Option (Bool × Bool) := (spec_reHas.f k a0_0 a0_1 l0_2 a1).bind fun t592 => (if t592 = true then ((spec_saUnits.f k a0_0 a0_1 l0_2).bind fun t593 => (if 0 ≤ (IntKind.u64.wrap ((t593.length : Int))) then (if 0 ≤ (shl .i64 1 (IntKind.u64.wrap ((t593.length : Int)))) then (if (shl .i64 1 (IntKind.u64.wrap ((t593.length : Int))) : Int).toNat ≤ 281474976710656 then (spec_NeverMixes.l0 k a1 (shl .i64 1 (IntKind.u64.wrap ((t593.length : Int)))) (List.replicate (shl .i64 1 (IntKind.u64.wrap ((t593.length : Int))) : Int).toNat false) 0 a0_0 a0_1 l0_2) else (none)) else (none)) else (none))) else (some (false, false)))
theorem spec_NeverMixes.mono_l : ∀ k, (∀ y0 y1 y2 y3 y4 y5 y6, LeO (spec_NeverMixes.l0 k y0 y1 y2 y3 y4 y5 y6) (spec_NeverMixes.l0 (k + 1) y0 y1 y2 y3 y4 y5 y6))
  | 0 => fun _ _ _ _ _ _ _ r h => by simp [spec_NeverMixes.l0] at h
  | k + 1 => by
    have ih0 := spec_NeverMixes.mono_l k
    intros
    first | unfold spec_NeverMixes.l0
    repeat' first | (with_reducible first | apply ih0 | apply spec_reHas.mono | apply spec_reNext.mono | apply spec_saUnits.mono | exact LeO.refl _ | exact LeO.none _ | refine LeO.ite ?_ ?_ | refine LeO.bind ?_ (fun _ => ?_)) | apply ih0 | apply spec_reHas.mono | apply spec_reNext.mono | apply spec_saUnits.mono | exact LeO.none _ | refine LeO.ite ?_ ?_ | refine LeO.bind ?_ (fun _ => ?_)
theorem spec_NeverMixes.mono : ∀ a0 a1 a2 a3 k, LeO (spec_NeverMixes.f k a0 a1 a2 a3) (spec_NeverMixes.f (k + 1) a0 a1 a2 a3) := by
  intro a0 a1 a2 a3 k
  have ih0 := spec_NeverMixes.mono_l k
  unfold spec_NeverMixes.f
  repeat' first | (with_reducible first | apply ih0 | apply spec_reHas.mono | apply spec_reNext.mono | apply spec_saUnits.mono | exact LeO.refl _ | exact LeO.none _ | refine LeO.ite ?_ ?_ | refine LeO.bind ?_ (fun _ => ?_)) | apply ih0 | apply spec_reHas.mono | apply spec_reNext.mono | apply spec_saUnits.mono | exact LeO.none _ | refine LeO.ite ?_ ?_ | refine LeO.bind ?_ (fun _ => ?_)
set_option maxHeartbeats 8000000 in
set_option maxRecDepth 100000 in
theorem spec_NeverMixes.calls (k : Nat) (a0_0 : Int) (a0_1 : Int) (A0_2 : Option Addr) (c0_2 : Nat) (l0_2 : List (S83)) (a1 : Int) (r1 : Bool) (r2 : Bool) (w : World) (hr0_2 : Kd.C k83 w A0_2 l0_2.length l0_2) (hc0_2 : l0_2.length ≤ c0_2) (h : spec_NeverMixes.f k a0_0 a0_1 l0_2 a1 = some (r1, r2)) :
    Calls Try.prog 18 #[.agg #[.int .i64 a0_0, .int .i64 a0_1, .slice A0_2 l0_2.length c0_2], .int .i64 a1] w fun e w' => e = .returned (.tuple #[.bool r1, .bool r2]) ∧ Below w.heap.size w w' := by
  have hu30 := Try.underlying30
  have hu54 := Try.underlying54
  have HR0_2 := Aside0.mk hr0_2
  have HC0_2 := Aside0.mk hc0_2
  clear hr0_2 hc0_2
  have HB := Aside0.mk (Below.refl w.heap.size w)
  have H := h
  clear h
  unfold spec_NeverMixes.f at H
  replace H := bindA H; obtain ⟨t592, A3, H⟩ := H
  replace H := ifX H; rcases H with ⟨rfl, H⟩ | ⟨rfl, H⟩
  · replace H := bindA H; obtain ⟨t593, A5, H⟩ := H
    obtain ⟨ji6, hji6⟩ : ∃ j_ : Int, (IntKind.u64.wrap ((t593.length : Int))) = j_ := ⟨_, rfl⟩
    replace H : (if 0 ≤ (ji6) then (if 0 ≤ (shl .i64 1 (ji6)) then (if (shl .i64 1 (ji6) : Int).toNat ≤ 281474976710656 then (spec_NeverMixes.l0 k a1 (shl .i64 1 (ji6)) (List.replicate (shl .i64 1 (ji6) : Int).toNat false) 0 a0_0 a0_1 l0_2) else (none)) else (none)) else (none)) = some (r1, r2) := by first | (rw [hji6] at H; exact H) | (simp only [hji6] at H ⊢; exact H)
    (try rw [hji6] at A3)
    (try rw [hji6] at A5)
    replace H := ifP H; obtain ⟨c7, H⟩ := H
    have c7b0 := eq_true c7
    have c7b1 := decide_eq_true c7
    clear c7
    obtain ⟨ji8, hji8⟩ : ∃ j_ : Int, (shl .i64 1 (ji6)) = j_ := ⟨_, rfl⟩
    replace H : (if 0 ≤ (ji8) then (if (ji8 : Int).toNat ≤ 281474976710656 then (spec_NeverMixes.l0 k a1 ji8 (List.replicate (ji8 : Int).toNat false) 0 a0_0 a0_1 l0_2) else (none)) else (none)) = some (r1, r2) := by first | (rw [hji8] at H; exact H) | (simp only [hji8] at H ⊢; exact H)
    (try rw [hji8] at A3)
    (try rw [hji8] at A5)
    have hji8_ : (IntKind.i64.wrap (1 * 2 ^ min (ji6).toNat 64)) = ji8 := hji8
    have hji8z : (ji6) ≤ 64 → (IntKind.i64.wrap (1 * 2 ^ (ji6).toNat)) = ji8 := shl_small hji8
    have hji8u : (IntKind.i64.wrap (2 ^ min (ji6).toNat 64)) = ji8 := by have h_ := hji8_; rw [Int.one_mul] at h_; exact h_
    have hji8v : (ji6) ≤ 64 → (IntKind.i64.wrap (2 ^ (ji6).toNat)) = ji8 := fun hle_ => by have h_ := hji8z hle_; rw [Int.one_mul] at h_; exact h_
    have hji8y : (wrap64 (1 * 2 ^ min (ji6).toNat 64)) = ji8 := (i64_w _).symm.trans hji8_
    have hji8x : (ji6) ≤ 64 → (wrap64 (1 * 2 ^ (ji6).toNat)) = ji8 := fun h_ => (i64_w _).symm.trans (hji8z h_)
    replace H := ifP H; obtain ⟨c9, H⟩ := H
    have c9b0 := eq_true c9
    have c9b1 := decide_eq_true c9
    clear c9
    replace H := ifP H; obtain ⟨c10, H⟩ := H
    have c10b0 := eq_true c10
    have c10b1 := decide_eq_true c10
    clear c10
    generalize hy596 : ((List.replicate (ji8 : Int).toNat false) : List Bool) = y596 at H
    have Ny596 := Aside0.mk hy596.symm; clear hy596
    have H' := Aside0.mk H
    clear H
    go_enter Try.func18, Try.ntmps18
    go_wp2_with (first | ((with_reducible refine gate_dst (N := 2) rfl ?_); refine boxE (cs := #[.int .i64 a0_0, .int .i64 a0_1, .slice A0_2 l0_2.length c0_2]) (t := 30) ?_; intro gb591 hg w11 hbox hb; refine E4b HB.1 hg hbox hb ?_; clear HB; intro HB BK591 GW591 GE591; clear hb hbox hg; obtain ⟨hcz12_0, hcz12_1, hcz12_2, hfz12_0, hfz12_1, hfz12_2⟩ := cz3 BK591.1) | ((with_reducible refine gate_callee (f := 42) rfl ?_); refine goesM (N := (some 13)) #[.agg #[.int .i64 a0_0, .int .i64 a0_1, .slice A0_2 l0_2.length c0_2], .int .i64 a1] Try.func42 ?_; (with_reducible refine (spec_reHas.calls k a0_0 a0_1 _ _ l0_2 a1 true _ ?side1 ?side2 A3.1).mono ?_); (case side1 => exact CB (Kd.C_below HR0_2.1 HB.1)); (case side2 => exact HC0_2.1); rintro e w13 ⟨rfl, hb⟩; refine ⟨_, rfl, ?_⟩; refine E2 (bB BK591.1 hb) (below_step (BL HB.1) hb) ?_; clear BK591 HB; intro BK591 HB; (try clear hb); obtain ⟨hcz14_0, hcz14_1, hcz14_2, hfz14_0, hfz14_1, hfz14_2⟩ := cz3 BK591.1) | ((with_reducible refine gate_callee (f := 52) rfl ?_); refine goesM (N := (some 16)) #[.agg #[.int .i64 a0_0, .int .i64 a0_1, .slice A0_2 l0_2.length c0_2]] Try.func52 ?_; (with_reducible refine (spec_saUnits.calls k a0_0 a0_1 _ _ l0_2 t593 _ ?side1 ?side2 A5.1).mono ?_); (case side1 => exact CB (Kd.C_below HR0_2.1 HB.1)); (case side2 => exact HC0_2.1); rintro e w15 ⟨v594, rfl, ho0, hb⟩; refine ⟨_, rfl, ?_⟩; refine E3 (Kd.S_lower ho0 (below_size (BL HB.1))) (bB BK591.1 hb) (below_step (BL HB.1) hb) ?_; clear BK591 HB; intro HO595 BK591 HB; (try clear hb); (try clear ho0); obtain ⟨Ao16, co16, eo16⟩ := Kd.S_slice HO595.1; subst eo16) | ((with_reducible refine gate_dst (N := 21) rfl ?_); refine Kd.R_make Kd.bool _ 4 rfl (N := 21) rfl 67 _ _ rfl ji8 rfl rfl Try.underlying67 (.bool false) 1 info4 rfl (by decide) (by omega) false (ok := fun _ => True) (okp := fun _ => True) rfl (fun _ hk => hk) trivial (OD) (Nat.le_trans (Nat.mul_le_mul_right _ (OD : ji8.toNat ≤ 281474976710656)) (by omega)) (Below.refl _ _) (Nat.le_refl _) ?_; intro v597 w17 ho18 hb hg_ hnew_; clear hg_ hnew_; (first | rw [← Ny596.1] at ho18 | (simp only [Int.reduceToNat] at ho18; rw [← Ny596.1] at ho18)); refine E4 (Kd.S_below (PS HO595.1) hb) (Kd.R_lower ho18 (below_size (BL HB.1))) (bB BK591.1 hb) (below_step (BL HB.1) hb) ?_; clear HO595 BK591 HB; intro HO595 HO598 BK591 HB; clear hb ho18))
    go_loopg [8] k (fun kq v8 w' => ∃ (x7_1 : List Bool) (x8_1 : Int), v8 = .int .i64 x8_1 ∧ Aside0 (spec_NeverMixes.l0 kq a1 ji8 x7_1 x8_1 a0_0 a0_1 l0_2 = some (r1, r2)) ∧ Aside0 (kq ≤ k) ∧ Aside0 (Kd.R Kd.bool 4 w' w.heap.size (fun _ => True) v597 x7_1) ∧ Aside0 (w'.heap[gb591]? = some (.cells #[.int .i64 a0_0, .int .i64 a0_1, (.slice A0_2 l0_2.length c0_2)] 30 (0, 0))) ∧ Aside0 (Below w.heap.size w w'))
    case atStart => exact ⟨(y596), (0), RG, H', ⟨Nat.le_refl _⟩, ⟨PR HO598.1⟩, ⟨PB BK591.1⟩, ⟨BL HB.1⟩⟩
    clear H'
    try clear c7b0; try clear c7b1; try clear c9b0; try clear c9b1; try clear c10b0; try clear c10b1; try clear hcz12_0; try clear hcz12_1; try clear hcz12_2; try clear hcz14_0; try clear hcz14_1; try clear hcz14_2; try clear hfz12_0; try clear hfz12_1; try clear hfz12_2; try clear hfz14_0; try clear hfz14_1; try clear hfz14_2
    obtain ⟨x7_1, x8_1, rfl, HA, HK1, HO_7, BK591, HB⟩ := hrel
    cases gk with
    | zero => exact absurd HA.1 (by simp [spec_NeverMixes.l0])
    | succ k1 => ?_
    have H := HA.1
    clear HA
    simp only [spec_NeverMixes.l0] at H
    replace H := ifB H; rcases H with ⟨c19b0, H⟩ | ⟨c19b0, H⟩
    · replace H := bindA H; obtain ⟨⟨t599, t600, t601, t602⟩, A20, H⟩ := H
      dsimp only at H
      replace H := ifN H; obtain ⟨c21b0, H⟩ := H
      replace H := ifN H; obtain ⟨c22b0, H⟩ := H
      obtain ⟨bq23, hbq23⟩ : ∃ b_ : Bool, b_ = (rdOf false x7_1 t599) := ⟨_, rfl⟩
      replace H : (if bq23 = true then (some (false, true)) else (spec_NeverMixes.l0 k1 a1 ji8 (x7_1.set (t599 : Int).toNat true) (wrap64 (x8_1 + 1)) a0_0 a0_1 l0_2)) = some (r1, r2) := by rw [← hbq23] at H; exact H
      have Nbq23 := Aside0.mk hbq23
      clear hbq23
      replace H := ifX H; rcases H with ⟨rfl, H⟩ | ⟨rfl, H⟩
      · simp only [Option.some.injEq, Prod.mk.injEq] at H
        obtain ⟨rfl, rfl⟩ := H
        obtain ⟨hcz25_0, hcz25_1, hcz25_2, hfz25_0, hfz25_1, hfz25_2⟩ := cz3 BK591.1
        go_wp2_with (first | ((with_reducible refine gate_callee (f := 43) rfl ?_); refine goesM (N := (some 31)) #[.agg #[.int .i64 a0_0, .int .i64 a0_1, .slice A0_2 l0_2.length c0_2], .int .i64 x8_1, .int .i64 a1] Try.func43 ?_; (with_reducible refine (spec_reNext.calls k1 a0_0 a0_1 _ _ l0_2 x8_1 a1 t599 t600 t601 t602 _ ?side1 ?side2 A20.1).mono ?_); (case side1 => exact CB (Kd.C_below HR0_2.1 HB.1)); (case side2 => exact HC0_2.1); rintro e w26 ⟨rfl, hb⟩; refine ⟨_, rfl, ?_⟩; refine E3 (Kd.R_below (PR HO_7.1) hb) (bB BK591.1 hb) (below_step (BL HB.1) hb) ?_; clear HO_7 BK591 HB; intro HO_7 BK591 HB; (try clear hb)) | ((with_reducible refine gate_dst (N := 10) rfl ?_); refine boxE (cs := #[.int .i64 0, .int .i64 0, .int .i64 0]) (t := 54) ?_; intro gb603 hg w27 hbox hb; refine E8 (Kd.R_below (PR HO_7.1) hb) (bB BK591.1 hb) (below_step (BL HB.1) hb) (hbox) (gX HB.1 hg) (gX HB.1 hg) (nB BK591.1 hg) (nC BK591.1 hg) ?_; clear HO_7 BK591 HB; intro HO_7 BK591 HB BK603 GW603 GE603 NB591_603 NB603_591; clear hb hbox hg; have hnb28 := NB603_591.1; have hnc28 := NB591_603.1; obtain ⟨hcz29_0, hcz29_1, hcz29_2, hfz29_0, hfz29_1, hfz29_2⟩ := cz3 BK603.1; obtain ⟨Ao30, co30, eo30⟩ := Kd.R_slice HO_7.1; subst eo30; have p604 : 0 ≤ (t599 : Int) := OD; have q604 : t599 < (x7_1.length : Int) := OD; obtain ⟨ad604, e604, hx604_0⟩ := Kd.at_bool (Kd.R_reads' HO_7.1).2.2 t599 p604 q604; (try rw [← Nbq23.1] at hx604_0); cases e604; have hn604_0 : ad604.block ≠ gb603 := Kd.own_blk (Kd.R_ne HO_7.1 BK603.1 (by decide)); have hn604_1 : ad604.block ≠ gb603 := Kd.own_blk (Kd.R_ne HO_7.1 BK603.1 (by decide)); have hn604_2 : ad604.block ≠ gb603 := Kd.own_blk (Kd.R_ne HO_7.1 BK603.1 (by decide)); replace hx604_0 := (cell_far (p := ⟨gb603, 0, none⟩) (by first | (rw [add_block]; exact hn604_0) | (show (Addr.add _ _).block ≠ _; rw [add_block]; exact hn604_0) | exact hn604_0) (.int .i64 t600)).trans hx604_0; replace hx604_0 := (cell_far (p := ⟨gb603, 1, none⟩) (by first | (rw [add_block]; exact hn604_1) | (show (Addr.add _ _).block ≠ _; rw [add_block]; exact hn604_1) | exact hn604_1) (.int .i64 t601)).trans hx604_0; replace hx604_0 := (cell_far (p := ⟨gb603, 2, none⟩) (by first | (rw [add_block]; exact hn604_2) | (show (Addr.add _ _).block ≠ _; rw [add_block]; exact hn604_2) | exact hn604_2) (.int .i64 t602)).trans hx604_0; clear hn604_0; clear hn604_1; clear hn604_2; replace p604 := eq_true p604; replace q604 := eq_true q604))
        go_ret2
        exact ⟨by first | rfl | (simp [errW_none, errW_some] <;> rfl) | (simp only [← hji6, ← hji8]; first | rfl | (simp [errW_none, errW_some] <;> rfl)) | (simp [*, errW_none, errW_some] <;> rfl), BL HB.1⟩
      generalize hy605 : ((x7_1.set (t599 : Int).toNat true) : List Bool) = y605 at H
      have Ny605 := Aside0.mk hy605.symm; clear hy605
      have H' := Aside0.mk H
      clear H
      obtain ⟨hcz32_0, hcz32_1, hcz32_2, hfz32_0, hfz32_1, hfz32_2⟩ := cz3 BK591.1
      go_wp2_with (first | ((with_reducible refine gate_callee (f := 43) rfl ?_); refine goesM (N := (some 31)) #[.agg #[.int .i64 a0_0, .int .i64 a0_1, .slice A0_2 l0_2.length c0_2], .int .i64 x8_1, .int .i64 a1] Try.func43 ?_; (with_reducible refine (spec_reNext.calls k1 a0_0 a0_1 _ _ l0_2 x8_1 a1 t599 t600 t601 t602 _ ?side1 ?side2 A20.1).mono ?_); (case side1 => exact CB (Kd.C_below HR0_2.1 HB.1)); (case side2 => exact HC0_2.1); rintro e w33 ⟨rfl, hb⟩; refine ⟨_, rfl, ?_⟩; refine E3 (Kd.R_below (PR HO_7.1) hb) (bB BK591.1 hb) (below_step (BL HB.1) hb) ?_; clear HO_7 BK591 HB; intro HO_7 BK591 HB; (try clear hb)) | ((with_reducible refine gate_dst (N := 10) rfl ?_); refine boxE (cs := #[.int .i64 0, .int .i64 0, .int .i64 0]) (t := 54) ?_; intro gb603 hg w34 hbox hb; refine E8 (Kd.R_below (PR HO_7.1) hb) (bB BK591.1 hb) (below_step (BL HB.1) hb) (hbox) (gX HB.1 hg) (gX HB.1 hg) (nB BK591.1 hg) (nC BK591.1 hg) ?_; clear HO_7 BK591 HB; intro HO_7 BK591 HB BK603 GW603 GE603 NB591_603 NB603_591; clear hb hbox hg; have hnb35 := NB603_591.1; have hnc35 := NB591_603.1; obtain ⟨hcz36_0, hcz36_1, hcz36_2, hfz36_0, hfz36_1, hfz36_2⟩ := cz3 BK603.1) | ((with_reducible refine gate_store (t := 54) (p := 10) rfl ?_); refine storeE (t := 54) (p := 10) (w1 := (((w34.setCell ⟨gb603, 0, none⟩ (.int .i64 t600)).setCell ⟨gb603, 1, none⟩ (.int .i64 t601)).setCell ⟨gb603, 2, none⟩ (.int .i64 t602))) ?_; intro w37 hw; have n0_ : Aside0 (Kd.R Kd.bool 4 w37 w.heap.size (fun _ => True) v597 x7_1) := ⟨(by rw [hw]; exact (by (with_reducible repeat (first | apply Kd.R_alloc | apply Kd.R_drewN | apply Kd.R_drew)); exact Kd.R_mono (Kd.R_far (p := ⟨gb603, 2, none⟩) (Kd.R_far (p := ⟨gb603, 1, none⟩) (Kd.R_far (p := ⟨gb603, 0, none⟩) (Kd.R_types HO_7.1 BK603.1 (by decide)) (fun _ hk => hk.2) (.int .i64 t600)) (fun _ hk => hk.2) (.int .i64 t601)) (fun _ hk => hk.2) (.int .i64 t602)) (fun _ hk => trivial)))⟩; have n1_ : Aside0 (w37.heap[gb591]? = some (.cells #[.int .i64 a0_0, .int .i64 a0_1, .slice A0_2 l0_2.length c0_2] 30 (0, 0))) := ⟨(by rw [hw]; exact (PF1 NB591_603.1 BK591.1))⟩; have n2_ : Aside0 (w37.heap[gb603]? = some (.cells #[.int .i64 t600, .int .i64 t601, .int .i64 t602] 54 (0, 0))) := ⟨(by rw [hw]; exact (PF0 BK603.1))⟩; have n3_ : Aside0 (Below w.heap.size w w37) := ⟨(by rw [hw]; exact (BL HB.1))⟩; clear hw; clear HO_7; clear BK591; clear BK603; clear HB; have HO_7 := n0_; have BK591 := n1_; have BK603 := n2_; have HB := n3_; clear n0_ n1_ n2_ n3_; obtain ⟨Ao38, co38, eo38⟩ := Kd.R_slice HO_7.1; subst eo38; have p604 : 0 ≤ (t599 : Int) := OD; have q604 : t599 < (x7_1.length : Int) := OD; obtain ⟨ad604, e604, hx604_0⟩ := Kd.at_bool (Kd.R_reads' HO_7.1).2.2 t599 p604 q604; (try rw [← Nbq23.1] at hx604_0); cases e604; replace p604 := eq_true p604; replace q604 := eq_true q604; have p31 : 0 ≤ (t599 : Int) := OD; have q31 : (t599 : Int) < ((x7_1.length : Int) : Int) := OD; obtain ⟨go31, co31, eo31, gb31, gl31, cl31, HG31⟩ := Kd.R_form HO_7.1 (by omega); (first | cases eo31 | (injection eo31 with ea_ en_ ec_; (first | subst ea_ | (injection ea_ with ea_; subst ea_)); subst ec_; clear en_)); have GB31 := Aside0.mk gb31; have GG31 := Aside0.mk HG31; clear gb31 gl31 HG31; (first | simp only [add_plain] at hx604_0 | skip); obtain ⟨hx31_0, hf31_0⟩ := Kd.R_celln false HO_7.1 (t599 : Int) p31 q31; replace p31 := eq_true p31; replace q31 := eq_true q31; obtain ⟨hy39_, hz39_⟩ := Kd.R_celln false HO_7.1 (t599 : Int) (OD) (OD); have HP39 := Kd.R_putg HO_7.1 (t599 : Int) true) | ((with_reducible refine gate_store (t := 4) (p := 40) rfl ?_); refine storeE (t := 4) (p := 40) (w1 := (w37.setCell ⟨go31, (t599 : Int).toNat, none⟩ (.bool true))) ?_; intro w40 hw; have hg : w37.grownBy w40 (some go31) := (by rw [hw]; exact HP39.2); have hp_ : Kd.R Kd.bool 4 w40 w.heap.size (fun _ => True) (.slice (some ⟨go31, 0, none⟩) x7_1.length co38) y605 := (by rw [hw, Ny605.1]; exact HP39.1); clear HP39; refine E4 (hp_) (bG BK591.1 hg (Kd.R_ne HO_7.1 BK591.1 (by decide))) (bG BK603.1 hg (Kd.R_ne HO_7.1 BK603.1 (by decide))) ((by rw [hw]; exact below_set (HB.1) GB31.1 : Below w.heap.size w w40)) ?_; clear HO_7 BK591 BK603 HB; intro HO_7 BK591 BK603 HB; clear hg hw hp_))
      go_roundg k1
      case measure => have := HK1.1; omega
      case rel => exact ⟨(y605), (wrap64 (x8_1 + 1)), RG, H', ⟨by have := HK1.1; omega⟩, ⟨PR HO_7.1⟩, ⟨PB BK591.1⟩, ⟨BL HB.1⟩⟩
    simp only [Option.some.injEq, Prod.mk.injEq] at H
    obtain ⟨rfl, rfl⟩ := H
    go_wp2
    go_ret2
    exact ⟨by first | rfl | (simp [errW_none, errW_some] <;> rfl) | (simp only [← hji6, ← hji8]; first | rfl | (simp [errW_none, errW_some] <;> rfl)) | (simp [*, errW_none, errW_some] <;> rfl), BL HB.1⟩
  simp only [Option.some.injEq, Prod.mk.injEq] at H
  obtain ⟨rfl, rfl⟩ := H
  go_enter Try.func18, Try.ntmps18
  go_wp2_with (first | ((with_reducible refine gate_dst (N := 2) rfl ?_); refine boxE (cs := #[.int .i64 a0_0, .int .i64 a0_1, .slice A0_2 l0_2.length c0_2]) (t := 30) ?_; intro gb591 hg w41 hbox hb; refine E4b HB.1 hg hbox hb ?_; clear HB; intro HB BK591 GW591 GE591; clear hb hbox hg; obtain ⟨hcz42_0, hcz42_1, hcz42_2, hfz42_0, hfz42_1, hfz42_2⟩ := cz3 BK591.1) | ((with_reducible refine gate_callee (f := 42) rfl ?_); refine goesM (N := (some 13)) #[.agg #[.int .i64 a0_0, .int .i64 a0_1, .slice A0_2 l0_2.length c0_2], .int .i64 a1] Try.func42 ?_; (with_reducible refine (spec_reHas.calls k a0_0 a0_1 _ _ l0_2 a1 false _ ?side1 ?side2 A3.1).mono ?_); (case side1 => exact CB (Kd.C_below HR0_2.1 HB.1)); (case side2 => exact HC0_2.1); rintro e w43 ⟨rfl, hb⟩; refine ⟨_, rfl, ?_⟩; refine E2 (bB BK591.1 hb) (below_step (BL HB.1) hb) ?_; clear BK591 HB; intro BK591 HB; (try clear hb)))
  go_ret2
  exact ⟨RF, BL HB.1⟩

/-! ### impl_NeverMixes: function 19 -/
mutual
def impl_NeverMixes.j0 : Nat → Int → Bool → Int → Int → List (S83) → Option (Bool × Bool)
  | 0, _, _, _, _, _ => none
  | k + 1, x1, x18, x607000, x607001, x607002 => if x18 = true then (some (false, false)) else ((impl_numbersAfter.f k x607000 x607001 x607002 (([x1] : List Int))).bind fun t612 => (if 0 < (t612.length : Int) then (if 0 ≤ ((rd_L3 t612 0).length : Int) then (if (((rd_L3 t612 0).length : Int) : Int).toNat ≤ 281474976710656 then (impl_NeverMixes.l0 k (List.replicate (((rd_L3 t612 0).length : Int) : Int).toNat false) (rd_L3 t612 0) ((rd_L3 t612 0).length : Int) 0) else (none)) else (none)) else (none)))
def impl_NeverMixes.l0 : Nat → List Bool → List Int → Int → Int → Option (Bool × Bool)
  | 0, _, _, _, _ => none
  | k + 1, x7, x28, x29, x30 => if x30 < x29 then (if 0 ≤ x30 then (if x30 < (x28.length : Int) then (if 0 ≤ (rd x28 x30) then (if (rd x28 x30) < (x7.length : Int) then (if rdOf false x7 (rd x28 x30) = true then (some (false, true)) else (impl_NeverMixes.l0 k (x7.set ((rd x28 x30) : Int).toNat true) x28 x29 (wrap64 (x30 + 1)))) else (none)) else (none)) else (none)) else (none)) else (some (true, true))
end
def impl_NeverMixes.f (k : Nat) (a0_0 : Int) (a0_1 : Int) (l0_2 : List (S83)) (a1 : Int) : Option (Bool × Bool) := (impl_fewUnits.f k a0_0 a0_1 l0_2).bind fun t607 => (if t607 = true then ((impl_validEntry.f k a0_0 a0_1 l0_2 a1).bind fun t608 => (impl_NeverMixes.j0 k a1 (!t608) a0_0 a0_1 l0_2)) else (impl_NeverMixes.j0 k a1 true a0_0 a0_1 l0_2))
theorem impl_NeverMixes.mono_l : ∀ k, (∀ y0 y1 y2 y3 y4, LeO (impl_NeverMixes.j0 k y0 y1 y2 y3 y4) (impl_NeverMixes.j0 (k + 1) y0 y1 y2 y3 y4)) ∧ (∀ y0 y1 y2 y3, LeO (impl_NeverMixes.l0 k y0 y1 y2 y3) (impl_NeverMixes.l0 (k + 1) y0 y1 y2 y3))
  | 0 => by refine ⟨?_, ?_⟩ <;> (intros; intro r h; first | (simp [impl_NeverMixes.j0] at h; done) | (simp [impl_NeverMixes.l0] at h; done))
  | k + 1 => by
    obtain ⟨ih0, ih1⟩ := impl_NeverMixes.mono_l k
    refine ⟨?_, ?_⟩ <;> (
      intros
      first | unfold impl_NeverMixes.j0 | unfold impl_NeverMixes.l0
      repeat' first | (with_reducible first | apply ih0 | apply ih1 | apply impl_fewUnits.mono | apply impl_numbersAfter.mono | apply impl_validEntry.mono | exact LeO.refl _ | exact LeO.none _ | refine LeO.ite ?_ ?_ | refine LeO.bind ?_ (fun _ => ?_)) | apply ih0 | apply ih1 | apply impl_fewUnits.mono | apply impl_numbersAfter.mono | apply impl_validEntry.mono | exact LeO.none _ | refine LeO.ite ?_ ?_ | refine LeO.bind ?_ (fun _ => ?_))
theorem impl_NeverMixes.mono : ∀ a0 a1 a2 a3 k, LeO (impl_NeverMixes.f k a0 a1 a2 a3) (impl_NeverMixes.f (k + 1) a0 a1 a2 a3) := by
  intro a0 a1 a2 a3 k
  obtain ⟨ih0, ih1⟩ := impl_NeverMixes.mono_l k
  unfold impl_NeverMixes.f
  repeat' first | (with_reducible first | apply ih0 | apply ih1 | apply impl_fewUnits.mono | apply impl_numbersAfter.mono | apply impl_validEntry.mono | exact LeO.refl _ | exact LeO.none _ | refine LeO.ite ?_ ?_ | refine LeO.bind ?_ (fun _ => ?_)) | apply ih0 | apply ih1 | apply impl_fewUnits.mono | apply impl_numbersAfter.mono | apply impl_validEntry.mono | exact LeO.none _ | refine LeO.ite ?_ ?_ | refine LeO.bind ?_ (fun _ => ?_)
set_option maxHeartbeats 8000000 in
set_option maxRecDepth 100000 in
theorem impl_NeverMixes.calls (k : Nat) (a0_0 : Int) (a0_1 : Int) (A0_2 : Option Addr) (c0_2 : Nat) (l0_2 : List (S83)) (a1 : Int) (r1 : Bool) (r2 : Bool) (w : World) (hr0_2 : Kd.C k83 w A0_2 l0_2.length l0_2) (hc0_2 : l0_2.length ≤ c0_2) (h : impl_NeverMixes.f k a0_0 a0_1 l0_2 a1 = some (r1, r2)) :
    Calls Try.prog 19 #[.agg #[.int .i64 a0_0, .int .i64 a0_1, .slice A0_2 l0_2.length c0_2], .int .i64 a1] w fun e w' => e = .returned (.tuple #[.bool r1, .bool r2]) ∧ Below w.heap.size w w' := by
  have hu30 := Try.underlying30
  have HR0_2 := Aside0.mk hr0_2
  have HC0_2 := Aside0.mk hc0_2
  clear hr0_2 hc0_2
  have HB := Aside0.mk (Below.refl w.heap.size w)
  have H := h
  clear h
  unfold impl_NeverMixes.f at H
  have HC3 := Aside0.mk H
  clear H
  go_enter Try.func19, Try.ntmps19
  go_upto_region 1 with (first | ((with_reducible refine gate_dst (N := 2) rfl ?_); refine boxE (cs := #[.int .i64 a0_0, .int .i64 a0_1, .slice A0_2 l0_2.length c0_2]) (t := 30) ?_; intro gb606 hg w4 hbox hb; refine E4b HB.1 hg hbox hb ?_; clear HB; intro HB BK606 GW606 GE606; clear hb hbox hg))
  (try simp only [Act.put, List.setIfInBounds_toArray, List.set_cons_zero, List.set_cons_succ])
  go_cut [18] (fun v18 wc => ∃ (kq : Nat) (x18_2 : Bool), v18 = .bool x18_2 ∧ Aside0 (impl_NeverMixes.j0 kq a1 x18_2 a0_0 a0_1 l0_2 = some (r1, r2)) ∧ Aside0 (kq ≤ k) ∧ Aside0 (wc.heap[gb606]? = some (.cells #[.int .i64 a0_0, .int .i64 a0_1, (.slice A0_2 l0_2.length c0_2)] 30 (0, 0))) ∧ Aside0 (Below w.heap.size w wc))
  case first =>
    have H := HC3.1
    clear HC3
    replace H := bindA H; obtain ⟨t607, A5, H⟩ := H
    replace H := ifX H; rcases H with ⟨rfl, H⟩ | ⟨rfl, H⟩
    · replace H := bindA H; obtain ⟨t608, A7, H⟩ := H
      have H' := Aside0.mk H
      clear H
      obtain ⟨hcz8_0, hcz8_1, hcz8_2, hfz8_0, hfz8_1, hfz8_2⟩ := cz3 BK606.1
      go_wp2_with (first | ((with_reducible refine gate_callee (f := 46) rfl ?_); refine goesM (N := (some 11)) #[.agg #[.int .i64 a0_0, .int .i64 a0_1, .slice A0_2 l0_2.length c0_2]] Try.func46 ?_; (with_reducible refine (impl_fewUnits.calls k a0_0 a0_1 _ _ l0_2 true _ ?side1 ?side2 A5.1).mono ?_); (case side1 => exact CB (Kd.C_below HR0_2.1 HB.1)); (case side2 => exact HC0_2.1); rintro e w9 ⟨rfl, hb⟩; refine ⟨_, rfl, ?_⟩; refine E2 (bB BK606.1 hb) (below_step (BL HB.1) hb) ?_; clear BK606 HB; intro BK606 HB; (try clear hb); obtain ⟨hcz10_0, hcz10_1, hcz10_2, hfz10_0, hfz10_1, hfz10_2⟩ := cz3 BK606.1) | (go_at_call 47; (with_reducible refine (impl_validEntry.calls k a0_0 a0_1 _ _ l0_2 a1 t608 _ ?side1 ?side2 A7.1).mono ?_); (case side1 => exact CB (Kd.C_below HR0_2.1 HB.1)); (case side2 => exact HC0_2.1); rintro e w11 ⟨rfl, hb⟩; refine E2 (bB BK606.1 hb) (below_step (BL HB.1) hb) ?_; clear BK606 HB; intro BK606 HB; (try clear hb)))
      go_meet
      case rel => exact ⟨_, (!t608), RG, H', ⟨by first | omega | exact Nat.le_refl _⟩, ⟨PB BK606.1⟩, ⟨BL HB.1⟩⟩
    have H' := Aside0.mk H
    clear H
    obtain ⟨hcz12_0, hcz12_1, hcz12_2, hfz12_0, hfz12_1, hfz12_2⟩ := cz3 BK606.1
    go_wp2_with (first | ((with_reducible refine gate_callee (f := 46) rfl ?_); refine goesM (N := (some 11)) #[.agg #[.int .i64 a0_0, .int .i64 a0_1, .slice A0_2 l0_2.length c0_2]] Try.func46 ?_; (with_reducible refine (impl_fewUnits.calls k a0_0 a0_1 _ _ l0_2 false _ ?side1 ?side2 A5.1).mono ?_); (case side1 => exact CB (Kd.C_below HR0_2.1 HB.1)); (case side2 => exact HC0_2.1); rintro e w13 ⟨rfl, hb⟩; refine ⟨_, rfl, ?_⟩; refine E2 (bB BK606.1 hb) (below_step (BL HB.1) hb) ?_; clear BK606 HB; intro BK606 HB; (try clear hb)))
    go_meet
    case rel => exact ⟨_, (true), RG, H', ⟨by first | omega | exact Nat.le_refl _⟩, ⟨PB BK606.1⟩, ⟨BL HB.1⟩⟩
  clear HC3
  obtain ⟨kq, x18_2, rfl, HA, HJ2, BK606, HB⟩ := hcut
  cases kq with
  | zero => exact absurd HA.1 (by simp [impl_NeverMixes.j0])
  | succ kj2 => ?_
  have H := HA.1
  clear HA
  simp only [impl_NeverMixes.j0] at H
  replace H := ifX H; rcases H with ⟨rfl, H⟩ | ⟨rfl, H⟩
  · simp only [Option.some.injEq, Prod.mk.injEq] at H
    obtain ⟨rfl, rfl⟩ := H
    go_wp2
    go_ret2
    exact ⟨RF, BL HB.1⟩
  generalize hy609 : ((([a1] : List Int)) : List Int) = y609 at H
  have Ny609 := Aside0.mk hy609.symm; clear hy609
  replace H := bindA H; obtain ⟨t612, A15, H⟩ := H
  replace H := ifP H; obtain ⟨c16, H⟩ := H
  have c16b0 := decide_eq_true c16
  have c16b1 : decide (0 < t612.length) = true := decide_eq_true (by omega)
  clear c16
  replace H := ifP H; obtain ⟨c17, H⟩ := H
  have c17b0 := eq_true c17
  have c17b1 := decide_eq_true c17
  clear c17
  replace H := ifP H; obtain ⟨c18, H⟩ := H
  have c18b0 := eq_true c18
  have c18b1 := decide_eq_true c18
  clear c18
  generalize hy616 : ((List.replicate (((rd_L3 t612 0).length : Int) : Int).toNat false) : List Bool) = y616 at H
  have Ny616 := Aside0.mk hy616.symm; clear hy616
  have H' := Aside0.mk H
  clear H
  obtain ⟨hcz19_0, hcz19_1, hcz19_2, hfz19_0, hfz19_1, hfz19_2⟩ := cz3 BK606.1
  go_wp2_with (first | ((with_reducible refine gate_dst (N := 21) rfl ?_); refine Kd.R_lit (Kd.int .i64) _ 3 ?hg (N := 21) ?hd (xs := ([a1] : List Int)) (inner := [.int .i64 a1]) (ok := fun _ => True) (okp := fun _ => True) ?hr ?hp (fun _ hk => hk) trivial (Below.refl _ _) (Nat.le_refl _) (by simp) ?_; (case hd => rfl); (case hg => rfl); (case hr => first | (go_simp; done) | (go_simp; rfl)); (case hp => exact (Reps.one (show Kd.M (Kd.int .i64) _ _ _ a1 [.int .i64 a1] from rfl) (Reps.none _ _))); intro v610 w20 ho21 hb hg_ hnew_; clear hg_ hnew_; (first | rw [← Ny609.1] at ho21 | (simp only [Int.reduceToNat] at ho21; rw [← Ny609.1] at ho21)); refine E3 (Kd.R_lower ho21 (below_size (BL HB.1))) (bB BK606.1 hb) (below_step (BL HB.1) hb) ?_; clear BK606 HB; intro HO611 BK606 HB; clear hb ho21; obtain ⟨Ao22, co22, eo22⟩ := Kd.R_slice HO611.1; subst eo22) | ((with_reducible refine gate_callee (f := 48) rfl ?_); refine goesM (N := (some 22)) #[.agg #[.int .i64 a0_0, .int .i64 a0_1, .slice A0_2 l0_2.length c0_2], .slice Ao22 y609.length co22] Try.func48 ?_; (with_reducible refine (impl_numbersAfter.calls kj2 a0_0 a0_1 _ _ l0_2 _ _ y609 t612 _ ?side1 ?side2 ?side3 ?side4 A15.1).mono ?_); (case side1 => exact CB (Kd.C_below HR0_2.1 HB.1)); (case side2 => exact HC0_2.1); (case side3 => exact CB (Kd.R_reads' HO611.1).2.2); (case side4 => exact (Kd.R_reads' HO611.1).2.1); rintro e w ⟨v613, rfl, ho0, hb⟩; refine ⟨_, rfl, ?_⟩; refine E6 (Kd.R_below (PR HO611.1) hb) (Kd.S_lower (Kd.S_new' ho0 (Kd.R_lt (PR HO611.1))) (below_size (BL HB.1))) (bB BK606.1 hb) (below_step (BL HB.1) hb) (Kd.C_below HR0_2.1 (below_step (BL HB.1) hb)) (Below.refl w.heap.size w) ?_; clear HO611 BK606 HB HR0_2; intro HO611 HO614 BK606 HW HR0_2 HB; (try clear hb); (try clear ho0); obtain ⟨Ao24, co24, eo24⟩ := Kd.S_slice HO614.1; subst eo24; have p615 : 0 ≤ (0 : Int) := (by omega); have q615 : 0 < (t612.length : Int) := OD; obtain ⟨ad615, A615_0, c615_0, e615, hx615_0, hl615_0, hi615_0⟩ := at_L3 (Kd.S_reads' HO614.1).2.2 0 p615 q615; cases e615; obtain ⟨ce615, hce615, hMe615, hcc615⟩ := Kd.S_get HO614.1 [] 0 p615 (by first | exact q615 | exact OD | (have e_ := (Kd.S_reads' HO614.1).1; omega)); obtain ⟨ve615_0, rfl, ge615_0⟩ := hMe615; have hv615_0 := hcc615 0 _ rfl; rw [Nat.add_zero, show ((Kd.slice 3 (Kd.int .i64))).sz = 1 from rfl, Nat.mul_one] at hv615_0; replace hv615_0 := Option.some.inj (hv615_0.symm.trans hx615_0); rw [hv615_0] at ge615_0; have HL615_0 := Aside0.mk (show Kd.R (Kd.int .i64) 3 _ _ _ _ (rd_L3 t612 0) from ge615_0); clear hv615_0 ge615_0; clear hcc615 hce615; have qi615 : (0 < t612.length) = True := eq_true (by omega); (try rw [show ((0 : Int)).toNat = 0 from rfl] at hx615_0); (try rw [Addr.add_zero'] at hx615_0); have HR615_0 := Aside0.mk hi615_0; have HC615_0 := Aside0.mk hl615_0; clear hi615_0 hl615_0; replace p615 := eq_true p615; replace q615 := eq_true q615) | ((with_reducible refine gate_dst (N := 27) rfl ?_); refine Kd.R_make Kd.bool _ 4 rfl (N := 27) rfl 67 _ _ rfl ((rd_L3 t612 0).length : Int) rfl rfl Try.underlying67 (.bool false) 1 info4 rfl (by decide) (by omega) false (ok := fun _ => True) (okp := fun _ => True) rfl (fun _ hk => hk) trivial (OD) (Nat.le_trans (Nat.mul_le_mul_right _ (OD : ((rd_L3 t612 0).length : Int).toNat ≤ 281474976710656)) (by omega)) (Below.refl _ _) (Nat.le_refl _) ?_; intro v617 w25 ho26 hb hg_ hnew_; clear hg_ hnew_; (first | rw [← Ny616.1] at ho26 | (simp only [Int.reduceToNat] at ho26; rw [← Ny616.1] at ho26)); refine E6 (Kd.R_below (PR HO611.1) hb) (Kd.S_below (PS HO614.1) hb) (Kd.R_below (PR HL615_0.1) hb) (Kd.R_lower ho26 (below_size (BL HB.1))) (bB BK606.1 hb) (below_step (BL HB.1) hb) ?_; clear HO611 HO614 HL615_0 BK606 HB; intro HO611 HO614 HL615_0 HO618 BK606 HB; clear hb ho26))
  go_loopg [30] kj2 (fun kq v30 w' => ∃ (x7_2 : List Bool) (x30_2 : Int), v30 = .int .i64 x30_2 ∧ Aside0 (impl_NeverMixes.l0 kq x7_2 (rd_L3 t612 0) ((rd_L3 t612 0).length : Int) x30_2 = some (r1, r2)) ∧ Aside0 (kq ≤ kj2) ∧ Aside0 (Kd.R Kd.bool 4 w' w.heap.size (fun _ => True) v617 x7_2) ∧ Aside0 (w'.heap[gb606]? = some (.cells #[.int .i64 a0_0, .int .i64 a0_1, (.slice A0_2 l0_2.length c0_2)] 30 (0, 0))) ∧ Aside0 (Below w.heap.size w w'))
  case atStart => exact ⟨(y616), (0), RG, H', ⟨Nat.le_refl _⟩, ⟨PR HO618.1⟩, ⟨PB BK606.1⟩, ⟨BL HB.1⟩⟩
  clear H'
  try clear c16b0; try clear c16b1; try clear c17b0; try clear c17b1; try clear c18b0; try clear c18b1; try clear hcz19_0; try clear hcz19_1; try clear hcz19_2; try clear hfz19_0; try clear hfz19_1; try clear hfz19_2; try clear hx615_0; try clear p615; try clear q615
  obtain ⟨x7_2, x30_2, rfl, HA, HK2, HO_7, BK606, HB⟩ := hrel
  cases gk with
  | zero => exact absurd HA.1 (by simp [impl_NeverMixes.l0])
  | succ k2 => ?_
  have H := HA.1
  clear HA
  simp only [impl_NeverMixes.l0] at H
  replace H := ifB H; rcases H with ⟨c27b0, H⟩ | ⟨c27b0, H⟩
  · replace H := ifN H; obtain ⟨c28b0, H⟩ := H
    replace H := ifN H; obtain ⟨c29b0, H⟩ := H
    replace H := ifN H; obtain ⟨c30b0, H⟩ := H
    replace H := ifN H; obtain ⟨c31b0, H⟩ := H
    obtain ⟨bq32, hbq32⟩ : ∃ b_ : Bool, b_ = (rdOf false x7_2 (rd (rd_L3 t612 0) x30_2)) := ⟨_, rfl⟩
    replace H : (if bq32 = true then (some (false, true)) else (impl_NeverMixes.l0 k2 (x7_2.set ((rd (rd_L3 t612 0) x30_2) : Int).toNat true) (rd_L3 t612 0) ((rd_L3 t612 0).length : Int) (wrap64 (x30_2 + 1)))) = some (r1, r2) := by rw [← hbq32] at H; exact H
    have Nbq32 := Aside0.mk hbq32
    clear hbq32
    replace H := ifX H; rcases H with ⟨rfl, H⟩ | ⟨rfl, H⟩
    · simp only [Option.some.injEq, Prod.mk.injEq] at H
      obtain ⟨rfl, rfl⟩ := H
      have p619 : 0 ≤ (x30_2 : Int) := OD
      have q619 : x30_2 < ((rd_L3 t612 0).length : Int) := OD
      obtain ⟨ad619, e619, hx619_0⟩ := Kd.at_int HR615_0.1 x30_2 p619 q619
      cases e619
      replace hx619_0 := (HB.1.cell (World.block_lt_of_cell? w _ hx619_0)).trans hx619_0
      replace p619 := eq_true p619
      replace q619 := eq_true q619
      obtain ⟨Ao34, co34, eo34⟩ := Kd.R_slice HO_7.1
      subst eo34
      have p620 : 0 ≤ ((rd (rd_L3 t612 0) x30_2) : Int) := OD
      have q620 : (rd (rd_L3 t612 0) x30_2) < (x7_2.length : Int) := OD
      obtain ⟨ad620, e620, hx620_0⟩ := Kd.at_bool (Kd.R_reads' HO_7.1).2.2 (rd (rd_L3 t612 0) x30_2) p620 q620
      (try rw [← Nbq32.1] at hx620_0)
      cases e620
      replace p620 := eq_true p620
      replace q620 := eq_true q620
      go_wp2
      go_ret2
      exact ⟨RF, below_step HW.1 (BL HB.1)⟩
    generalize hy621 : ((x7_2.set ((rd (rd_L3 t612 0) x30_2) : Int).toNat true) : List Bool) = y621 at H
    have Ny621 := Aside0.mk hy621.symm; clear hy621
    have H' := Aside0.mk H
    clear H
    have p619 : 0 ≤ (x30_2 : Int) := OD
    have q619 : x30_2 < ((rd_L3 t612 0).length : Int) := OD
    obtain ⟨ad619, e619, hx619_0⟩ := Kd.at_int HR615_0.1 x30_2 p619 q619
    cases e619
    replace hx619_0 := (HB.1.cell (World.block_lt_of_cell? w _ hx619_0)).trans hx619_0
    replace p619 := eq_true p619
    replace q619 := eq_true q619
    obtain ⟨Ao36, co36, eo36⟩ := Kd.R_slice HO_7.1
    subst eo36
    have p620 : 0 ≤ ((rd (rd_L3 t612 0) x30_2) : Int) := OD
    have q620 : (rd (rd_L3 t612 0) x30_2) < (x7_2.length : Int) := OD
    obtain ⟨ad620, e620, hx620_0⟩ := Kd.at_bool (Kd.R_reads' HO_7.1).2.2 (rd (rd_L3 t612 0) x30_2) p620 q620
    (try rw [← Nbq32.1] at hx620_0)
    cases e620
    replace p620 := eq_true p620
    replace q620 := eq_true q620
    have p35 : 0 ≤ ((rd (rd_L3 t612 0) x30_2) : Int) := OD
    have q35 : ((rd (rd_L3 t612 0) x30_2) : Int) < ((x7_2.length : Int) : Int) := OD
    obtain ⟨go35, co35, eo35, gb35, gl35, cl35, HG35⟩ := Kd.R_form HO_7.1 (by omega)
    (first | cases eo35 | (injection eo35 with ea_ en_ ec_; (first | subst ea_ | (injection ea_ with ea_; subst ea_)); subst ec_; clear en_))
    have GB35 := Aside0.mk gb35
    have GG35 := Aside0.mk HG35
    clear gb35 gl35 HG35
    (first | simp only [add_plain] at hx620_0 | skip)
    obtain ⟨hx35_0, hf35_0⟩ := Kd.R_celln false HO_7.1 ((rd (rd_L3 t612 0) x30_2) : Int) p35 q35
    replace p35 := eq_true p35
    replace q35 := eq_true q35
    have HP37 := Kd.R_putg HO_7.1 ((rd (rd_L3 t612 0) x30_2) : Int) true
    go_wp2_with (first | ((with_reducible refine gate_store (t := 4) (p := 40) rfl ?_); refine storeE (t := 4) (p := 40) (w1 := (wr.setCell ⟨go35, ((rd (rd_L3 t612 0) x30_2) : Int).toNat, none⟩ (.bool true))) ?_; intro w38 hw; have hg : wr.grownBy w38 (some go35) := (by rw [hw]; exact HP37.2); have hp_ : Kd.R Kd.bool 4 w38 w.heap.size (fun _ => True) (.slice (some ⟨go35, 0, none⟩) x7_2.length co36) y621 := (by rw [hw, Ny621.1]; exact HP37.1); clear HP37; refine E3 (hp_) (bG BK606.1 hg (Kd.R_ne HO_7.1 BK606.1 (by decide))) ((by rw [hw]; exact below_set (HB.1) GB35.1 : Below w.heap.size w w38)) ?_; clear HO_7 BK606 HB; intro HO_7 BK606 HB; clear hg hw hp_))
    go_roundg k2
    case measure => have := HJ2.1; have := HK2.1; omega
    case rel => exact ⟨(y621), (wrap64 (x30_2 + 1)), RG, H', ⟨by have := HJ2.1; have := HK2.1; omega⟩, ⟨PR HO_7.1⟩, ⟨PB BK606.1⟩, ⟨BL HB.1⟩⟩
  simp only [Option.some.injEq, Prod.mk.injEq] at H
  obtain ⟨rfl, rfl⟩ := H
  go_wp2
  go_ret2
  exact ⟨RF, below_step HW.1 (BL HB.1)⟩
/-! ### laws_FnExactNeverMixes: function 4 -/
def laws_FnExactNeverMixes.j0 : Nat → Bool → Int → Int → List (S85) → Int → Int → List (S83) → Option (Bool)
  | 0, _, _, _, _, _, _, _ => none
  | k + 1, x38, x623000, x623001, x623002, x637000, x637001, x637002 => if x38 = true then (some false) else ((laws_toBoard.f k x623000 x623001 x623002).bind fun bt639 => ((laws_eqBoard.f k x637000 x637001 x637002 bt639.1 bt639.2.1 bt639.2.2).bind fun t644 => (if t644 = true then (some true) else (some false))))
def laws_FnExactNeverMixes.f (k : Nat) (a0_0 : Int) (a0_1 : Int) (l0_2 : List (S85)) (a1 : Int) : Option (Bool) := (laws_szBoard.f a0_0 a0_1 l0_2 1048576).bind fun t623 => (if t623 < 0 then (some true) else ((laws_toBoard.f k a0_0 a0_1 l0_2).bind fun bt624 => ((spec_NeverMixes.f k bt624.1 bt624.2.1 bt624.2.2 a1).bind fun bt629 => ((laws_toBoard.f k a0_0 a0_1 l0_2).bind fun bt631 => ((impl_NeverMixes.f k bt631.1 bt631.2.1 bt631.2.2 a1).bind fun bt637 => (if (bt637.1 != bt629.1) = true then (laws_FnExactNeverMixes.j0 k true a0_0 a0_1 l0_2 bt631.1 bt631.2.1 bt631.2.2) else (laws_FnExactNeverMixes.j0 k (bt637.2 != bt629.2) a0_0 a0_1 l0_2 bt631.1 bt631.2.1 bt631.2.2)))))))
theorem laws_FnExactNeverMixes.mono_l : ∀ k, (∀ y0 y1 y2 y3 y4 y5 y6, LeO (laws_FnExactNeverMixes.j0 k y0 y1 y2 y3 y4 y5 y6) (laws_FnExactNeverMixes.j0 (k + 1) y0 y1 y2 y3 y4 y5 y6))
  | 0 => fun _ _ _ _ _ _ _ r h => by simp [laws_FnExactNeverMixes.j0] at h
  | k + 1 => by
    have ih0 := laws_FnExactNeverMixes.mono_l k
    intros
    first | unfold laws_FnExactNeverMixes.j0
    repeat' first | (with_reducible first | apply ih0 | apply impl_NeverMixes.mono | apply laws_eqBoard.mono | apply laws_toBoard.mono | apply spec_NeverMixes.mono | exact LeO.refl _ | exact LeO.none _ | refine LeO.ite ?_ ?_ | refine LeO.bind ?_ (fun _ => ?_)) | apply ih0 | apply impl_NeverMixes.mono | apply laws_eqBoard.mono | apply laws_toBoard.mono | apply spec_NeverMixes.mono | exact LeO.none _ | refine LeO.ite ?_ ?_ | refine LeO.bind ?_ (fun _ => ?_)
theorem laws_FnExactNeverMixes.mono : ∀ a0 a1 a2 a3 k, LeO (laws_FnExactNeverMixes.f k a0 a1 a2 a3) (laws_FnExactNeverMixes.f (k + 1) a0 a1 a2 a3) := by
  intro a0 a1 a2 a3 k
  have ih0 := laws_FnExactNeverMixes.mono_l k
  unfold laws_FnExactNeverMixes.f
  repeat' first | (with_reducible first | apply ih0 | apply impl_NeverMixes.mono | apply laws_eqBoard.mono | apply laws_toBoard.mono | apply spec_NeverMixes.mono | exact LeO.refl _ | exact LeO.none _ | refine LeO.ite ?_ ?_ | refine LeO.bind ?_ (fun _ => ?_)) | apply ih0 | apply impl_NeverMixes.mono | apply laws_eqBoard.mono | apply laws_toBoard.mono | apply spec_NeverMixes.mono | exact LeO.none _ | refine LeO.ite ?_ ?_ | refine LeO.bind ?_ (fun _ => ?_)
set_option maxHeartbeats 8000000 in
set_option maxRecDepth 100000 in
theorem laws_FnExactNeverMixes.calls (k : Nat) (a0_0 : Int) (a0_1 : Int) (A0_2 : Option Addr) (c0_2 : Nat) (l0_2 : List (S85)) (a1 : Int) (w : World) (hr0_2 : Kd.C k85 w A0_2 l0_2.length l0_2) (hc0_2 : l0_2.length ≤ c0_2) (h : laws_FnExactNeverMixes.f k a0_0 a0_1 l0_2 a1 = some true) :
    Calls Try.prog 4 #[.agg #[.int .i64 a0_0, .int .i64 a0_1, .slice A0_2 l0_2.length c0_2], .int .i64 a1] w fun e w' => e = .returned (.bool true) ∧ Below w.heap.size w w' := by
  have hu24 := Try.underlying24
  have hu30 := Try.underlying30
  have HR0_2 := Aside0.mk hr0_2
  have HC0_2 := Aside0.mk hc0_2
  clear hr0_2 hc0_2
  have HB := Aside0.mk (Below.refl w.heap.size w)
  have H := h
  clear h
  unfold laws_FnExactNeverMixes.f at H
  replace H := bindA H; obtain ⟨t623, A3, H⟩ := H
  replace H := ifB H; rcases H with ⟨c4b0, H⟩ | ⟨c4b0, H⟩
  · first | (obtain rfl := Option.some.inj H) | clear H
    go_enter Try.func4, Try.ntmps4
    go_wp2_with (first | ((with_reducible refine gate_dst (N := 2) rfl ?_); refine boxE (cs := #[.int .i64 a0_0, .int .i64 a0_1, .slice A0_2 l0_2.length c0_2]) (t := 24) ?_; intro gb622 hg w5 hbox hb; refine E4b HB.1 hg hbox hb ?_; clear HB; intro HB BK622 GW622 GE622; clear hb hbox hg; obtain ⟨hcz6_0, hcz6_1, hcz6_2, hfz6_0, hfz6_1, hfz6_2⟩ := cz3 BK622.1) | ((with_reducible refine gate_callee (f := 13) rfl ?_); refine goesM (N := (some 13)) #[.agg #[.int .i64 a0_0, .int .i64 a0_1, .slice A0_2 l0_2.length c0_2], .int .i64 1048576] Try.func13 ?_; (with_reducible refine (laws_szBoard.calls a0_0 a0_1 _ _ l0_2 1048576 t623 _ ?side1 ?side2 A3.1).mono ?_); (case side1 => exact CB (Kd.C_below HR0_2.1 HB.1)); (case side2 => exact HC0_2.1); rintro e w7 ⟨rfl, hb⟩; refine ⟨_, rfl, ?_⟩; refine E2 (bB BK622.1 hb) (below_step (BL HB.1) hb) ?_; clear BK622 HB; intro BK622 HB; (try clear hb)))
    go_ret
    exact ⟨RF, BL HB.1⟩
  replace H := bindA H; obtain ⟨⟨t624, t625, t626⟩, A8, H⟩ := H
  dsimp only at H
  replace H := bindA H; obtain ⟨⟨t629, t630⟩, A9, H⟩ := H
  dsimp only at H
  replace H := bindA H; obtain ⟨⟨t631, t632, t633⟩, A10, H⟩ := H
  dsimp only at H
  replace H := bindA H; obtain ⟨⟨t637, t638⟩, A11, H⟩ := H
  dsimp only at H
  have HC12 := Aside0.mk H
  clear H
  go_enter Try.func4, Try.ntmps4
  go_upto_region 8 with (first | ((with_reducible refine gate_dst (N := 2) rfl ?_); refine boxE (cs := #[.int .i64 a0_0, .int .i64 a0_1, .slice A0_2 l0_2.length c0_2]) (t := 24) ?_; intro gb622 hg w13 hbox hb; refine E4b HB.1 hg hbox hb ?_; clear HB; intro HB BK622 GW622 GE622; clear hb hbox hg; obtain ⟨hcz14_0, hcz14_1, hcz14_2, hfz14_0, hfz14_1, hfz14_2⟩ := cz3 BK622.1) | ((with_reducible refine gate_callee (f := 13) rfl ?_); refine goesM (N := (some 13)) #[.agg #[.int .i64 a0_0, .int .i64 a0_1, .slice A0_2 l0_2.length c0_2], .int .i64 1048576] Try.func13 ?_; (with_reducible refine (laws_szBoard.calls a0_0 a0_1 _ _ l0_2 1048576 t623 _ ?side1 ?side2 A3.1).mono ?_); (case side1 => exact CB (Kd.C_below HR0_2.1 HB.1)); (case side2 => exact HC0_2.1); rintro e w15 ⟨rfl, hb⟩; refine ⟨_, rfl, ?_⟩; refine E2 (bB BK622.1 hb) (below_step (BL HB.1) hb) ?_; clear BK622 HB; intro BK622 HB; (try clear hb); obtain ⟨hcz16_0, hcz16_1, hcz16_2, hfz16_0, hfz16_1, hfz16_2⟩ := cz3 BK622.1) | ((with_reducible refine gate_callee (f := 15) rfl ?_); refine goesM (N := (some 18)) #[.agg #[.int .i64 a0_0, .int .i64 a0_1, .slice A0_2 l0_2.length c0_2]] Try.func15 ?_; (with_reducible refine (laws_toBoard.calls k a0_0 a0_1 _ _ l0_2 t624 t625 t626 _ ?side1 ?side2 A8.1).mono ?_); (case side1 => exact CB (Kd.C_below HR0_2.1 HB.1)); (case side2 => exact HC0_2.1); rintro e w17 ⟨v627, rfl, ho0, hb⟩; refine ⟨_, rfl, ?_⟩; refine E3 (Kd.R_lower ho0 (below_size (BL HB.1))) (bB BK622.1 hb) (below_step (BL HB.1) hb) ?_; clear BK622 HB; intro HO628 BK622 HB; (try clear hb); (try clear ho0); obtain ⟨Ao18, co18, eo18⟩ := Kd.R_slice HO628.1; subst eo18) | ((with_reducible refine gate_callee (f := 18) rfl ?_); refine goesM (N := (some 20)) #[.agg #[.int .i64 t624, .int .i64 t625, .slice Ao18 t626.length co18], .int .i64 a1] Try.func18 ?_; (with_reducible refine (spec_NeverMixes.calls k t624 t625 _ _ t626 a1 t629 t630 _ ?side1 ?side2 A9.1).mono ?_); (case side1 => exact CB (Kd.R_reads' HO628.1).2.2); (case side2 => exact (Kd.R_reads' HO628.1).2.1); rintro e w19 ⟨rfl, hb⟩; refine ⟨_, rfl, ?_⟩; refine E3 (Kd.R_below (PR HO628.1) hb) (bB BK622.1 hb) (below_step (BL HB.1) hb) ?_; clear HO628 BK622 HB; intro HO628 BK622 HB; (try clear hb); obtain ⟨hcz20_0, hcz20_1, hcz20_2, hfz20_0, hfz20_1, hfz20_2⟩ := cz3 BK622.1) | ((with_reducible refine gate_callee (f := 15) rfl ?_); refine goesM (N := (some 24)) #[.agg #[.int .i64 a0_0, .int .i64 a0_1, .slice A0_2 l0_2.length c0_2]] Try.func15 ?_; (with_reducible refine (laws_toBoard.calls k a0_0 a0_1 _ _ l0_2 t631 t632 t633 _ ?side1 ?side2 A10.1).mono ?_); (case side1 => exact CB (Kd.C_below HR0_2.1 HB.1)); (case side2 => exact HC0_2.1); rintro e w21 ⟨v634, rfl, ho0, hb⟩; refine ⟨_, rfl, ?_⟩; refine E4 (Kd.R_elder' (PR HO628.1) (Kd.R_base ho0) hb) (Kd.R_lower (Kd.R_new' ho0 (Kd.R_lt (PR HO628.1))) (below_size (BL HB.1))) (bB BK622.1 hb) (below_step (BL HB.1) hb) ?_; clear HO628 BK622 HB; intro HO628 HO635 BK622 HB; (try clear hb); (try clear ho0)) | ((with_reducible refine gate_dst (N := 8) rfl ?_); refine boxE (cs := #[.int .i64 0, .int .i64 0, .slice none 0 0]) (t := 30) ?_; intro gb636 hg w22 hbox hb; refine E9 (Kd.R_below (PR HO628.1) hb) (Kd.R_below (PR HO635.1) hb) (bB BK622.1 hb) (below_step (BL HB.1) hb) (hbox) (gX HB.1 hg) (gX HB.1 hg) (nB BK622.1 hg) (nC BK622.1 hg) ?_; clear HO628 HO635 BK622 HB; intro HO628 HO635 BK622 HB BK636 GW636 GE636 NB622_636 NB636_622; clear hb hbox hg; have hnb23 := NB636_622.1; have hnc23 := NB622_636.1; obtain ⟨hcz24_0, hcz24_1, hcz24_2, hfz24_0, hfz24_1, hfz24_2⟩ := cz3 BK636.1; obtain ⟨Ao25, co25, eo25⟩ := Kd.R_slice HO635.1; subst eo25) | ((with_reducible refine gate_callee (f := 19) rfl ?_); refine goesM (N := (some 28)) #[.agg #[.int .i64 t631, .int .i64 t632, .slice Ao25 t633.length co25], .int .i64 a1] Try.func19 ?_; (with_reducible refine (impl_NeverMixes.calls k t631 t632 _ _ t633 a1 t637 t638 _ ?side1 ?side2 A11.1).mono ?_); (case side1 => refine (Kd.R_reads' (e := 83) (base := w.heap.size) (ok := fun k_ => (True ∧ some k_ ≠ (.slice Ao18 t626.length co18 : Value).ownBlock)) (n := t633.length) (c := co25) ?_).2.2; exact (by (with_reducible repeat (first | apply Kd.R_alloc | apply Kd.R_drewN | apply Kd.R_drew)); exact (Kd.R_mono (Kd.R_far (p := ⟨gb636, 2, none⟩) (Kd.R_far (p := ⟨gb636, 1, none⟩) (Kd.R_far (p := ⟨gb636, 0, none⟩) (Kd.R_types HO635.1 BK636.1 (by decide)) (fun _ hk => hk.2) (.int .i64 t631)) (fun _ hk => hk.2) (.int .i64 t632)) (fun _ hk => hk.2) (.slice Ao25 t633.length co25)) (fun _ h_ => h_.1)))); (case side2 => exact (Kd.R_reads' HO635.1).2.1); rintro e w26 ⟨rfl, hb⟩; refine ⟨_, rfl, ?_⟩; refine E5 (Kd.R_below (by (with_reducible repeat (first | apply Kd.R_alloc | apply Kd.R_drewN | apply Kd.R_drew)); exact (Kd.R_mono (Kd.R_far (p := ⟨gb636, 2, none⟩) (Kd.R_far (p := ⟨gb636, 1, none⟩) (Kd.R_far (p := ⟨gb636, 0, none⟩) (Kd.R_types HO628.1 BK636.1 (by decide)) (fun _ hk => hk.2) (.int .i64 t631)) (fun _ hk => hk.2) (.int .i64 t632)) (fun _ hk => hk.2) (.slice Ao25 t633.length co25)) (fun _ h_ => h_.1))) hb) (Kd.R_below (by (with_reducible repeat (first | apply Kd.R_alloc | apply Kd.R_drewN | apply Kd.R_drew)); exact (Kd.R_mono (Kd.R_far (p := ⟨gb636, 2, none⟩) (Kd.R_far (p := ⟨gb636, 1, none⟩) (Kd.R_far (p := ⟨gb636, 0, none⟩) (Kd.R_types HO635.1 BK636.1 (by decide)) (fun _ hk => hk.2) (.int .i64 t631)) (fun _ hk => hk.2) (.int .i64 t632)) (fun _ hk => hk.2) (.slice Ao25 t633.length co25)) (fun _ h_ => h_.1))) hb) (blk_below (g := gb622) (o := .cells #[.int .i64 a0_0, .int .i64 a0_1, .slice A0_2 l0_2.length c0_2] 24 (0, 0)) (PF1 NB622_636.1 BK622.1) hb) (blk_below (g := gb636) (o := .cells #[.int .i64 t631, .int .i64 t632, .slice Ao25 t633.length co25] 30 (0, 0)) (PF0 BK636.1) hb) (below_step (BL HB.1) hb) ?_; clear HO628 HO635 BK622 BK636 HB; intro HO628 HO635 BK622 BK636 HB; (try clear hb); (try clear hk)))
  (try simp only [Act.put, List.setIfInBounds_toArray, List.set_cons_zero, List.set_cons_succ])
  go_cut [38] (fun v38 wc => ∃ (kq : Nat) (x38_11 : Bool), v38 = .bool x38_11 ∧ Aside0 (laws_FnExactNeverMixes.j0 kq x38_11 a0_0 a0_1 l0_2 t631 t632 t633 = some true) ∧ Aside0 (kq ≤ k) ∧ Aside0 (Kd.R k83 83 wc w.heap.size (fun _ => True) (.slice Ao25 t633.length co25) t633) ∧ Aside0 (wc.heap[gb622]? = some (.cells #[.int .i64 a0_0, .int .i64 a0_1, (.slice A0_2 l0_2.length c0_2)] 24 (0, 0))) ∧ Aside0 (wc.heap[gb636]? = some (.cells #[.int .i64 t631, .int .i64 t632, (.slice Ao25 t633.length co25)] 30 (0, 0))) ∧ Aside0 (Below w.heap.size w wc))
  case first =>
    have H := HC12.1
    clear HC12
    replace H := ifQ H; rcases H with ⟨c27, H⟩ | ⟨c27, H⟩
    · exact absurd H (by cases k <;> simp [laws_FnExactNeverMixes.j0])
    have c27b0 : (t637 != t629) = false := by simpa using c27
    (try (have c27b1 : decide (t637 = t629) = true := by simpa using c27))
    (try (have c27b2 : (t637 == t629) = true := by simpa using c27))
    clear c27
    (first | rw [c27b0] | (simp only [i64_w, i32_w]; rw [c27b0]) | skip)
    have H' := Aside0.mk H
    clear H
    go_wp2
    go_meet
    case rel => exact ⟨_, ((t638 != t630)), RG, H', ⟨by first | omega | exact Nat.le_refl _⟩, ⟨by (with_reducible repeat (first | apply Kd.R_alloc | apply Kd.R_drewN | apply Kd.R_drew)); exact Kd.R_mono HO635.1 (fun _ hk => trivial)⟩, ⟨PB BK622.1⟩, ⟨PB BK636.1⟩, ⟨BL HB.1⟩⟩
  clear HC12
  try clear c4b0; try clear hcz14_0; try clear hcz14_1; try clear hcz14_2; try clear hcz16_0; try clear hcz16_1; try clear hcz16_2; try clear hcz20_0; try clear hcz20_1; try clear hcz20_2; try clear hcz24_0; try clear hcz24_1; try clear hcz24_2; try clear hfz14_0; try clear hfz14_1; try clear hfz14_2; try clear hfz16_0; try clear hfz16_1; try clear hfz16_2; try clear hfz20_0; try clear hfz20_1; try clear hfz20_2; try clear hfz24_0; try clear hfz24_1; try clear hfz24_2
  obtain ⟨kq, x38_11, rfl, HA, HJ11, HO_637002, BK622, BK636, HB⟩ := hcut
  cases kq with
  | zero => exact absurd HA.1 (by simp [laws_FnExactNeverMixes.j0])
  | succ kj11 => ?_
  have H := HA.1
  clear HA
  simp only [laws_FnExactNeverMixes.j0] at H
  replace H := ifF H (by simp); obtain ⟨rfl, H⟩ := H
  replace H := bindA H; obtain ⟨⟨t639, t640, t641⟩, A29, H⟩ := H
  dsimp only at H
  replace H := bindA H; obtain ⟨t644, A30, H⟩ := H
  replace H := ifT H (by simp); obtain ⟨rfl, H⟩ := H
  first | (obtain rfl := Option.some.inj H) | clear H
  try go_wp2
  refine E4 (Kd.R_drew HO_637002.1) (blk_drew BK622.1) (blk_drew BK636.1) (below_drew1 HB.1) ?_
  clear HO_637002 BK622 BK636 HB
  intro HO_637002 BK622 BK636 HB
  refine start_ (n := 5) (S := fun w' => w'.cell? ⟨gb636, 0, none⟩ = some (.int .i64 t631) ∧ w'.cell? ⟨gb636, 1, none⟩ = some (.int .i64 t632) ∧ w'.cell? ⟨gb636, 2, none⟩ = some (.slice Ao25 t633.length co25) ∧ w'.cell? ⟨gb622, 0, none⟩ = some (.int .i64 a0_0) ∧ w'.cell? ⟨gb622, 1, none⟩ = some (.int .i64 a0_1) ∧ w'.cell? ⟨gb622, 2, none⟩ = some (.slice A0_2 l0_2.length c0_2)) (ds := []) #[Zz,Zz,Zz,Zz,Zz] (by kernel_rfl) rfl rfl ⟨(blk_cell BK636.1 0).trans rfl, (blk_cell BK636.1 1).trans rfl, (blk_cell BK636.1 2).trans rfl, (blk_cell BK622.1 0).trans rfl, (blk_cell BK622.1 1).trans rfl, (blk_cell BK622.1 2).trans rfl⟩ (fun hHeld => ?_)
  generalize wc.drew = w32 at HO_637002 BK622 BK636 HB hHeld ⊢
  refine take_ (i := 0) (N := some 39) (v := ?_) (a' := ?_) #[Yy,Zz,Zz,Zz,Zz] rfl rfl (by kernel_rfl) (fun _ _ _ h => h) (Or.inl ⟨by rfl, ?_⟩) hHeld ?_ ?_
  rotate_left
  · rintro w' ⟨s0, s1, s2, s3, s4, s5⟩
    go_simp
    with_reducible rfl
  rotate_left
  · simp only [Act.put, List.setIfInBounds_toArray, List.set_cons_zero, List.set_cons_succ, i64_w, i32_w]
    rfl
  refine take_ (i := 1) (N := some 40) (v := ?_) (a' := ?_) #[Yy,Yy,Zz,Zz,Zz] rfl rfl (by kernel_rfl) (fun _ _ _ h => h) (Or.inl ⟨by rfl, ?_⟩) hHeld ?_ ?_
  rotate_left
  · rintro w' ⟨s0, s1, s2, s3, s4, s5⟩
    go_simp
    with_reducible rfl
  rotate_left
  · simp only [Act.put, List.setIfInBounds_toArray, List.set_cons_zero, List.set_cons_succ, i64_w, i32_w]
    rfl
  refine one_ (i := 2) (N := some 41) #[Yy,Yy,Yy,Zz,Zz] rfl rfl (by kernel_rfl) (by decide) (fun K hK => ?_)
  refine goes_ Try.func15 (by kernel_rfl) rfl #[.agg #[.int .i64 a0_0, .int .i64 a0_1, .slice A0_2 l0_2.length c0_2]] (by rfl) rfl rfl (by (try simp only [List.map_toArray, List.map_cons, List.map_nil]); first | done | rfl | (simp only [List.length_drop, List.length_take]; rfl)) ?_
  with_reducible refine (laws_toBoard.calls kj11 a0_0 a0_1 _ _ l0_2 t639 t640 t641 _ ?side1 ?side2 A29.1).mono ?_
  (case side1 => exact CB (Kd.C_below HR0_2.1 HB.1))
  (case side2 => exact HC0_2.1)
  rintro e w33 ⟨v642, rfl, ho0, hb⟩
  refine ⟨_, rfl, ?_⟩
  refine E5 (Kd.R_elder' (PR HO_637002.1) (Kd.R_base ho0) hb) (Kd.R_lower (Kd.R_new' ho0 (Kd.R_lt (PR HO_637002.1))) (below_size (BL HB.1))) (bB BK622.1 hb) (bB BK636.1 hb) (below_step (BL HB.1) hb) ?_
  clear HO_637002 BK622 BK636 HB
  intro HO_637002 HO643 BK622 BK636 HB
  (try clear hb)
  (try clear hb2)
  (try clear hk)
  (try clear hi)
  (try clear ho0)
  obtain ⟨Ao34, co34, eo34⟩ := Kd.R_slice HO643.1
  (first | subst eo34 | (injection eo34 with f1_ f2_ f3_; have f4_ := f1_.symm; have f5_ := f3_.symm; clear f1_ f2_ f3_; subst f4_; subst f5_))
  refine hK.out _ _ ⟨(blk_cell BK636.1 0).trans rfl, (blk_cell BK636.1 1).trans rfl, (blk_cell BK636.1 2).trans rfl, (blk_cell BK622.1 0).trans rfl, (blk_cell BK622.1 1).trans rfl, (blk_cell BK622.1 2).trans rfl⟩ (fun hHeld => ?_)
  clear hK K
  refine norm_ (a' := ?_) ?_ ?_
  rotate_left
  · show Act.put _ (some 41) _ = _
    simp only [Act.put, List.setIfInBounds_toArray, List.set_cons_zero, List.set_cons_succ, i64_w, i32_w]
    rfl
  refine one_ (i := 3) (N := some 42) #[Yy,Yy,Yy,Yy,Zz] rfl rfl (by kernel_rfl) (by decide) (fun K hK => ?_)
  refine goes_ Try.func17 (by kernel_rfl) rfl #[.agg #[.int .i64 t631, .int .i64 t632, .slice Ao25 t633.length co25], .agg #[.int .i64 t639, .int .i64 t640, .slice Ao34 t641.length co34]] (by rfl) rfl rfl (by (try simp only [List.map_toArray, List.map_cons, List.map_nil]); first | done | rfl | (simp only [List.length_drop, List.length_take]; rfl)) ?_
  with_reducible refine (laws_eqBoard.calls kj11 t631 t632 _ _ t633 t639 t640 _ _ t641 true _ ?side1 ?side2 ?side3 ?side4 A30.1).mono ?_
  (case side1 => exact CB (Kd.R_reads' HO_637002.1).2.2)
  (case side2 => exact (Kd.R_reads' HO_637002.1).2.1)
  (case side3 => exact CB (Kd.R_reads' HO643.1).2.2)
  (case side4 => exact (Kd.R_reads' HO643.1).2.1)
  rintro e w35 ⟨rfl, hb⟩
  refine ⟨_, rfl, ?_⟩
  refine E5 (Kd.R_below (PR HO_637002.1) hb) (Kd.R_below (PR HO643.1) hb) (bB BK622.1 hb) (bB BK636.1 hb) (below_step (BL HB.1) hb) ?_
  clear HO_637002 HO643 BK622 BK636 HB
  intro HO_637002 HO643 BK622 BK636 HB
  (try clear hb)
  (try clear hb2)
  (try clear hk)
  (try clear hi)
  refine hK.out _ _ ⟨(blk_cell BK636.1 0).trans rfl, (blk_cell BK636.1 1).trans rfl, (blk_cell BK636.1 2).trans rfl, (blk_cell BK622.1 0).trans rfl, (blk_cell BK622.1 1).trans rfl, (blk_cell BK622.1 2).trans rfl⟩ (fun hHeld => ?_)
  clear hK K
  refine norm_ (a' := ?_) ?_ ?_
  rotate_left
  · show Act.put _ (some 42) _ = _
    simp only [Act.put, List.setIfInBounds_toArray, List.set_cons_zero, List.set_cons_succ, i64_w, i32_w]
    rfl
  refine pure_ (i := 4) (N := some 43) (v := ?_) (a' := ?_) #[Yy,Yy,Yy,Yy,Yy] rfl rfl (by kernel_rfl) (fun _ _ _ h => h) (Or.inl ⟨by rfl, ?_⟩) ?_ ?_
  rotate_left
  · intro w'
    go_simp
    with_reducible rfl
  rotate_left
  · simp only [Act.put, List.setIfInBounds_toArray, List.set_cons_zero, List.set_cons_succ, i64_w, i32_w]
    rfl
  refine done_ (by kernel_rfl) ?_
  try go_wp2
  go_ret
  exact ⟨RF, BL HB.1⟩
end Go.Proofs.Ytbpfdbjnnlmdjaa.P
