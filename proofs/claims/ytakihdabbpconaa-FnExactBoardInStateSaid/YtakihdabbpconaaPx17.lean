-- PRINTED by print.py (a twelfth state) out of the translation. Not trusted: Lean checks it.
import Derived.Test.YtakihdabbpconaaPx0
import Derived.Test.YtakihdabbpconaaPx2
import Derived.Test.YtakihdabbpconaaPx3
import Derived.Test.YtakihdabbpconaaPx5
import Derived.Test.YtakihdabbpconaaPx10
import Derived.Test.YtakihdabbpconaaPx13
namespace Go.Proofs.Ytakihdabbpconaa.P
open Go.RowKit Go.Proofs.YtakihdabbpconaaW.PrintWords Go.Proofs.YtakihdabbpconaaW.PrintLast Go.Proofs.YtakihdabbpconaaW.PrintMore
attribute [local go_sem] max2_int min2_int max_two min_two max_three min_three max_four min_four   -- for this text's walks alone
set_option linter.unusedVariables false
set_option linter.unusedSimpArgs false

/-! ### spec_saNumber: function 55 -/
def spec_saNumber.l0 : Nat → Int → List Int → Int → Int → Option (Int)
  | 0, _, _, _, _ => none
  | k + 1, x3, x7, x8, x9 => if x9 < x8 then (if 0 ≤ x9 then (if x9 < (x7.length : Int) then (if 0 ≤ (IntKind.u64.wrap (x9)) then (spec_saNumber.l0 k (wrap64 (x3 + (shl .i64 (rd x7 x9) (IntKind.u64.wrap (x9))))) x7 x8 (wrap64 (x9 + 1))) else (none)) else (none)) else (none)) else (some x3)
def spec_saNumber.f (k : Nat) (a0_0 : Int) (a0_1 : Int) (l0_2 : List (S73)) : Option (Int) := (spec_saBits.f k a0_0 a0_1 l0_2).bind fun t379 => (spec_saNumber.l0 k 0 t379 (t379.length : Int) 0)
theorem spec_saNumber.mono_l : ∀ k, (∀ y0 y1 y2 y3, LeO (spec_saNumber.l0 k y0 y1 y2 y3) (spec_saNumber.l0 (k + 1) y0 y1 y2 y3))
  | 0 => fun _ _ _ _ r h => by simp [spec_saNumber.l0] at h
  | k + 1 => by
    have ih0 := spec_saNumber.mono_l k
    intros
    first | unfold spec_saNumber.l0
    repeat' first | (with_reducible first | apply ih0 | apply spec_saBits.mono | exact LeO.refl _ | exact LeO.none _ | refine LeO.ite ?_ ?_ | refine LeO.bind ?_ (fun _ => ?_)) | apply ih0 | apply spec_saBits.mono | exact LeO.none _ | refine LeO.ite ?_ ?_ | refine LeO.bind ?_ (fun _ => ?_)
theorem spec_saNumber.mono : ∀ a0 a1 a2 k, LeO (spec_saNumber.f k a0 a1 a2) (spec_saNumber.f (k + 1) a0 a1 a2) := by
  intro a0 a1 a2 k
  have ih0 := spec_saNumber.mono_l k
  unfold spec_saNumber.f
  repeat' first | (with_reducible first | apply ih0 | apply spec_saBits.mono | exact LeO.refl _ | exact LeO.none _ | refine LeO.ite ?_ ?_ | refine LeO.bind ?_ (fun _ => ?_)) | apply ih0 | apply spec_saBits.mono | exact LeO.none _ | refine LeO.ite ?_ ?_ | refine LeO.bind ?_ (fun _ => ?_)
set_option maxHeartbeats 8000000 in
set_option maxRecDepth 100000 in
theorem spec_saNumber.calls (k : Nat) (a0_0 : Int) (a0_1 : Int) (A0_2 : Option Addr) (c0_2 : Nat) (l0_2 : List (S73)) (r : Int) (w : World) (hr0_2 : Kd.C k73 w A0_2 l0_2.length l0_2) (hc0_2 : l0_2.length ≤ c0_2) (h : spec_saNumber.f k a0_0 a0_1 l0_2 = some r) :
    Calls Try.prog 55 #[.agg #[.int .i64 a0_0, .int .i64 a0_1, .slice A0_2 l0_2.length c0_2]] w fun e w' => e = .returned (.int .i64 r) ∧ Below w.heap.size w w' := by
  have hu30 := Try.underlying30
  have HR0_2 := Aside0.mk hr0_2
  have HC0_2 := Aside0.mk hc0_2
  clear hr0_2 hc0_2
  have HB := Aside0.mk (Below.refl w.heap.size w)
  have H := h
  clear h
  unfold spec_saNumber.f at H
  replace H := bindA H; obtain ⟨t379, A2, H⟩ := H
  have H' := Aside0.mk H
  clear H
  go_enter Try.func55, Try.ntmps55
  go_wp2_with (first | ((with_reducible refine gate_dst (N := 1) rfl ?_); refine boxE (N := 1) (cs := #[.int .i64 a0_0, .int .i64 a0_1, .slice A0_2 l0_2.length c0_2]) (t := 30) ?_; intro gb378 hg w3 hbox hb; refine E4b HB.out hg hbox hb ?_; clear HB; intro HB BK378 GW378 GE378; clear hb hbox hg; obtain ⟨hcz4_0, hcz4_1, hcz4_2, hfz4_0, hfz4_1, hfz4_2⟩ := cz3 BK378.out) | ((with_reducible refine gate_callee (f := 47) rfl ?_); refine goesM (N := (some 7)) #[.agg #[.int .i64 a0_0, .int .i64 a0_1, .slice A0_2 l0_2.length c0_2]] Try.func47 ?_; (with_reducible refine (spec_saBits.calls k a0_0 a0_1 _ _ l0_2 t379 _ ?side1 ?side2 A2.out).mono ?_); (case side1 => exact CB (Kd.C_below HR0_2.out HB.out)); (case side2 => exact HC0_2.out); rintro e w5 ⟨v380, rfl, ho0, hb⟩; refine ⟨_, rfl, ?_⟩; refine E3 (Kd.R_lower ho0 (below_size (BL HB.out))) (bB BK378.out hb) (below_step (BL HB.out) hb) ?_; clear BK378 HB; intro HO381 BK378 HB; (try clear hb); (try clear hb2); (try clear hk); (try clear hi); (try clear ho0); obtain ⟨Ao6, co6, eo6⟩ := Kd.R_slice HO381.out; subst eo6))
  go_loopg [3, 9] k (fun kq v3 v9 w' => ∃ (x3_1 : Int) (x9_1 : Int), v3 = .int .i64 x3_1 ∧ v9 = .int .i64 x9_1 ∧ Aside0 (spec_saNumber.l0 kq x3_1 t379 (t379.length : Int) x9_1 = some r) ∧ Aside0 (kq ≤ k) ∧ Aside0 (Kd.R (Kd.int .i64) 3 w' w.heap.size (fun _ => True) (.slice Ao6 t379.length co6) t379) ∧ Aside0 (w'.heap[gb378]? = some (.cells #[.int .i64 a0_0, .int .i64 a0_1, (.slice A0_2 l0_2.length c0_2)] 30 (0, 0))) ∧ Aside0 (Below w.heap.size w w'))
  case atStart => exact ⟨(0), (0), RG, RG, H', ⟨Nat.le_refl _⟩, ⟨PR HO381.out⟩, ⟨PB BK378.out⟩, ⟨BL HB.out⟩⟩
  clear H'
  try clear hcz4_0; try clear hcz4_1; try clear hcz4_2; try clear hfz4_0; try clear hfz4_1; try clear hfz4_2
  obtain ⟨x3_1, x9_1, rfl, rfl, HA, HK1, HO_7, BK378, HB⟩ := hrel
  cases gk with
  | zero => exact absurd HA.out (by simp [spec_saNumber.l0])
  | succ k1 => ?_
  have H := HA.out
  clear HA
  simp only [spec_saNumber.l0] at H
  replace H := ifB H; rcases H with ⟨c7b0, H⟩ | ⟨c7b0, H⟩
  · replace H := ifN H; obtain ⟨c8b0, H⟩ := H
    replace H := ifN H; obtain ⟨c9b0, H⟩ := H
    obtain ⟨ji10, hji10⟩ : ∃ j_ : Int, (IntKind.u64.wrap (x9_1)) = j_ := ⟨_, rfl⟩
    replace H : (if 0 ≤ (ji10) then (spec_saNumber.l0 k1 (wrap64 (x3_1 + (shl .i64 (rd t379 x9_1) (ji10)))) t379 (t379.length : Int) (wrap64 (x9_1 + 1))) else (none)) = some r := by first | (rw [hji10] at H; exact H) | (simp only [hji10] at H ⊢; exact H)
    replace H := ifP H; obtain ⟨c11, H⟩ := H
    have c11b0 := eq_true c11
    have c11b1 := decide_eq_true c11
    clear c11
    obtain ⟨ji12, hji12⟩ : ∃ j_ : Int, (shl .i64 (rd t379 x9_1) (ji10)) = j_ := ⟨_, rfl⟩
    replace H : (spec_saNumber.l0 k1 (wrap64 (x3_1 + (ji12))) t379 (t379.length : Int) (wrap64 (x9_1 + 1))) = some r := by first | (rw [hji12] at H; exact H) | (simp only [hji12] at H ⊢; exact H)
    have hji12_ : (IntKind.i64.wrap ((rd t379 x9_1) * 2 ^ min (ji10).toNat 64)) = ji12 := hji12
    have hji12z : (ji10) ≤ 64 → (IntKind.i64.wrap ((rd t379 x9_1) * 2 ^ (ji10).toNat)) = ji12 := shl_small hji12
    have hji12y : (wrap64 ((rd t379 x9_1) * 2 ^ min (ji10).toNat 64)) = ji12 := (i64_w _).symm.trans hji12_
    have hji12x : (ji10) ≤ 64 → (wrap64 ((rd t379 x9_1) * 2 ^ (ji10).toNat)) = ji12 := fun h_ => (i64_w _).symm.trans (hji12z h_)
    have H' := Aside0.mk H
    clear H
    have p382 : 0 ≤ (x9_1 : Int) := OD
    have q382 : x9_1 < (t379.length : Int) := OD
    obtain ⟨ad382, e382, hx382_0⟩ := Kd.at_int (Kd.R_reads' HO_7.out).2.2 x9_1 p382 q382
    cases e382
    replace p382 := eq_true p382
    replace q382 := eq_true q382
    go_wp2
    go_roundg k1
    case measure => have := HK1.out; omega
    case rel => exact ⟨(wrap64 (x3_1 + (ji12))), (wrap64 (x9_1 + 1)), (by first | rfl | (simp; done) | (simp only [← hji12] <;> (first | rfl | simp)) | (simp [*]; done)), RG, H', ⟨by have := HK1.out; omega⟩, ⟨PR HO_7.out⟩, ⟨PB BK378.out⟩, ⟨BL HB.out⟩⟩
  obtain rfl := Option.some.inj H
  go_wp2
  go_ret
  exact ⟨RF, BL HB.out⟩
/-! ### spec_StateNumber: function 18 -/
def spec_StateNumber.f (k : Nat) (a0_0 : Int) (a0_1 : Int) (l0_2 : List (S73)) : Option (Int × Bool) := (spec_saSmall.f k a0_0 a0_1 l0_2).bind fun t384 => (if t384 = true then ((spec_saNumber.f k a0_0 a0_1 l0_2).bind fun t385 => (some (t385, true))) else (some (0, false)))
theorem spec_StateNumber.mono : ∀ a0 a1 a2 k, LeO (spec_StateNumber.f k a0 a1 a2) (spec_StateNumber.f (k + 1) a0 a1 a2) := by
  intro a0 a1 a2 k
  unfold spec_StateNumber.f
  repeat' first
      | (with_reducible exact spec_saNumber.mono _ _ _ _)
      | (with_reducible exact spec_saSmall.mono _ _ _ _)
      | (with_reducible exact LeO.refl _)
      | (with_reducible exact LeO.none _)
      | (with_reducible refine LeO.ite ?_ ?_)
      | (with_reducible refine LeO.bind ?_ (fun _ => ?_))
      | exact spec_saNumber.mono _ _ _ _
      | exact spec_saSmall.mono _ _ _ _
      | exact LeO.none _
      | refine LeO.ite ?_ ?_
      | refine LeO.bind ?_ (fun _ => ?_)
set_option maxHeartbeats 8000000 in
set_option maxRecDepth 100000 in
theorem spec_StateNumber.calls (k : Nat) (a0_0 : Int) (a0_1 : Int) (A0_2 : Option Addr) (c0_2 : Nat) (l0_2 : List (S73)) (r1 : Int) (r2 : Bool) (w : World) (hr0_2 : Kd.C k73 w A0_2 l0_2.length l0_2) (hc0_2 : l0_2.length ≤ c0_2) (h : spec_StateNumber.f k a0_0 a0_1 l0_2 = some (r1, r2)) :
    Calls Try.prog 18 #[.agg #[.int .i64 a0_0, .int .i64 a0_1, .slice A0_2 l0_2.length c0_2]] w fun e w' => e = .returned (.tuple #[.int .i64 r1, .bool r2]) ∧ Below w.heap.size w w' := by
  have hu30 := Try.underlying30
  have HR0_2 := Aside0.mk hr0_2
  have HC0_2 := Aside0.mk hc0_2
  clear hr0_2 hc0_2
  have HB := Aside0.mk (Below.refl w.heap.size w)
  have H := h
  clear h
  unfold spec_StateNumber.f at H
  replace H := bindA H; obtain ⟨t384, A2, H⟩ := H
  replace H := ifX H; rcases H with ⟨rfl, H⟩ | ⟨rfl, H⟩
  · replace H := bindA H; obtain ⟨t385, A4, H⟩ := H
    simp only [Option.some.injEq, Prod.mk.injEq] at H
    obtain ⟨rfl, rfl⟩ := H
    go_enter Try.func18, Try.ntmps18
    go_wp2_with (first | ((with_reducible refine gate_dst (N := 1) rfl ?_); refine boxE (N := 1) (cs := #[.int .i64 a0_0, .int .i64 a0_1, .slice A0_2 l0_2.length c0_2]) (t := 30) ?_; intro gb383 hg w5 hbox hb; refine E4b HB.out hg hbox hb ?_; clear HB; intro HB BK383 GW383 GE383; clear hb hbox hg; obtain ⟨hcz6_0, hcz6_1, hcz6_2, hfz6_0, hfz6_1, hfz6_2⟩ := cz3 BK383.out) | ((with_reducible refine gate_callee (f := 54) rfl ?_); refine goesM (N := (some 5)) #[.agg #[.int .i64 a0_0, .int .i64 a0_1, .slice A0_2 l0_2.length c0_2]] Try.func54 ?_; (with_reducible refine (spec_saSmall.calls k a0_0 a0_1 _ _ l0_2 true _ ?side1 ?side2 A2.out).mono ?_); (case side1 => exact CB (Kd.C_below HR0_2.out HB.out)); (case side2 => exact HC0_2.out); rintro e w7 ⟨rfl, hb⟩; refine ⟨_, rfl, ?_⟩; refine E2 (bB BK383.out hb) (below_step (BL HB.out) hb) ?_; clear BK383 HB; intro BK383 HB; (try clear hb); (try clear hb2); (try clear hk); (try clear hi); obtain ⟨hcz8_0, hcz8_1, hcz8_2, hfz8_0, hfz8_1, hfz8_2⟩ := cz3 BK383.out) | ((with_reducible refine gate_callee (f := 55) rfl ?_); refine goesM (N := (some 8)) #[.agg #[.int .i64 a0_0, .int .i64 a0_1, .slice A0_2 l0_2.length c0_2]] Try.func55 ?_; (with_reducible refine (spec_saNumber.calls k a0_0 a0_1 _ _ l0_2 t385 _ ?side1 ?side2 A4.out).mono ?_); (case side1 => exact CB (Kd.C_below HR0_2.out HB.out)); (case side2 => exact HC0_2.out); rintro e w9 ⟨rfl, hb⟩; refine ⟨_, rfl, ?_⟩; refine E2 (bB BK383.out hb) (below_step (BL HB.out) hb) ?_; clear BK383 HB; intro BK383 HB; (try clear hb); (try clear hb2); (try clear hk); (try clear hi)))
    go_ret2
    exact ⟨RF, BL HB.out⟩
  simp only [Option.some.injEq, Prod.mk.injEq] at H
  obtain ⟨rfl, rfl⟩ := H
  go_enter Try.func18, Try.ntmps18
  go_wp2_with (first | ((with_reducible refine gate_dst (N := 1) rfl ?_); refine boxE (N := 1) (cs := #[.int .i64 a0_0, .int .i64 a0_1, .slice A0_2 l0_2.length c0_2]) (t := 30) ?_; intro gb383 hg w10 hbox hb; refine E4b HB.out hg hbox hb ?_; clear HB; intro HB BK383 GW383 GE383; clear hb hbox hg; obtain ⟨hcz11_0, hcz11_1, hcz11_2, hfz11_0, hfz11_1, hfz11_2⟩ := cz3 BK383.out) | ((with_reducible refine gate_callee (f := 54) rfl ?_); refine goesM (N := (some 5)) #[.agg #[.int .i64 a0_0, .int .i64 a0_1, .slice A0_2 l0_2.length c0_2]] Try.func54 ?_; (with_reducible refine (spec_saSmall.calls k a0_0 a0_1 _ _ l0_2 false _ ?side1 ?side2 A2.out).mono ?_); (case side1 => exact CB (Kd.C_below HR0_2.out HB.out)); (case side2 => exact HC0_2.out); rintro e w12 ⟨rfl, hb⟩; refine ⟨_, rfl, ?_⟩; refine E2 (bB BK383.out hb) (below_step (BL HB.out) hb) ?_; clear BK383 HB; intro BK383 HB; (try clear hb); (try clear hb2); (try clear hk); (try clear hi)))
  go_ret2
  exact ⟨RF, BL HB.out⟩

/-! ### impl_numberOf: function 56 -/
def impl_numberOf.l0 : Nat → Int → List Int → Int → Int → Option (Int)
  | 0, _, _, _, _ => none
  | k + 1, x3, x6, x7, x8 => if x8 < x7 then (if 0 ≤ x8 then (if x8 < (x6.length : Int) then (impl_numberOf.l0 k (Go.bits .or .i64 x3 (shl .i64 (rd x6 x8) x8)) x6 x7 (wrap64 (x8 + 1))) else (none)) else (none)) else (some x3)
def impl_numberOf.f (k : Nat) (l0 : List Int) : Option (Int) := impl_numberOf.l0 k 0 l0 (l0.length : Int) 0
theorem impl_numberOf.mono_l : ∀ k, (∀ y0 y1 y2 y3, LeO (impl_numberOf.l0 k y0 y1 y2 y3) (impl_numberOf.l0 (k + 1) y0 y1 y2 y3))
  | 0 => fun _ _ _ _ r h => by simp [impl_numberOf.l0] at h
  | k + 1 => by
    have ih0 := impl_numberOf.mono_l k
    intros
    first | unfold impl_numberOf.l0
    repeat' first | (with_reducible first | apply ih0 | exact LeO.refl _ | exact LeO.none _ | refine LeO.ite ?_ ?_ | refine LeO.bind ?_ (fun _ => ?_)) | apply ih0 | exact LeO.none _ | refine LeO.ite ?_ ?_ | refine LeO.bind ?_ (fun _ => ?_)
theorem impl_numberOf.mono : ∀ a0 k, LeO (impl_numberOf.f k a0) (impl_numberOf.f (k + 1) a0) := by
  intro a0 k
  have ih0 := impl_numberOf.mono_l k
  unfold impl_numberOf.f
  repeat' first | (with_reducible first | apply ih0 | exact LeO.refl _ | exact LeO.none _ | refine LeO.ite ?_ ?_ | refine LeO.bind ?_ (fun _ => ?_)) | apply ih0 | exact LeO.none _ | refine LeO.ite ?_ ?_ | refine LeO.bind ?_ (fun _ => ?_)
set_option maxHeartbeats 8000000 in
set_option maxRecDepth 100000 in
theorem impl_numberOf.calls (k : Nat) (A0 : Option Addr) (c0 : Nat) (l0 : List Int) (r : Int) (w : World) (hr0 : Kd.C (Kd.int .i64) w A0 l0.length l0) (hc0 : l0.length ≤ c0) (h : impl_numberOf.f k l0 = some r) :
    Calls Try.prog 56 #[.slice A0 l0.length c0] w fun e w' => e = .returned (.int .i64 r) ∧ Drawn0 w w' := by
  have HR0 := Aside0.mk hr0
  have HC0 := Aside0.mk hc0
  clear hr0 hc0
  have H := h
  clear h
  unfold impl_numberOf.f at H
  have H' := Aside0.mk H
  clear H
  go_enter Try.func56, Try.ntmps56
  go_wp2
  go_loopg [3, 8] k (fun kq v3 v8 w' => ∃ (x3_1 : Int) (x8_1 : Int), v3 = .int .i64 x3_1 ∧ v8 = .int .i64 x8_1 ∧ Aside0 (impl_numberOf.l0 kq x3_1 l0 (l0.length : Int) x8_1 = some r) ∧ Aside0 (kq ≤ k) ∧ Drawn0 w w')
  case atStart => exact ⟨(0), (0), RG, RG, H', ⟨Nat.le_refl _⟩, DR⟩
  clear H'
  obtain ⟨x3_1, x8_1, rfl, rfl, HA, HK1, ⟨m1, rfl⟩⟩ := hrel
  cases gk with
  | zero => exact absurd HA.out (by simp [impl_numberOf.l0])
  | succ k1 => ?_
  have H := HA.out
  clear HA
  simp only [impl_numberOf.l0] at H
  replace H := ifB H; rcases H with ⟨c2b0, H⟩ | ⟨c2b0, H⟩
  · replace H := ifN H; obtain ⟨c3b0, H⟩ := H
    replace H := ifN H; obtain ⟨c4b0, H⟩ := H
    have c5b0 := eq_true (OD : 0 ≤ x8_1)
    obtain ⟨ji6, hji6⟩ : ∃ j_ : Int, (shl .i64 (rd l0 x8_1) x8_1) = j_ := ⟨_, rfl⟩
    replace H : (impl_numberOf.l0 k1 (Go.bits .or .i64 x3_1 (ji6)) l0 (l0.length : Int) (wrap64 (x8_1 + 1))) = some r := by first | (rw [hji6] at H; exact H) | (simp only [hji6] at H ⊢; exact H)
    have hji6_ : (IntKind.i64.wrap ((rd l0 x8_1) * 2 ^ min x8_1.toNat 64)) = ji6 := hji6
    have hji6z : x8_1 ≤ 64 → (IntKind.i64.wrap ((rd l0 x8_1) * 2 ^ x8_1.toNat)) = ji6 := shl_small hji6
    have hji6y : (wrap64 ((rd l0 x8_1) * 2 ^ min x8_1.toNat 64)) = ji6 := (i64_w _).symm.trans hji6_
    have hji6x : x8_1 ≤ 64 → (wrap64 ((rd l0 x8_1) * 2 ^ x8_1.toNat)) = ji6 := fun h_ => (i64_w _).symm.trans (hji6z h_)
    have H' := Aside0.mk H
    clear H
    have p386 : 0 ≤ (x8_1 : Int) := OD
    have q386 : x8_1 < (l0.length : Int) := OD
    obtain ⟨ad386, e386, hx386_0⟩ := Kd.at_int HR0.out x8_1 p386 q386
    cases e386
    replace p386 := eq_true p386
    replace q386 := eq_true q386
    go_wp2
    go_roundg k1
    case measure => have := HK1.out; omega
    case rel => exact ⟨(Go.bits .or .i64 x3_1 (ji6)), (wrap64 (x8_1 + 1)), (by first | rfl | (simp; done) | (simp only [← hji6] <;> (first | rfl | simp)) | (simp [*]; done)), RG, H', ⟨by have := HK1.out; omega⟩, DR⟩
  obtain rfl := Option.some.inj H
  go_wp2
  go_ret
  exact ⟨RG, DR⟩
/-! ### impl_StateNumber: function 19 -/
def impl_StateNumber.f (k : Nat) (a0_0 : Int) (a0_1 : Int) (l0_2 : List (S73)) : Option (Int × Bool) := (impl_IsBoard.f k a0_0 a0_1 l0_2).bind fun t388 => (if t388 = true then ((impl_bitsOf.f k a0_0 a0_1 l0_2).bind fun t389 => (if (t389.length : Int) > 16 then (some (0, false)) else ((impl_numberOf.f k t389).bind fun t392 => (some (t392, true))))) else (some (0, false)))
theorem impl_StateNumber.mono : ∀ a0 a1 a2 k, LeO (impl_StateNumber.f k a0 a1 a2) (impl_StateNumber.f (k + 1) a0 a1 a2) := by
  intro a0 a1 a2 k
  unfold impl_StateNumber.f
  repeat' first
      | (with_reducible exact impl_IsBoard.mono _ _ _ _)
      | (with_reducible exact impl_bitsOf.mono _ _ _ _)
      | (with_reducible exact impl_numberOf.mono _ _)
      | (with_reducible exact LeO.refl _)
      | (with_reducible exact LeO.none _)
      | (with_reducible refine LeO.ite ?_ ?_)
      | (with_reducible refine LeO.bind ?_ (fun _ => ?_))
      | exact impl_IsBoard.mono _ _ _ _
      | exact impl_bitsOf.mono _ _ _ _
      | exact impl_numberOf.mono _ _
      | exact LeO.none _
      | refine LeO.ite ?_ ?_
      | refine LeO.bind ?_ (fun _ => ?_)
set_option maxHeartbeats 8000000 in
set_option maxRecDepth 100000 in
theorem impl_StateNumber.calls (k : Nat) (a0_0 : Int) (a0_1 : Int) (A0_2 : Option Addr) (c0_2 : Nat) (l0_2 : List (S73)) (r1 : Int) (r2 : Bool) (w : World) (hr0_2 : Kd.C k73 w A0_2 l0_2.length l0_2) (hc0_2 : l0_2.length ≤ c0_2) (h : impl_StateNumber.f k a0_0 a0_1 l0_2 = some (r1, r2)) :
    Calls Try.prog 19 #[.agg #[.int .i64 a0_0, .int .i64 a0_1, .slice A0_2 l0_2.length c0_2]] w fun e w' => e = .returned (.tuple #[.int .i64 r1, .bool r2]) ∧ Below w.heap.size w w' := by
  have hu30 := Try.underlying30
  have HR0_2 := Aside0.mk hr0_2
  have HC0_2 := Aside0.mk hc0_2
  clear hr0_2 hc0_2
  have HB := Aside0.mk (Below.refl w.heap.size w)
  have H := h
  clear h
  unfold impl_StateNumber.f at H
  replace H := bindA H; obtain ⟨t388, A2, H⟩ := H
  replace H := ifX H; rcases H with ⟨rfl, H⟩ | ⟨rfl, H⟩
  · replace H := bindA H; obtain ⟨t389, A4, H⟩ := H
    replace H := ifQ H; rcases H with ⟨c5, H⟩ | ⟨c5, H⟩
    · have c5b0 : decide (16 < (t389.length : Int)) = true := decide_eq_true c5
      have c5b1 : decide (16 < t389.length) = true := decide_eq_true (by omega)
      clear c5
      simp only [Option.some.injEq, Prod.mk.injEq] at H
      obtain ⟨rfl, rfl⟩ := H
      go_enter Try.func19, Try.ntmps19
      go_wp2_with (first | ((with_reducible refine gate_dst (N := 1) rfl ?_); refine boxE (N := 1) (cs := #[.int .i64 a0_0, .int .i64 a0_1, .slice A0_2 l0_2.length c0_2]) (t := 30) ?_; intro gb387 hg w6 hbox hb; refine E4b HB.out hg hbox hb ?_; clear HB; intro HB BK387 GW387 GE387; clear hb hbox hg; obtain ⟨hcz7_0, hcz7_1, hcz7_2, hfz7_0, hfz7_1, hfz7_2⟩ := cz3 BK387.out) | ((with_reducible refine gate_callee (f := 50) rfl ?_); refine goesM (N := (some 6)) #[.agg #[.int .i64 a0_0, .int .i64 a0_1, .slice A0_2 l0_2.length c0_2]] Try.func50 ?_; (with_reducible refine (impl_IsBoard.calls k a0_0 a0_1 _ _ l0_2 true _ ?side1 ?side2 A2.out).mono ?_); (case side1 => exact CB (Kd.C_below HR0_2.out HB.out)); (case side2 => exact HC0_2.out); rintro e w8 ⟨rfl, hb⟩; refine ⟨_, rfl, ?_⟩; refine E2 (bB BK387.out hb) (below_step (BL HB.out) hb) ?_; clear BK387 HB; intro BK387 HB; (try clear hb); (try clear hb2); (try clear hk); (try clear hi); obtain ⟨hcz9_0, hcz9_1, hcz9_2, hfz9_0, hfz9_1, hfz9_2⟩ := cz3 BK387.out) | ((with_reducible refine gate_callee (f := 52) rfl ?_); refine goesM (N := (some 9)) #[.agg #[.int .i64 a0_0, .int .i64 a0_1, .slice A0_2 l0_2.length c0_2]] Try.func52 ?_; (with_reducible refine (impl_bitsOf.calls k a0_0 a0_1 _ _ l0_2 t389 _ ?side1 ?side2 A4.out).mono ?_); (case side1 => exact CB (Kd.C_below HR0_2.out HB.out)); (case side2 => exact HC0_2.out); rintro e w10 ⟨v390, rfl, ho0, hb⟩; refine ⟨_, rfl, ?_⟩; refine E3 (Kd.R_lower ho0 (below_size (BL HB.out))) (bB BK387.out hb) (below_step (BL HB.out) hb) ?_; clear BK387 HB; intro HO391 BK387 HB; (try clear hb); (try clear hb2); (try clear hk); (try clear hi); (try clear ho0); obtain ⟨Ao11, co11, eo11⟩ := Kd.R_slice HO391.out; subst eo11))
      go_ret2
      exact ⟨RF, BL HB.out⟩
    have c5b0 : decide (16 < (t389.length : Int)) = false := decide_eq_false c5
    have c5b1 : decide (16 < t389.length) = false := decide_eq_false (by omega)
    clear c5
    replace H := bindA H; obtain ⟨t392, A12, H⟩ := H
    simp only [Option.some.injEq, Prod.mk.injEq] at H
    obtain ⟨rfl, rfl⟩ := H
    go_enter Try.func19, Try.ntmps19
    go_wp2_with (first | ((with_reducible refine gate_dst (N := 1) rfl ?_); refine boxE (N := 1) (cs := #[.int .i64 a0_0, .int .i64 a0_1, .slice A0_2 l0_2.length c0_2]) (t := 30) ?_; intro gb387 hg w13 hbox hb; refine E4b HB.out hg hbox hb ?_; clear HB; intro HB BK387 GW387 GE387; clear hb hbox hg; obtain ⟨hcz14_0, hcz14_1, hcz14_2, hfz14_0, hfz14_1, hfz14_2⟩ := cz3 BK387.out) | ((with_reducible refine gate_callee (f := 50) rfl ?_); refine goesM (N := (some 6)) #[.agg #[.int .i64 a0_0, .int .i64 a0_1, .slice A0_2 l0_2.length c0_2]] Try.func50 ?_; (with_reducible refine (impl_IsBoard.calls k a0_0 a0_1 _ _ l0_2 true _ ?side1 ?side2 A2.out).mono ?_); (case side1 => exact CB (Kd.C_below HR0_2.out HB.out)); (case side2 => exact HC0_2.out); rintro e w15 ⟨rfl, hb⟩; refine ⟨_, rfl, ?_⟩; refine E2 (bB BK387.out hb) (below_step (BL HB.out) hb) ?_; clear BK387 HB; intro BK387 HB; (try clear hb); (try clear hb2); (try clear hk); (try clear hi); obtain ⟨hcz16_0, hcz16_1, hcz16_2, hfz16_0, hfz16_1, hfz16_2⟩ := cz3 BK387.out) | ((with_reducible refine gate_callee (f := 52) rfl ?_); refine goesM (N := (some 9)) #[.agg #[.int .i64 a0_0, .int .i64 a0_1, .slice A0_2 l0_2.length c0_2]] Try.func52 ?_; (with_reducible refine (impl_bitsOf.calls k a0_0 a0_1 _ _ l0_2 t389 _ ?side1 ?side2 A4.out).mono ?_); (case side1 => exact CB (Kd.C_below HR0_2.out HB.out)); (case side2 => exact HC0_2.out); rintro e w17 ⟨v390, rfl, ho0, hb⟩; refine ⟨_, rfl, ?_⟩; refine E3 (Kd.R_lower ho0 (below_size (BL HB.out))) (bB BK387.out hb) (below_step (BL HB.out) hb) ?_; clear BK387 HB; intro HO391 BK387 HB; (try clear hb); (try clear hb2); (try clear hk); (try clear hi); (try clear ho0); obtain ⟨Ao18, co18, eo18⟩ := Kd.R_slice HO391.out; subst eo18) | ((with_reducible refine gate_callee (f := 56) rfl ?_); refine goesM (N := (some 14)) #[.slice Ao18 t389.length co18] Try.func56 ?_; (with_reducible refine (impl_numberOf.calls k _ _ t389 t392 _ ?side1 ?side2 A12.out).mono ?_); (case side1 => repeat (first | exact (Kd.R_reads' HO391.out).2.2 | (with_reducible refine Kd.C_alloc ?_ _) | (with_reducible refine Kd.C_drewN ?_ _) | (with_reducible refine Kd.C_drew ?_))); (case side2 => exact (Kd.R_reads' HO391.out).2.1); rintro e w' ⟨rfl, ⟨nd, rfl⟩⟩; refine ⟨_, rfl, ?_⟩))
    go_ret2
    exact ⟨RF, BL HB.out⟩
  simp only [Option.some.injEq, Prod.mk.injEq] at H
  obtain ⟨rfl, rfl⟩ := H
  go_enter Try.func19, Try.ntmps19
  go_wp2_with (first | ((with_reducible refine gate_dst (N := 1) rfl ?_); refine boxE (N := 1) (cs := #[.int .i64 a0_0, .int .i64 a0_1, .slice A0_2 l0_2.length c0_2]) (t := 30) ?_; intro gb387 hg w19 hbox hb; refine E4b HB.out hg hbox hb ?_; clear HB; intro HB BK387 GW387 GE387; clear hb hbox hg; obtain ⟨hcz20_0, hcz20_1, hcz20_2, hfz20_0, hfz20_1, hfz20_2⟩ := cz3 BK387.out) | ((with_reducible refine gate_callee (f := 50) rfl ?_); refine goesM (N := (some 6)) #[.agg #[.int .i64 a0_0, .int .i64 a0_1, .slice A0_2 l0_2.length c0_2]] Try.func50 ?_; (with_reducible refine (impl_IsBoard.calls k a0_0 a0_1 _ _ l0_2 false _ ?side1 ?side2 A2.out).mono ?_); (case side1 => exact CB (Kd.C_below HR0_2.out HB.out)); (case side2 => exact HC0_2.out); rintro e w21 ⟨rfl, hb⟩; refine ⟨_, rfl, ?_⟩; refine E2 (bB BK387.out hb) (below_step (BL HB.out) hb) ?_; clear BK387 HB; intro BK387 HB; (try clear hb); (try clear hb2); (try clear hk); (try clear hi)))
  go_ret2
  exact ⟨RF, BL HB.out⟩

/-! ### laws_FnExactStateNumber: function 4 -/
def laws_FnExactStateNumber.j0 : Nat → Bool → Int → Int → List (S84) → Int → Int → List (S73) → Option (Bool)
  | 0, _, _, _, _, _, _, _ => none
  | k + 1, x34, x394000, x394001, x394002, x408000, x408001, x408002 => if x34 = true then (some false) else ((laws_toBoard.f k x394000 x394001 x394002).bind fun bt410 => ((laws_eqBoard.f k x408000 x408001 x408002 bt410.1 bt410.2.1 bt410.2.2).bind fun t415 => (if t415 = true then (some true) else (some false))))
def laws_FnExactStateNumber.f (k : Nat) (a0_0 : Int) (a0_1 : Int) (l0_2 : List (S84)) : Option (Bool) := (laws_szBoard.f a0_0 a0_1 l0_2 1048576).bind fun t394 => (if t394 < 0 then (some true) else ((laws_toBoard.f k a0_0 a0_1 l0_2).bind fun bt395 => ((spec_StateNumber.f k bt395.1 bt395.2.1 bt395.2.2).bind fun bt400 => ((laws_toBoard.f k a0_0 a0_1 l0_2).bind fun bt402 => ((impl_StateNumber.f k bt402.1 bt402.2.1 bt402.2.2).bind fun bt408 => (if bt408.1 = bt400.1 then (laws_FnExactStateNumber.j0 k (bt408.2 != bt400.2) a0_0 a0_1 l0_2 bt402.1 bt402.2.1 bt402.2.2) else (laws_FnExactStateNumber.j0 k true a0_0 a0_1 l0_2 bt402.1 bt402.2.1 bt402.2.2)))))))
theorem laws_FnExactStateNumber.mono_l : ∀ k, (∀ y0 y1 y2 y3 y4 y5 y6, LeO (laws_FnExactStateNumber.j0 k y0 y1 y2 y3 y4 y5 y6) (laws_FnExactStateNumber.j0 (k + 1) y0 y1 y2 y3 y4 y5 y6))
  | 0 => fun _ _ _ _ _ _ _ r h => by simp [laws_FnExactStateNumber.j0] at h
  | k + 1 => by
    have ih0 := laws_FnExactStateNumber.mono_l k
    intros
    first | unfold laws_FnExactStateNumber.j0
    repeat' first | (with_reducible first | apply ih0 | apply impl_StateNumber.mono | apply laws_eqBoard.mono | apply laws_toBoard.mono | apply spec_StateNumber.mono | exact LeO.refl _ | exact LeO.none _ | refine LeO.ite ?_ ?_ | refine LeO.bind ?_ (fun _ => ?_)) | apply ih0 | apply impl_StateNumber.mono | apply laws_eqBoard.mono | apply laws_toBoard.mono | apply spec_StateNumber.mono | exact LeO.none _ | refine LeO.ite ?_ ?_ | refine LeO.bind ?_ (fun _ => ?_)
theorem laws_FnExactStateNumber.mono : ∀ a0 a1 a2 k, LeO (laws_FnExactStateNumber.f k a0 a1 a2) (laws_FnExactStateNumber.f (k + 1) a0 a1 a2) := by
  intro a0 a1 a2 k
  have ih0 := laws_FnExactStateNumber.mono_l k
  unfold laws_FnExactStateNumber.f
  repeat' first | (with_reducible first | apply ih0 | apply impl_StateNumber.mono | apply laws_eqBoard.mono | apply laws_toBoard.mono | apply spec_StateNumber.mono | exact LeO.refl _ | exact LeO.none _ | refine LeO.ite ?_ ?_ | refine LeO.bind ?_ (fun _ => ?_)) | apply ih0 | apply impl_StateNumber.mono | apply laws_eqBoard.mono | apply laws_toBoard.mono | apply spec_StateNumber.mono | exact LeO.none _ | refine LeO.ite ?_ ?_ | refine LeO.bind ?_ (fun _ => ?_)
set_option maxHeartbeats 8000000 in
set_option maxRecDepth 100000 in
theorem laws_FnExactStateNumber.calls (k : Nat) (a0_0 : Int) (a0_1 : Int) (A0_2 : Option Addr) (c0_2 : Nat) (l0_2 : List (S84)) (w : World) (hr0_2 : Kd.C k84 w A0_2 l0_2.length l0_2) (hc0_2 : l0_2.length ≤ c0_2) (h : laws_FnExactStateNumber.f k a0_0 a0_1 l0_2 = some true) :
    Calls Try.prog 4 #[.agg #[.int .i64 a0_0, .int .i64 a0_1, .slice A0_2 l0_2.length c0_2]] w fun e w' => e = .returned (.bool true) ∧ Below w.heap.size w w' := by
  have hu24 := Try.underlying24
  have hu30 := Try.underlying30
  have HR0_2 := Aside0.mk hr0_2
  have HC0_2 := Aside0.mk hc0_2
  clear hr0_2 hc0_2
  have HB := Aside0.mk (Below.refl w.heap.size w)
  have H := h
  clear h
  unfold laws_FnExactStateNumber.f at H
  replace H := bindA H; obtain ⟨t394, A2, H⟩ := H
  replace H := ifB H; rcases H with ⟨c3b0, H⟩ | ⟨c3b0, H⟩
  · first | (obtain rfl := Option.some.inj H) | clear H
    go_enter Try.func4, Try.ntmps4
    go_wp2_with (first | ((with_reducible refine gate_dst (N := 1) rfl ?_); refine boxE (N := 1) (cs := #[.int .i64 a0_0, .int .i64 a0_1, .slice A0_2 l0_2.length c0_2]) (t := 24) ?_; intro gb393 hg w4 hbox hb; refine E4b HB.out hg hbox hb ?_; clear HB; intro HB BK393 GW393 GE393; clear hb hbox hg; obtain ⟨hcz5_0, hcz5_1, hcz5_2, hfz5_0, hfz5_1, hfz5_2⟩ := cz3 BK393.out) | ((with_reducible refine gate_callee (f := 13) rfl ?_); refine goesM (N := (some 11)) #[.agg #[.int .i64 a0_0, .int .i64 a0_1, .slice A0_2 l0_2.length c0_2], .int .i64 1048576] Try.func13 ?_; (with_reducible refine (laws_szBoard.calls a0_0 a0_1 _ _ l0_2 1048576 t394 _ ?side1 ?side2 A2.out).mono ?_); (case side1 => exact CB (Kd.C_below HR0_2.out HB.out)); (case side2 => exact HC0_2.out); rintro e w6 ⟨rfl, hb⟩; refine ⟨_, rfl, ?_⟩; refine E2 (bB BK393.out hb) (below_step (BL HB.out) hb) ?_; clear BK393 HB; intro BK393 HB; (try clear hb); (try clear hb2); (try clear hk); (try clear hi)))
    go_ret
    exact ⟨RF, BL HB.out⟩
  replace H := bindA H; obtain ⟨⟨t395, t396, t397⟩, A7, H⟩ := H
  dsimp only at H
  replace H := bindA H; obtain ⟨⟨t400, t401⟩, A8, H⟩ := H
  dsimp only at H
  replace H := bindA H; obtain ⟨⟨t402, t403, t404⟩, A9, H⟩ := H
  dsimp only at H
  replace H := bindA H; obtain ⟨⟨t408, t409⟩, A10, H⟩ := H
  dsimp only at H
  have HC11 := Aside0.mk H
  clear H
  go_enter Try.func4, Try.ntmps4
  go_upto_region 8 with (first | ((with_reducible refine gate_dst (N := 1) rfl ?_); refine boxE (N := 1) (cs := #[.int .i64 a0_0, .int .i64 a0_1, .slice A0_2 l0_2.length c0_2]) (t := 24) ?_; intro gb393 hg w12 hbox hb; refine E4b HB.out hg hbox hb ?_; clear HB; intro HB BK393 GW393 GE393; clear hb hbox hg; obtain ⟨hcz13_0, hcz13_1, hcz13_2, hfz13_0, hfz13_1, hfz13_2⟩ := cz3 BK393.out) | ((with_reducible refine gate_callee (f := 13) rfl ?_); refine goesM (N := (some 11)) #[.agg #[.int .i64 a0_0, .int .i64 a0_1, .slice A0_2 l0_2.length c0_2], .int .i64 1048576] Try.func13 ?_; (with_reducible refine (laws_szBoard.calls a0_0 a0_1 _ _ l0_2 1048576 t394 _ ?side1 ?side2 A2.out).mono ?_); (case side1 => exact CB (Kd.C_below HR0_2.out HB.out)); (case side2 => exact HC0_2.out); rintro e w14 ⟨rfl, hb⟩; refine ⟨_, rfl, ?_⟩; refine E2 (bB BK393.out hb) (below_step (BL HB.out) hb) ?_; clear BK393 HB; intro BK393 HB; (try clear hb); (try clear hb2); (try clear hk); (try clear hi); obtain ⟨hcz15_0, hcz15_1, hcz15_2, hfz15_0, hfz15_1, hfz15_2⟩ := cz3 BK393.out) | ((with_reducible refine gate_callee (f := 15) rfl ?_); refine goesM (N := (some 16)) #[.agg #[.int .i64 a0_0, .int .i64 a0_1, .slice A0_2 l0_2.length c0_2]] Try.func15 ?_; (with_reducible refine (laws_toBoard.calls k a0_0 a0_1 _ _ l0_2 t395 t396 t397 _ ?side1 ?side2 A7.out).mono ?_); (case side1 => exact CB (Kd.C_below HR0_2.out HB.out)); (case side2 => exact HC0_2.out); rintro e w16 ⟨v398, rfl, ho0, hb⟩; refine ⟨_, rfl, ?_⟩; refine E3 (Kd.R_lower ho0 (below_size (BL HB.out))) (bB BK393.out hb) (below_step (BL HB.out) hb) ?_; clear BK393 HB; intro HO399 BK393 HB; (try clear hb); (try clear hb2); (try clear hk); (try clear hi); (try clear ho0); obtain ⟨Ao17, co17, eo17⟩ := Kd.R_slice HO399.out; subst eo17) | ((with_reducible refine gate_callee (f := 18) rfl ?_); refine goesM (N := (some 17)) #[.agg #[.int .i64 t395, .int .i64 t396, .slice Ao17 t397.length co17]] Try.func18 ?_; (with_reducible refine (spec_StateNumber.calls k t395 t396 _ _ t397 t400 t401 _ ?side1 ?side2 A8.out).mono ?_); (case side1 => repeat (first | exact (Kd.R_reads' HO399.out).2.2 | (with_reducible refine Kd.C_alloc ?_ _) | (with_reducible refine Kd.C_drewN ?_ _) | (with_reducible refine Kd.C_drew ?_))); (case side2 => exact (Kd.R_reads' HO399.out).2.1); rintro e w18 ⟨rfl, hb⟩; refine ⟨_, rfl, ?_⟩; refine E3 (Kd.R_below (PR HO399.out) hb) (bB BK393.out hb) (below_step (BL HB.out) hb) ?_; clear HO399 BK393 HB; intro HO399 BK393 HB; (try clear hb); (try clear hb2); (try clear hk); (try clear hi); obtain ⟨hcz19_0, hcz19_1, hcz19_2, hfz19_0, hfz19_1, hfz19_2⟩ := cz3 BK393.out) | ((with_reducible refine gate_callee (f := 15) rfl ?_); refine goesM (N := (some 21)) #[.agg #[.int .i64 a0_0, .int .i64 a0_1, .slice A0_2 l0_2.length c0_2]] Try.func15 ?_; (with_reducible refine (laws_toBoard.calls k a0_0 a0_1 _ _ l0_2 t402 t403 t404 _ ?side1 ?side2 A9.out).mono ?_); (case side1 => exact CB (Kd.C_below HR0_2.out HB.out)); (case side2 => exact HC0_2.out); rintro e w20 ⟨v405, rfl, ho0, hb⟩; refine ⟨_, rfl, ?_⟩; refine E4 (Kd.R_elder' (PR HO399.out) (Kd.R_base ho0) hb) (Kd.R_lower (Kd.R_new' ho0 (Kd.R_lt (PR HO399.out))) (below_size (BL HB.out))) (bB BK393.out hb) (below_step (BL HB.out) hb) ?_; clear HO399 BK393 HB; intro HO399 HO406 BK393 HB; (try clear hb); (try clear hb2); (try clear hk); (try clear hi); (try clear ho0)) | ((with_reducible refine gate_dst (N := 6) rfl ?_); refine boxE (N := 6) (cs := #[.int .i64 0, .int .i64 0, .slice none 0 0]) (t := 30) ?_; intro gb407 hg w21 hbox hb; refine E9 (Kd.R_below (PR HO399.out) hb) (Kd.R_below (PR HO406.out) hb) (bB BK393.out hb) (below_step (BL HB.out) hb) (hbox) (gwM hg (below_size (BL HB.out)) : w.heap.size ≤ gb407) (gwM hg (below_size (BL HB.out)) : w.heap.size ≤ gb407) ((nB BK393.out hg : gb393 ≠ gb407)) ((nC BK393.out hg : gb407 ≠ gb393)) ?_; clear HO399 HO406 BK393 HB; intro HO399 HO406 BK393 HB BK407 GW407 GE407 NB393_407 NB407_393; clear hb hbox hg; have hnb22 := NB407_393.out; have hnc22 := NB393_407.out; obtain ⟨hcz23_0, hcz23_1, hcz23_2, hfz23_0, hfz23_1, hfz23_2⟩ := cz3 BK407.out; obtain ⟨Ao24, co24, eo24⟩ := Kd.R_slice HO406.out; subst eo24) | ((with_reducible refine gate_callee (f := 19) rfl ?_); refine goesM (N := (some 24)) #[.agg #[.int .i64 t402, .int .i64 t403, .slice Ao24 t404.length co24]] Try.func19 ?_; (with_reducible refine (impl_StateNumber.calls k t402 t403 _ _ t404 t408 t409 _ ?side1 ?side2 A10.out).mono ?_); (case side1 => refine (Kd.R_reads' (e := 73) (base := w.heap.size) (ok := fun k_ => (True ∧ some k_ ≠ (.slice Ao17 t397.length co17 : Value).ownBlock)) (n := t404.length) (c := co24) ?_).2.2; exact (by (with_reducible repeat (first | apply Kd.R_alloc | apply Kd.R_drewN | apply Kd.R_drew)); exact (Kd.R_mono (Kd.R_far (p := ⟨gb407, 2, none⟩) (Kd.R_far (p := ⟨gb407, 1, none⟩) (Kd.R_far (p := ⟨gb407, 0, none⟩) (Kd.R_types HO406.out BK407.out (by decide)) (fun _ hk => hk.2) (.int .i64 t402)) (fun _ hk => hk.2) (.int .i64 t403)) (fun _ hk => hk.2) (.slice Ao24 t404.length co24)) (fun _ h_ => h_.1)))); (case side2 => exact (Kd.R_reads' HO406.out).2.1); rintro e w25 ⟨rfl, hb⟩; refine ⟨_, rfl, ?_⟩; refine E5 (Kd.R_below (by (with_reducible repeat (first | apply Kd.R_alloc | apply Kd.R_drewN | apply Kd.R_drew)); exact (Kd.R_mono (Kd.R_far (p := ⟨gb407, 2, none⟩) (Kd.R_far (p := ⟨gb407, 1, none⟩) (Kd.R_far (p := ⟨gb407, 0, none⟩) (Kd.R_types HO399.out BK407.out (by decide)) (fun _ hk => hk.2) (.int .i64 t402)) (fun _ hk => hk.2) (.int .i64 t403)) (fun _ hk => hk.2) (.slice Ao24 t404.length co24)) (fun _ h_ => h_.1))) hb) (Kd.R_below (by (with_reducible repeat (first | apply Kd.R_alloc | apply Kd.R_drewN | apply Kd.R_drew)); exact (Kd.R_mono (Kd.R_far (p := ⟨gb407, 2, none⟩) (Kd.R_far (p := ⟨gb407, 1, none⟩) (Kd.R_far (p := ⟨gb407, 0, none⟩) (Kd.R_types HO406.out BK407.out (by decide)) (fun _ hk => hk.2) (.int .i64 t402)) (fun _ hk => hk.2) (.int .i64 t403)) (fun _ hk => hk.2) (.slice Ao24 t404.length co24)) (fun _ h_ => h_.1))) hb) (blk_below (g := gb393) (o := .cells #[.int .i64 a0_0, .int .i64 a0_1, .slice A0_2 l0_2.length c0_2] 24 (0, 0)) (by (with_reducible repeat (first | refine blk_drewN ?_ _ | refine blk_drew ?_ | refine blk_alloc ?_ _)); refine blk_far ?_ NB393_407.out _; (with_reducible repeat (first | refine blk_drewN ?_ _ | refine blk_drew ?_ | refine blk_alloc ?_ _)); refine blk_far ?_ NB393_407.out _; (with_reducible repeat (first | refine blk_drewN ?_ _ | refine blk_drew ?_ | refine blk_alloc ?_ _)); refine blk_far ?_ NB393_407.out _; (with_reducible repeat (first | refine blk_drewN ?_ _ | refine blk_drew ?_ | refine blk_alloc ?_ _)); exact BK393.out) hb) (blk_below (g := gb407) (o := .cells #[.int .i64 t402, .int .i64 t403, .slice Ao24 t404.length co24] 30 (0, 0)) (by (with_reducible repeat (first | refine blk_drewN ?_ _ | refine blk_drew ?_ | refine blk_alloc ?_ _)); refine blk_put (cs := #[.int .i64 t402, .int .i64 t403, .slice none 0 0]) ?_ 2 _ rfl; (with_reducible repeat (first | refine blk_drewN ?_ _ | refine blk_drew ?_ | refine blk_alloc ?_ _)); refine blk_put (cs := #[.int .i64 t402, .int .i64 0, .slice none 0 0]) ?_ 1 _ rfl; (with_reducible repeat (first | refine blk_drewN ?_ _ | refine blk_drew ?_ | refine blk_alloc ?_ _)); refine blk_put (cs := #[.int .i64 0, .int .i64 0, .slice none 0 0]) ?_ 0 _ rfl; (with_reducible repeat (first | refine blk_drewN ?_ _ | refine blk_drew ?_ | refine blk_alloc ?_ _)); exact BK407.out) hb) (below_step (BL HB.out) hb) ?_; clear HO399 HO406 BK393 BK407 HB; intro HO399 HO406 BK393 BK407 HB; (try clear hb); (try clear hb2); (try clear hk); (try clear hi)))
  (try simp only [Act.put, List.setIfInBounds_toArray, List.set_cons_zero, List.set_cons_succ])
  go_cut [34] (fun v34 wc => ∃ (kq : Nat) (x34_10 : Bool), v34 = .bool x34_10 ∧ Aside0 (laws_FnExactStateNumber.j0 kq x34_10 a0_0 a0_1 l0_2 t402 t403 t404 = some true) ∧ Aside0 (kq ≤ k) ∧ Aside0 (Kd.R k73 73 wc w.heap.size (fun _ => True) (.slice Ao24 t404.length co24) t404) ∧ Aside0 (wc.heap[gb393]? = some (.cells #[.int .i64 a0_0, .int .i64 a0_1, (.slice A0_2 l0_2.length c0_2)] 24 (0, 0))) ∧ Aside0 (wc.heap[gb407]? = some (.cells #[.int .i64 t402, .int .i64 t403, (.slice Ao24 t404.length co24)] 30 (0, 0))) ∧ Aside0 (Below w.heap.size w wc))
  case first =>
    have H := HC11.out
    clear HC11
    replace H := ifQ H; rcases H with ⟨c26, H⟩ | ⟨c26, H⟩
    · have c26b0 := beq_iff_eq.mpr c26
      have c26b1 := bne_eq_false_iff_eq.mpr c26
      clear c26
      (first | rw [c26b0] | (simp only [i64_w, i32_w]; rw [c26b0]) | skip)
      have H' := Aside0.mk H
      clear H
      go_wp2
      go_meet
      case rel => exact ⟨_, ((t409 != t401)), RG, H', ⟨by first | omega | exact Nat.le_refl _⟩, ⟨by (with_reducible repeat (first | apply Kd.R_alloc | apply Kd.R_drewN | apply Kd.R_drew)); exact Kd.R_mono HO406.out (fun _ hk => trivial)⟩, ⟨PB BK393.out⟩, ⟨PB BK407.out⟩, ⟨BL HB.out⟩⟩
    exact absurd H (by cases k <;> simp [laws_FnExactStateNumber.j0])
  clear HC11
  try clear c3b0; try clear hcz13_0; try clear hcz13_1; try clear hcz13_2; try clear hcz15_0; try clear hcz15_1; try clear hcz15_2; try clear hcz19_0; try clear hcz19_1; try clear hcz19_2; try clear hcz23_0; try clear hcz23_1; try clear hcz23_2; try clear hfz13_0; try clear hfz13_1; try clear hfz13_2; try clear hfz15_0; try clear hfz15_1; try clear hfz15_2; try clear hfz19_0; try clear hfz19_1; try clear hfz19_2; try clear hfz23_0; try clear hfz23_1; try clear hfz23_2
  obtain ⟨kq, x34_10, rfl, HA, HJ10, HO_408002, BK393, BK407, HB⟩ := hcut
  cases kq with
  | zero => exact absurd HA.out (by simp [laws_FnExactStateNumber.j0])
  | succ kj10 => ?_
  have H := HA.out
  clear HA
  simp only [laws_FnExactStateNumber.j0] at H
  by_cases c27 : x34_10 = true
  · subst c27
    have H1 : (some false) = some true := by rw [if_pos rfl] at H; exact H
    exact absurd H1 (by simp)
  replace c27 := Bool.eq_false_iff.mpr c27
  subst c27
  have H1 : ((laws_toBoard.f kj10 a0_0 a0_1 l0_2).bind fun bt410 => ((laws_eqBoard.f kj10 t402 t403 t404 bt410.1 bt410.2.1 bt410.2.2).bind fun t415 => (if t415 = true then (some true) else (some false)))) = some true := by rw [if_neg (show ¬ (false = true) by decide)] at H; exact H
  clear H
  have H := H1
  clear H1
  replace H := bindA H; obtain ⟨⟨t410, t411, t412⟩, A28, H⟩ := H
  dsimp only at H
  replace H := bindA H; obtain ⟨t415, A29, H⟩ := H
  by_cases c30 : t415 = true
  · subst c30
    have H1 : (some true) = some true := by first | (rw [if_pos rfl] at H; exact H) | rfl
    clear H
    have H := H1
    clear H1
    first | (obtain rfl := Option.some.inj H) | clear H
    try go_wp2
    refine E4 (Kd.R_drew HO_408002.out) (blk_drew BK393.out) (blk_drew BK407.out) (below_drew1 HB.out) ?_
    clear HO_408002 BK393 BK407 HB
    intro HO_408002 BK393 BK407 HB
    refine start_ (n := 5) (S := fun w' => w'.cell? ⟨gb407, 0, none⟩ = some (.int .i64 t402) ∧ w'.cell? ⟨gb407, 1, none⟩ = some (.int .i64 t403) ∧ w'.cell? ⟨gb407, 2, none⟩ = some (.slice Ao24 t404.length co24) ∧ w'.cell? ⟨gb393, 0, none⟩ = some (.int .i64 a0_0) ∧ w'.cell? ⟨gb393, 1, none⟩ = some (.int .i64 a0_1) ∧ w'.cell? ⟨gb393, 2, none⟩ = some (.slice A0_2 l0_2.length c0_2)) (ds := []) #[false, false, false, false, false] (by kernel_rfl) rfl rfl ⟨(blk_cell BK407.out 0).trans rfl, (blk_cell BK407.out 1).trans rfl, (blk_cell BK407.out 2).trans rfl, (blk_cell BK393.out 0).trans rfl, (blk_cell BK393.out 1).trans rfl, (blk_cell BK393.out 2).trans rfl⟩ (fun hHeld => ?_)
    generalize wc.drew = w31 at HO_408002 BK393 BK407 HB hHeld ⊢
    refine take_ (i := 0) (N := some 35) (v := ?_) (a' := ?_) #[true, false, false, false, false] rfl rfl (by kernel_rfl) (fun _ _ _ h => h) (Or.inl ⟨by rfl, ?_⟩) hHeld ?_ ?_
    rotate_left
    · rintro w' ⟨s0, s1, s2, s3, s4, s5⟩
      go_simp
      with_reducible rfl
    rotate_left
    · simp only [Act.put, List.setIfInBounds_toArray, List.set_cons_zero, List.set_cons_succ, i64_w, i32_w]
      rfl
    refine take_ (i := 1) (N := some 36) (v := ?_) (a' := ?_) #[true, true, false, false, false] rfl rfl (by kernel_rfl) (fun _ _ _ h => h) (Or.inl ⟨by rfl, ?_⟩) hHeld ?_ ?_
    rotate_left
    · rintro w' ⟨s0, s1, s2, s3, s4, s5⟩
      go_simp
      with_reducible rfl
    rotate_left
    · simp only [Act.put, List.setIfInBounds_toArray, List.set_cons_zero, List.set_cons_succ, i64_w, i32_w]
      rfl
    refine one_ (i := 2) (N := some 37) #[true, true, true, false, false] rfl rfl (by kernel_rfl) (by decide) (fun K hK => ?_)
    refine goes_ Try.func15 (by kernel_rfl) rfl #[.agg #[.int .i64 a0_0, .int .i64 a0_1, .slice A0_2 l0_2.length c0_2]] (by rfl) rfl rfl (by (try simp only [List.map_toArray, List.map_cons, List.map_nil]); first | done | rfl | (simp only [List.length_drop, List.length_take]; rfl)) ?_
    with_reducible refine (laws_toBoard.calls kj10 a0_0 a0_1 _ _ l0_2 t410 t411 t412 _ ?side1 ?side2 A28.out).mono ?_
    (case side1 => exact CB (Kd.C_below HR0_2.out HB.out))
    (case side2 => exact HC0_2.out)
    rintro e w32 ⟨v413, rfl, ho0, hb⟩
    refine ⟨_, rfl, ?_⟩
    refine E5 (Kd.R_elder' (PR HO_408002.out) (Kd.R_base ho0) hb) (Kd.R_lower (Kd.R_new' ho0 (Kd.R_lt (PR HO_408002.out))) (below_size (BL HB.out))) (bB BK393.out hb) (bB BK407.out hb) (below_step (BL HB.out) hb) ?_
    clear HO_408002 BK393 BK407 HB
    intro HO_408002 HO414 BK393 BK407 HB
    (try clear hb)
    (try clear hb2)
    (try clear hk)
    (try clear hi)
    (try clear ho0)
    obtain ⟨Ao33, co33, eo33⟩ := Kd.R_slice HO414.out
    (first | subst eo33 | (injection eo33 with f1_ f2_ f3_; have f4_ := f1_.symm; have f5_ := f3_.symm; clear f1_ f2_ f3_; subst f4_; subst f5_))
    refine hK.out _ _ ⟨(blk_cell BK407.out 0).trans rfl, (blk_cell BK407.out 1).trans rfl, (blk_cell BK407.out 2).trans rfl, (blk_cell BK393.out 0).trans rfl, (blk_cell BK393.out 1).trans rfl, (blk_cell BK393.out 2).trans rfl⟩ (fun hHeld => ?_)
    clear hK K
    refine norm_ (a' := ?_) ?_ ?_
    rotate_left
    · show Act.put _ (some 37) _ = _
      simp only [Act.put, List.setIfInBounds_toArray, List.set_cons_zero, List.set_cons_succ, i64_w, i32_w]
      rfl
    refine one_ (i := 3) (N := some 38) #[true, true, true, true, false] rfl rfl (by kernel_rfl) (by decide) (fun K hK => ?_)
    refine goes_ Try.func17 (by kernel_rfl) rfl #[.agg #[.int .i64 t402, .int .i64 t403, .slice Ao24 t404.length co24], .agg #[.int .i64 t410, .int .i64 t411, .slice Ao33 t412.length co33]] (by rfl) rfl rfl (by (try simp only [List.map_toArray, List.map_cons, List.map_nil]); first | done | rfl | (simp only [List.length_drop, List.length_take]; rfl)) ?_
    with_reducible refine (laws_eqBoard.calls kj10 t402 t403 _ _ t404 t410 t411 _ _ t412 true _ ?side1 ?side2 ?side3 ?side4 A29.out).mono ?_
    (case side1 => repeat (first | exact (Kd.R_reads' HO_408002.out).2.2 | (with_reducible refine Kd.C_alloc ?_ _) | (with_reducible refine Kd.C_drewN ?_ _) | (with_reducible refine Kd.C_drew ?_)))
    (case side2 => exact (Kd.R_reads' HO_408002.out).2.1)
    (case side3 => repeat (first | exact (Kd.R_reads' HO414.out).2.2 | (with_reducible refine Kd.C_alloc ?_ _) | (with_reducible refine Kd.C_drewN ?_ _) | (with_reducible refine Kd.C_drew ?_)))
    (case side4 => exact (Kd.R_reads' HO414.out).2.1)
    rintro e w34 ⟨rfl, hb⟩
    refine ⟨_, rfl, ?_⟩
    refine E5 (Kd.R_below (PR HO_408002.out) hb) (Kd.R_below (PR HO414.out) hb) (bB BK393.out hb) (bB BK407.out hb) (below_step (BL HB.out) hb) ?_
    clear HO_408002 HO414 BK393 BK407 HB
    intro HO_408002 HO414 BK393 BK407 HB
    (try clear hb)
    (try clear hb2)
    (try clear hk)
    (try clear hi)
    refine hK.out _ _ ⟨(blk_cell BK407.out 0).trans rfl, (blk_cell BK407.out 1).trans rfl, (blk_cell BK407.out 2).trans rfl, (blk_cell BK393.out 0).trans rfl, (blk_cell BK393.out 1).trans rfl, (blk_cell BK393.out 2).trans rfl⟩ (fun hHeld => ?_)
    clear hK K
    refine norm_ (a' := ?_) ?_ ?_
    rotate_left
    · show Act.put _ (some 38) _ = _
      simp only [Act.put, List.setIfInBounds_toArray, List.set_cons_zero, List.set_cons_succ, i64_w, i32_w]
      rfl
    refine pure_ (i := 4) (N := some 39) (v := ?_) (a' := ?_) #[true, true, true, true, true] rfl rfl (by kernel_rfl) (fun _ _ _ h => h) (Or.inl ⟨by rfl, ?_⟩) ?_ ?_
    rotate_left
    · intro w'
      go_simp
      with_reducible rfl
    rotate_left
    · simp only [Act.put, List.setIfInBounds_toArray, List.set_cons_zero, List.set_cons_succ, i64_w, i32_w]
      rfl
    refine done_ (by kernel_rfl) ?_
    try go_wp2
    go_ret
    exact ⟨RF, BL HB.out⟩
  replace c30 := Bool.eq_false_iff.mpr c30
  subst c30
  have H1 : (some false) = some true := by rw [if_neg (show ¬ (false = true) by decide)] at H; exact H
  exact absurd H1 (by simp)
end Go.Proofs.Ytakihdabbpconaa.P
