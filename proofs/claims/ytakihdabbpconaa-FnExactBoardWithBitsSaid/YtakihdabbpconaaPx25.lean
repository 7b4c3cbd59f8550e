-- PRINTED by print.py (a twelfth state) out of the translation. Not trusted: Lean checks it.
import Derived.Test.YtakihdabbpconaaPx0
import Derived.Test.YtakihdabbpconaaPx2
import Derived.Test.YtakihdabbpconaaPx3
import Derived.Test.YtakihdabbpconaaPx4
import Derived.Test.YtakihdabbpconaaPx5
import Derived.Test.YtakihdabbpconaaPx6
import Derived.Test.YtakihdabbpconaaPx7
import Derived.Test.YtakihdabbpconaaPx8
import Derived.Test.YtakihdabbpconaaPx9
import Derived.Test.YtakihdabbpconaaPx12
namespace Go.Proofs.Ytakihdabbpconaa.P
open Go.RowKit Go.Proofs.YtakihdabbpconaaW.PrintWords Go.Proofs.YtakihdabbpconaaW.PrintLast Go.Proofs.YtakihdabbpconaaW.PrintMore
attribute [local go_sem] max2_int min2_int max_two min_two max_three min_three max_four min_four   -- for this text's walks alone
set_option linter.unusedVariables false
set_option linter.unusedSimpArgs false

/-! ### spec_l1All: function 72 -/
def spec_l1All.l0 : Nat → Int → Int → List Int → Int → Int → Option (Bool)
  | 0, _, _, _, _, _ => none
  | k + 1, x1, x2, x9, x10, x11 => if x11 < x10 then (if 0 ≤ x11 then (if x11 < (x9.length : Int) then ((spec_l1In.f (rd x9 x11) x1 x2).bind fun t1059 => (if t1059 = true then (spec_l1All.l0 k x1 x2 x9 x10 (wrap64 (x11 + 1))) else (some false))) else (none)) else (none)) else (some true)
def spec_l1All.f (k : Nat) (l0 : List Int) (a1 : Int) (a2 : Int) : Option (Bool) := spec_l1All.l0 k a1 a2 l0 (l0.length : Int) 0
theorem spec_l1All.mono_l : ∀ k, (∀ y0 y1 y2 y3 y4, LeO (spec_l1All.l0 k y0 y1 y2 y3 y4) (spec_l1All.l0 (k + 1) y0 y1 y2 y3 y4))
  | 0 => fun _ _ _ _ _ r h => by simp [spec_l1All.l0] at h
  | k + 1 => by
    have ih0 := spec_l1All.mono_l k
    intros
    first | unfold spec_l1All.l0
    repeat' first | (with_reducible first | apply ih0 | exact LeO.refl _ | exact LeO.none _ | refine LeO.ite ?_ ?_ | refine LeO.bind ?_ (fun _ => ?_)) | apply ih0 | exact LeO.none _ | refine LeO.ite ?_ ?_ | refine LeO.bind ?_ (fun _ => ?_)
theorem spec_l1All.mono : ∀ a0 a1 a2 k, LeO (spec_l1All.f k a0 a1 a2) (spec_l1All.f (k + 1) a0 a1 a2) := by
  intro a0 a1 a2 k
  have ih0 := spec_l1All.mono_l k
  unfold spec_l1All.f
  repeat' first | (with_reducible first | apply ih0 | exact LeO.refl _ | exact LeO.none _ | refine LeO.ite ?_ ?_ | refine LeO.bind ?_ (fun _ => ?_)) | apply ih0 | exact LeO.none _ | refine LeO.ite ?_ ?_ | refine LeO.bind ?_ (fun _ => ?_)
set_option maxHeartbeats 8000000 in
set_option maxRecDepth 100000 in
theorem spec_l1All.calls (k : Nat) (A0 : Option Addr) (c0 : Nat) (l0 : List Int) (a1 : Int) (a2 : Int) (r : Bool) (w : World) (hr0 : Kd.C (Kd.int .i64) w A0 l0.length l0) (hc0 : l0.length ≤ c0) (h : spec_l1All.f k l0 a1 a2 = some r) :
    Calls Try.prog 72 #[.slice A0 l0.length c0, .int .i64 a1, .int .i64 a2] w fun e w' => e = .returned (.bool r) ∧ Drawn0 w w' := by
  have HR0 := Aside0.mk hr0
  have HC0 := Aside0.mk hc0
  clear hr0 hc0
  have H := h
  clear h
  unfold spec_l1All.f at H
  have H' := Aside0.mk H
  clear H
  go_enter Try.func72, Try.ntmps72
  go_wp2
  go_loopg [11] k (fun kq v11 w' => ∃ (x11_1 : Int), v11 = .int .i64 x11_1 ∧ Aside0 (spec_l1All.l0 kq a1 a2 l0 (l0.length : Int) x11_1 = some r) ∧ Aside0 (kq ≤ k) ∧ Drawn0 w w')
  case atStart => exact ⟨(0), RG, H', ⟨Nat.le_refl _⟩, DR⟩
  clear H'
  obtain ⟨x11_1, rfl, HA, HK1, ⟨m1, rfl⟩⟩ := hrel
  cases gk with
  | zero => exact absurd HA.out (by simp [spec_l1All.l0])
  | succ k1 => ?_
  have H := HA.out
  clear HA
  simp only [spec_l1All.l0] at H
  replace H := ifB H; rcases H with ⟨c4b0, H⟩ | ⟨c4b0, H⟩
  · replace H := ifN H; obtain ⟨c5b0, H⟩ := H
    replace H := ifN H; obtain ⟨c6b0, H⟩ := H
    replace H := bindA H; obtain ⟨t1059, A7, H⟩ := H
    replace H := ifX H; rcases H with ⟨rfl, H⟩ | ⟨rfl, H⟩
    · have H' := Aside0.mk H
      clear H
      have p1058 : 0 ≤ (x11_1 : Int) := OD
      have q1058 : x11_1 < (l0.length : Int) := OD
      obtain ⟨ad1058, e1058, hx1058_0⟩ := Kd.at_int HR0.out x11_1 p1058 q1058
      cases e1058
      replace p1058 := eq_true p1058
      replace q1058 := eq_true q1058
      go_wp2_with (first | ((with_reducible refine gate_callee (f := 58) rfl ?_); refine goesM (N := (some 18)) #[.int .i64 (rd l0 x11_1), .int .i64 a1, .int .i64 a2] Try.func58 ?_; (with_reducible refine (spec_l1In.calls (rd l0 x11_1) a1 a2 true _ A7.out).mono ?_); rintro e w' ⟨rfl, ⟨nd, rfl⟩⟩; refine ⟨_, rfl, ?_⟩))
      go_roundg k1
      case measure => have := HK1.out; omega
      case rel => exact ⟨(wrap64 (x11_1 + 1)), RG, H', ⟨by have := HK1.out; omega⟩, DR⟩
    obtain rfl := Option.some.inj H
    have p1058 : 0 ≤ (x11_1 : Int) := OD
    have q1058 : x11_1 < (l0.length : Int) := OD
    obtain ⟨ad1058, e1058, hx1058_0⟩ := Kd.at_int HR0.out x11_1 p1058 q1058
    cases e1058
    replace p1058 := eq_true p1058
    replace q1058 := eq_true q1058
    go_wp2_with (first | ((with_reducible refine gate_callee (f := 58) rfl ?_); refine goesM (N := (some 18)) #[.int .i64 (rd l0 x11_1), .int .i64 a1, .int .i64 a2] Try.func58 ?_; (with_reducible refine (spec_l1In.calls (rd l0 x11_1) a1 a2 false _ A7.out).mono ?_); rintro e w' ⟨rfl, ⟨nd, rfl⟩⟩; refine ⟨_, rfl, ?_⟩))
    go_ret
    exact ⟨RG, DR⟩
  obtain rfl := Option.some.inj H
  go_wp2
  go_ret
  exact ⟨RG, DR⟩
/-! ### spec_BoardWithBits: function 42 -/
def spec_BoardWithBits.f (k : Nat) (a0_0 : Int) (a0_1 : Int) (l0_2 : List (S73)) (l1 : List Int) : Option (Int × Int × (List (S73)) × Bool) := (spec_boGood.f k a0_0 a0_1 l0_2).bind fun t1062 => (if t1062 = true then ((spec_saUnits.f k a0_0 a0_1 l0_2).bind fun t1063 => (if (l1.length : Int) = (t1063.length : Int) then ((spec_l1All.f k l1 0 1).bind fun t1066 => (if t1066 = true then ((spec_saWith.f k a0_0 a0_1 l0_2 l1).bind fun bt1067 => (some (bt1067.1, bt1067.2.1, bt1067.2.2, true))) else (some (0, 0, ([] : List (S73)), false)))) else (some (0, 0, ([] : List (S73)), false)))) else (some (0, 0, ([] : List (S73)), false)))
theorem spec_BoardWithBits.mono : ∀ a0 a1 a2 a3 k, LeO (spec_BoardWithBits.f k a0 a1 a2 a3) (spec_BoardWithBits.f (k + 1) a0 a1 a2 a3) := by
  intro a0 a1 a2 a3 k
  unfold spec_BoardWithBits.f
  repeat' first
      | (with_reducible exact spec_boGood.mono _ _ _ _)
      | (with_reducible exact spec_l1All.mono _ _ _ _)
      | (with_reducible exact spec_saUnits.mono _ _ _ _)
      | (with_reducible exact spec_saWith.mono _ _ _ _ _)
      | (with_reducible exact LeO.refl _)
      | (with_reducible exact LeO.none _)
      | (with_reducible refine LeO.ite ?_ ?_)
      | (with_reducible refine LeO.bind ?_ (fun _ => ?_))
      | exact spec_boGood.mono _ _ _ _
      | exact spec_l1All.mono _ _ _ _
      | exact spec_saUnits.mono _ _ _ _
      | exact spec_saWith.mono _ _ _ _ _
      | exact LeO.none _
      | refine LeO.ite ?_ ?_
      | refine LeO.bind ?_ (fun _ => ?_)
set_option maxHeartbeats 8000000 in
set_option maxRecDepth 100000 in
theorem spec_BoardWithBits.calls (k : Nat) (a0_0 : Int) (a0_1 : Int) (A0_2 : Option Addr) (c0_2 : Nat) (l0_2 : List (S73)) (A1 : Option Addr) (c1 : Nat) (l1 : List Int) (r1 : Int) (r2 : Int) (r3 : List (S73)) (r4 : Bool) (w : World) (hr0_2 : Kd.C k73 w A0_2 l0_2.length l0_2) (hc0_2 : l0_2.length ≤ c0_2) (hr1 : Kd.C (Kd.int .i64) w A1 l1.length l1) (hc1 : l1.length ≤ c1) (h : spec_BoardWithBits.f k a0_0 a0_1 l0_2 l1 = some (r1, r2, r3, r4)) :
    Calls Try.prog 42 #[.agg #[.int .i64 a0_0, .int .i64 a0_1, .slice A0_2 l0_2.length c0_2], .slice A1 l1.length c1] w fun e w' => ∃ v2_ : Value, e = .returned (.tuple #[.agg #[.int .i64 r1, .int .i64 r2, v2_], .bool r4]) ∧ Kd.R k73 73 w' w.heap.size (fun _ => True) v2_ r3 ∧ Below w.heap.size w w' := by
  have hu30 := Try.underlying30
  have HR0_2 := Aside0.mk hr0_2
  have HC0_2 := Aside0.mk hc0_2
  clear hr0_2 hc0_2
  have HR1 := Aside0.mk hr1
  have HC1 := Aside0.mk hc1
  clear hr1 hc1
  have HB := Aside0.mk (Below.refl w.heap.size w)
  have H := h
  clear h
  unfold spec_BoardWithBits.f at H
  replace H := bindA H; obtain ⟨t1062, A3, H⟩ := H
  replace H := ifX H; rcases H with ⟨rfl, H⟩ | ⟨rfl, H⟩
  · replace H := bindA H; obtain ⟨t1063, A5, H⟩ := H
    replace H := ifQ H; rcases H with ⟨c6, H⟩ | ⟨c6, H⟩
    · have c6b0 := beq_iff_eq.mpr c6
      have c6b1 := bne_eq_false_iff_eq.mpr c6
      have c6b2 : (l1.length == t1063.length) = true := by first | simpa using c6 | (simp at c6 ⊢; omega)
      clear c6
      replace H := bindA H; obtain ⟨t1066, A7, H⟩ := H
      replace H := ifX H; rcases H with ⟨rfl, H⟩ | ⟨rfl, H⟩
      · replace H := bindA H; obtain ⟨⟨t1067, t1068, t1069⟩, A9, H⟩ := H
        dsimp only at H
        simp only [Option.some.injEq, Prod.mk.injEq] at H
        obtain ⟨rfl, rfl, rfl, rfl⟩ := H
        go_enter Try.func42, Try.ntmps42
        go_wp2_with (first | ((with_reducible refine gate_dst (N := 2) rfl ?_); (try (refine gate_guard (by rfl) ?_; dsimp only)); refine boxE (N := 2) (cs := #[.int .i64 a0_0, .int .i64 a0_1, .slice A0_2 l0_2.length c0_2]) (t := 30) ?_; intro gb1060 hg w10 hbox hb; refine E4b HB.out hg hbox hb ?_; clear HB; intro HB BK1060 GW1060 GE1060; clear hb hbox hg) | ((with_reducible refine gate_dst (N := 4) rfl ?_); (try (refine gate_guard (by rfl) ?_; dsimp only)); refine boxE (N := 4) (cs := #[.int .i64 0, .int .i64 0, .slice none 0 0]) (t := 30) ?_; intro gb1061 hg w11 hbox hb; refine E7 (bB BK1060.out hb) (below_step (BL HB.out) hb) (hbox) (gwM hg (below_size (BL HB.out)) : w.heap.size ≤ gb1061) (gwM hg (below_size (BL HB.out)) : w.heap.size ≤ gb1061) ((nB BK1060.out hg : gb1060 ≠ gb1061)) ((nC BK1060.out hg : gb1061 ≠ gb1060)) ?_; clear BK1060 HB; intro BK1060 HB BK1061 GW1061 GE1061 NB1060_1061 NB1061_1060; clear hb hbox hg; have hnb12 := NB1060_1061.out; have hnc12 := NB1061_1060.out; obtain ⟨hcz13_0, hcz13_1, hcz13_2, hfz13_0, hfz13_1, hfz13_2⟩ := cz3 BK1060.out) | ((with_reducible refine gate_callee (f := 46) rfl ?_); refine goesM (N := (some 7)) #[.agg #[.int .i64 a0_0, .int .i64 a0_1, .slice A0_2 l0_2.length c0_2]] Try.func46 ?_; (with_reducible refine (spec_boGood.calls k a0_0 a0_1 _ _ l0_2 true _ ?side1 ?side2 A3.out).mono ?_); (case side1 => exact CB (Kd.C_below HR0_2.out HB.out)); (case side2 => exact HC0_2.out); rintro e w14 ⟨rfl, hb⟩; refine ⟨_, rfl, ?_⟩; refine E3 (bB BK1060.out hb) (bB BK1061.out hb) (below_step (BL HB.out) hb) ?_; clear BK1060 BK1061 HB; intro BK1060 BK1061 HB; (try clear hb); (try clear hb2); (try clear hk); (try clear hi); obtain ⟨hcz15_0, hcz15_1, hcz15_2, hfz15_0, hfz15_1, hfz15_2⟩ := cz3 BK1060.out) | (go_at_call 59; (with_reducible refine (spec_saUnits.calls k a0_0 a0_1 _ _ l0_2 t1063 _ ?side1 ?side2 A5.out).mono ?_); (case side1 => exact CB (Kd.C_below HR0_2.out HB.out)); (case side2 => exact HC0_2.out); rintro e w16 ⟨v1064, rfl, ho0, hb⟩; refine E4 (Kd.S_lower ho0 (below_size (BL HB.out))) (bB BK1060.out hb) (bB BK1061.out hb) (below_step (BL HB.out) hb) ?_; clear BK1060 BK1061 HB; intro HO1065 BK1060 BK1061 HB; (try clear hb); (try clear hb2); (try clear hk); (try clear hi); (try clear ho0); obtain ⟨Ao17, co17, eo17⟩ := Kd.S_slice HO1065.out; subst eo17) | (go_at_call 72; (with_reducible refine (spec_l1All.calls k _ _ l1 0 1 true _ ?side1 ?side2 A7.out).mono ?_); (case side1 => exact CB (Kd.C_below HR1.out HB.out)); (case side2 => exact HC1.out); rintro e w' ⟨rfl, ⟨nd, rfl⟩⟩; (try (rw [drewN_self w16]; generalize hq_ : World.drewN w16 _ = w16; have n0_ : Aside0 (Kd.S (Kd.slice 3 (Kd.int .i64)) 36 w16 w.heap.size (fun _ => True) (.slice Ao17 t1063.length co17) t1063) := ⟨by rw [← hq_]; exact (PS HO1065.out)⟩; have n1_ : Aside0 (w16.heap[gb1060]? = some (.cells #[.int .i64 a0_0, .int .i64 a0_1, .slice A0_2 l0_2.length c0_2] 30 (0, 0))) := ⟨by rw [← hq_]; exact (PB BK1060.out)⟩; have n2_ : Aside0 (w16.heap[gb1061]? = some (.cells #[.int .i64 0, .int .i64 0, .slice none 0 0] 30 (0, 0))) := ⟨by rw [← hq_]; exact (PB BK1061.out)⟩; have n3_ : Aside0 (Below w.heap.size w w16) := ⟨by rw [← hq_]; exact (BL HB.out)⟩; clear HO1065 BK1060 BK1061 HB hq_; have HO1065 := n0_; have BK1060 := n1_; have BK1061 := n2_; have HB := n3_; clear n0_ n1_ n2_ n3_)); obtain ⟨hcz18_0, hcz18_1, hcz18_2, hfz18_0, hfz18_1, hfz18_2⟩ := cz3 BK1060.out) | ((with_reducible refine gate_callee (f := 68) rfl ?_); refine goesM (N := (some 25)) #[.agg #[.int .i64 a0_0, .int .i64 a0_1, .slice A0_2 l0_2.length c0_2], .slice A1 l1.length c1] Try.func68 ?_; (with_reducible refine (spec_saWith.calls k a0_0 a0_1 _ _ l0_2 _ _ l1 t1067 t1068 t1069 _ ?side1 ?side2 ?side3 ?side4 A9.out).mono ?_); (case side1 => exact CB (Kd.C_below HR0_2.out HB.out)); (case side2 => exact HC0_2.out); (case side3 => exact CB (Kd.C_below HR1.out HB.out)); (case side4 => exact HC1.out); rintro e w19 ⟨v1070, rfl, ho0, hb⟩; refine ⟨_, rfl, ?_⟩; refine E5 (Kd.S_below (PS HO1065.out) hb) (Kd.R_lower ho0 (below_size (BL HB.out))) (bB BK1060.out hb) (bB BK1061.out hb) (below_step (BL HB.out) hb) ?_; clear HO1065 BK1060 BK1061 HB; intro HO1065 HO1071 BK1060 BK1061 HB; (try clear hb); (try clear hb2); (try clear hk); (try clear hi); (try clear ho0); obtain ⟨hcz20_0, hcz20_1, hcz20_2, hfz20_0, hfz20_1, hfz20_2⟩ := cz3 BK1061.out; obtain ⟨Ao21, co21, eo21⟩ := Kd.R_slice HO1071.out; subst eo21))
        refine bodyPost_ret (results_ct rfl _ _ gb1061 30 #[.int .i64 t1067, .int .i64 t1068, .slice Ao21 t1069.length co21] (0, 0) _ rfl (by (with_reducible repeat (first | refine blk_drewN ?_ _ | refine blk_drew ?_ | refine blk_alloc ?_ _)); refine blk_put (cs := #[.int .i64 t1067, .int .i64 t1068, .slice none 0 0]) ?_ 2 _ rfl; (with_reducible repeat (first | refine blk_drewN ?_ _ | refine blk_drew ?_ | refine blk_alloc ?_ _)); refine blk_put (cs := #[.int .i64 t1067, .int .i64 0, .slice none 0 0]) ?_ 1 _ rfl; (with_reducible repeat (first | refine blk_drewN ?_ _ | refine blk_drew ?_ | refine blk_alloc ?_ _)); refine blk_put (cs := #[.int .i64 0, .int .i64 0, .slice none 0 0]) ?_ 0 _ rfl; (with_reducible repeat (first | refine blk_drewN ?_ _ | refine blk_drew ?_ | refine blk_alloc ?_ _)); exact BK1061.out) Try.underlying30 rfl (by kernel_rfl)) rfl ?_
        exact ⟨_, RF, by (with_reducible repeat (first | apply Kd.R_alloc | apply Kd.R_drewN | apply Kd.R_drew)); exact Kd.R_mono (Kd.R_far (p := ⟨gb1061, 2, none⟩) (Kd.R_far (p := ⟨gb1061, 1, none⟩) (Kd.R_far (p := ⟨gb1061, 0, none⟩) (Kd.R_types HO1071.out BK1061.out (by decide)) (fun _ hk => hk.2) (.int .i64 t1067)) (fun _ hk => hk.2) (.int .i64 t1068)) (fun _ hk => hk.2) (.slice Ao21 t1069.length co21)) (fun _ hk => trivial), BL HB.out⟩
      simp only [Option.some.injEq, Prod.mk.injEq] at H
      obtain ⟨rfl, rfl, rfl, rfl⟩ := H
      go_enter Try.func42, Try.ntmps42
      go_wp2_with (first | ((with_reducible refine gate_dst (N := 2) rfl ?_); (try (refine gate_guard (by rfl) ?_; dsimp only)); refine boxE (N := 2) (cs := #[.int .i64 a0_0, .int .i64 a0_1, .slice A0_2 l0_2.length c0_2]) (t := 30) ?_; intro gb1060 hg w22 hbox hb; refine E4b HB.out hg hbox hb ?_; clear HB; intro HB BK1060 GW1060 GE1060; clear hb hbox hg) | ((with_reducible refine gate_dst (N := 4) rfl ?_); (try (refine gate_guard (by rfl) ?_; dsimp only)); refine boxE (N := 4) (cs := #[.int .i64 0, .int .i64 0, .slice none 0 0]) (t := 30) ?_; intro gb1061 hg w23 hbox hb; refine E7 (bB BK1060.out hb) (below_step (BL HB.out) hb) (hbox) (gwM hg (below_size (BL HB.out)) : w.heap.size ≤ gb1061) (gwM hg (below_size (BL HB.out)) : w.heap.size ≤ gb1061) ((nB BK1060.out hg : gb1060 ≠ gb1061)) ((nC BK1060.out hg : gb1061 ≠ gb1060)) ?_; clear BK1060 HB; intro BK1060 HB BK1061 GW1061 GE1061 NB1060_1061 NB1061_1060; clear hb hbox hg; have hnb24 := NB1060_1061.out; have hnc24 := NB1061_1060.out; obtain ⟨hcz25_0, hcz25_1, hcz25_2, hfz25_0, hfz25_1, hfz25_2⟩ := cz3 BK1060.out) | ((with_reducible refine gate_callee (f := 46) rfl ?_); refine goesM (N := (some 7)) #[.agg #[.int .i64 a0_0, .int .i64 a0_1, .slice A0_2 l0_2.length c0_2]] Try.func46 ?_; (with_reducible refine (spec_boGood.calls k a0_0 a0_1 _ _ l0_2 true _ ?side1 ?side2 A3.out).mono ?_); (case side1 => exact CB (Kd.C_below HR0_2.out HB.out)); (case side2 => exact HC0_2.out); rintro e w26 ⟨rfl, hb⟩; refine ⟨_, rfl, ?_⟩; refine E3 (bB BK1060.out hb) (bB BK1061.out hb) (below_step (BL HB.out) hb) ?_; clear BK1060 BK1061 HB; intro BK1060 BK1061 HB; (try clear hb); (try clear hb2); (try clear hk); (try clear hi); obtain ⟨hcz27_0, hcz27_1, hcz27_2, hfz27_0, hfz27_1, hfz27_2⟩ := cz3 BK1060.out) | (go_at_call 59; (with_reducible refine (spec_saUnits.calls k a0_0 a0_1 _ _ l0_2 t1063 _ ?side1 ?side2 A5.out).mono ?_); (case side1 => exact CB (Kd.C_below HR0_2.out HB.out)); (case side2 => exact HC0_2.out); rintro e w28 ⟨v1064, rfl, ho0, hb⟩; refine E4 (Kd.S_lower ho0 (below_size (BL HB.out))) (bB BK1060.out hb) (bB BK1061.out hb) (below_step (BL HB.out) hb) ?_; clear BK1060 BK1061 HB; intro HO1065 BK1060 BK1061 HB; (try clear hb); (try clear hb2); (try clear hk); (try clear hi); (try clear ho0); obtain ⟨Ao29, co29, eo29⟩ := Kd.S_slice HO1065.out; subst eo29) | (go_at_call 72; (with_reducible refine (spec_l1All.calls k _ _ l1 0 1 false _ ?side1 ?side2 A7.out).mono ?_); (case side1 => exact CB (Kd.C_below HR1.out HB.out)); (case side2 => exact HC1.out); rintro e w' ⟨rfl, ⟨nd, rfl⟩⟩; (try (rw [drewN_self w28]; generalize hq_ : World.drewN w28 _ = w28; have n0_ : Aside0 (Kd.S (Kd.slice 3 (Kd.int .i64)) 36 w28 w.heap.size (fun _ => True) (.slice Ao29 t1063.length co29) t1063) := ⟨by rw [← hq_]; exact (PS HO1065.out)⟩; have n1_ : Aside0 (w28.heap[gb1060]? = some (.cells #[.int .i64 a0_0, .int .i64 a0_1, .slice A0_2 l0_2.length c0_2] 30 (0, 0))) := ⟨by rw [← hq_]; exact (PB BK1060.out)⟩; have n2_ : Aside0 (w28.heap[gb1061]? = some (.cells #[.int .i64 0, .int .i64 0, .slice none 0 0] 30 (0, 0))) := ⟨by rw [← hq_]; exact (PB BK1061.out)⟩; have n3_ : Aside0 (Below w.heap.size w w28) := ⟨by rw [← hq_]; exact (BL HB.out)⟩; clear HO1065 BK1060 BK1061 HB hq_; have HO1065 := n0_; have BK1060 := n1_; have BK1061 := n2_; have HB := n3_; clear n0_ n1_ n2_ n3_)); obtain ⟨hcz30_0, hcz30_1, hcz30_2, hfz30_0, hfz30_1, hfz30_2⟩ := cz3 BK1061.out))
      refine bodyPost_ret (results_ct rfl _ _ gb1061 30 #[.int .i64 0, .int .i64 0, .slice none 0 0] (0, 0) _ rfl (by (with_reducible repeat (first | refine blk_drewN ?_ _ | refine blk_drew ?_ | refine blk_alloc ?_ _)); refine blk_put (cs := #[.int .i64 0, .int .i64 0, .slice none 0 0]) ?_ 2 _ rfl; (with_reducible repeat (first | refine blk_drewN ?_ _ | refine blk_drew ?_ | refine blk_alloc ?_ _)); refine blk_put (cs := #[.int .i64 0, .int .i64 0, .slice none 0 0]) ?_ 1 _ rfl; (with_reducible repeat (first | refine blk_drewN ?_ _ | refine blk_drew ?_ | refine blk_alloc ?_ _)); refine blk_put (cs := #[.int .i64 0, .int .i64 0, .slice none 0 0]) ?_ 0 _ rfl; (with_reducible repeat (first | refine blk_drewN ?_ _ | refine blk_drew ?_ | refine blk_alloc ?_ _)); exact BK1061.out) Try.underlying30 rfl (by kernel_rfl)) rfl ?_
      exact ⟨_, RF, by first | exact Kd.R_nil _ _ _ _ _ | exact Kd.N_nil _ _ _ _ _ | exact Kd.V_nil _ _ _ _ _ | exact Kd.Q_nil _ _ _ _ _ | exact Kd.S_nil _ _ _ _ _, BL HB.out⟩
    have c6b0 := beq_eq_false_iff_ne.mpr c6
    have c6b1 := bne_iff_ne.mpr c6
    have c6b2 : (l1.length == t1063.length) = false := by first | simpa using c6 | (simp at c6 ⊢; omega)
    simp only [Option.some.injEq, Prod.mk.injEq] at H
    obtain ⟨rfl, rfl, rfl, rfl⟩ := H
    go_enter Try.func42, Try.ntmps42
    go_wp2_with (first | ((with_reducible refine gate_dst (N := 2) rfl ?_); (try (refine gate_guard (by rfl) ?_; dsimp only)); refine boxE (N := 2) (cs := #[.int .i64 a0_0, .int .i64 a0_1, .slice A0_2 l0_2.length c0_2]) (t := 30) ?_; intro gb1060 hg w31 hbox hb; refine E4b HB.out hg hbox hb ?_; clear HB; intro HB BK1060 GW1060 GE1060; clear hb hbox hg) | ((with_reducible refine gate_dst (N := 4) rfl ?_); (try (refine gate_guard (by rfl) ?_; dsimp only)); refine boxE (N := 4) (cs := #[.int .i64 0, .int .i64 0, .slice none 0 0]) (t := 30) ?_; intro gb1061 hg w32 hbox hb; refine E7 (bB BK1060.out hb) (below_step (BL HB.out) hb) (hbox) (gwM hg (below_size (BL HB.out)) : w.heap.size ≤ gb1061) (gwM hg (below_size (BL HB.out)) : w.heap.size ≤ gb1061) ((nB BK1060.out hg : gb1060 ≠ gb1061)) ((nC BK1060.out hg : gb1061 ≠ gb1060)) ?_; clear BK1060 HB; intro BK1060 HB BK1061 GW1061 GE1061 NB1060_1061 NB1061_1060; clear hb hbox hg; have hnb33 := NB1060_1061.out; have hnc33 := NB1061_1060.out; obtain ⟨hcz34_0, hcz34_1, hcz34_2, hfz34_0, hfz34_1, hfz34_2⟩ := cz3 BK1060.out) | ((with_reducible refine gate_callee (f := 46) rfl ?_); refine goesM (N := (some 7)) #[.agg #[.int .i64 a0_0, .int .i64 a0_1, .slice A0_2 l0_2.length c0_2]] Try.func46 ?_; (with_reducible refine (spec_boGood.calls k a0_0 a0_1 _ _ l0_2 true _ ?side1 ?side2 A3.out).mono ?_); (case side1 => exact CB (Kd.C_below HR0_2.out HB.out)); (case side2 => exact HC0_2.out); rintro e w35 ⟨rfl, hb⟩; refine ⟨_, rfl, ?_⟩; refine E3 (bB BK1060.out hb) (bB BK1061.out hb) (below_step (BL HB.out) hb) ?_; clear BK1060 BK1061 HB; intro BK1060 BK1061 HB; (try clear hb); (try clear hb2); (try clear hk); (try clear hi); obtain ⟨hcz36_0, hcz36_1, hcz36_2, hfz36_0, hfz36_1, hfz36_2⟩ := cz3 BK1060.out) | (go_at_call 59; (with_reducible refine (spec_saUnits.calls k a0_0 a0_1 _ _ l0_2 t1063 _ ?side1 ?side2 A5.out).mono ?_); (case side1 => exact CB (Kd.C_below HR0_2.out HB.out)); (case side2 => exact HC0_2.out); rintro e w37 ⟨v1064, rfl, ho0, hb⟩; refine E4 (Kd.S_lower ho0 (below_size (BL HB.out))) (bB BK1060.out hb) (bB BK1061.out hb) (below_step (BL HB.out) hb) ?_; clear BK1060 BK1061 HB; intro HO1065 BK1060 BK1061 HB; (try clear hb); (try clear hb2); (try clear hk); (try clear hi); (try clear ho0); obtain ⟨Ao38, co38, eo38⟩ := Kd.S_slice HO1065.out; subst eo38; obtain ⟨hcz39_0, hcz39_1, hcz39_2, hfz39_0, hfz39_1, hfz39_2⟩ := cz3 BK1061.out))
    refine bodyPost_ret (results_ct rfl _ _ gb1061 30 #[.int .i64 0, .int .i64 0, .slice none 0 0] (0, 0) _ rfl (by (with_reducible repeat (first | refine blk_drewN ?_ _ | refine blk_drew ?_ | refine blk_alloc ?_ _)); refine blk_put (cs := #[.int .i64 0, .int .i64 0, .slice none 0 0]) ?_ 2 _ rfl; (with_reducible repeat (first | refine blk_drewN ?_ _ | refine blk_drew ?_ | refine blk_alloc ?_ _)); refine blk_put (cs := #[.int .i64 0, .int .i64 0, .slice none 0 0]) ?_ 1 _ rfl; (with_reducible repeat (first | refine blk_drewN ?_ _ | refine blk_drew ?_ | refine blk_alloc ?_ _)); refine blk_put (cs := #[.int .i64 0, .int .i64 0, .slice none 0 0]) ?_ 0 _ rfl; (with_reducible repeat (first | refine blk_drewN ?_ _ | refine blk_drew ?_ | refine blk_alloc ?_ _)); exact BK1061.out) Try.underlying30 rfl (by kernel_rfl)) rfl ?_
    exact ⟨_, RF, by first | exact Kd.R_nil _ _ _ _ _ | exact Kd.N_nil _ _ _ _ _ | exact Kd.V_nil _ _ _ _ _ | exact Kd.Q_nil _ _ _ _ _ | exact Kd.S_nil _ _ _ _ _, BL HB.out⟩
  simp only [Option.some.injEq, Prod.mk.injEq] at H
  obtain ⟨rfl, rfl, rfl, rfl⟩ := H
  go_enter Try.func42, Try.ntmps42
  go_wp2_with (first | ((with_reducible refine gate_dst (N := 2) rfl ?_); (try (refine gate_guard (by rfl) ?_; dsimp only)); refine boxE (N := 2) (cs := #[.int .i64 a0_0, .int .i64 a0_1, .slice A0_2 l0_2.length c0_2]) (t := 30) ?_; intro gb1060 hg w40 hbox hb; refine E4b HB.out hg hbox hb ?_; clear HB; intro HB BK1060 GW1060 GE1060; clear hb hbox hg) | ((with_reducible refine gate_dst (N := 4) rfl ?_); (try (refine gate_guard (by rfl) ?_; dsimp only)); refine boxE (N := 4) (cs := #[.int .i64 0, .int .i64 0, .slice none 0 0]) (t := 30) ?_; intro gb1061 hg w41 hbox hb; refine E7 (bB BK1060.out hb) (below_step (BL HB.out) hb) (hbox) (gwM hg (below_size (BL HB.out)) : w.heap.size ≤ gb1061) (gwM hg (below_size (BL HB.out)) : w.heap.size ≤ gb1061) ((nB BK1060.out hg : gb1060 ≠ gb1061)) ((nC BK1060.out hg : gb1061 ≠ gb1060)) ?_; clear BK1060 HB; intro BK1060 HB BK1061 GW1061 GE1061 NB1060_1061 NB1061_1060; clear hb hbox hg; have hnb42 := NB1060_1061.out; have hnc42 := NB1061_1060.out; obtain ⟨hcz43_0, hcz43_1, hcz43_2, hfz43_0, hfz43_1, hfz43_2⟩ := cz3 BK1060.out) | ((with_reducible refine gate_callee (f := 46) rfl ?_); refine goesM (N := (some 7)) #[.agg #[.int .i64 a0_0, .int .i64 a0_1, .slice A0_2 l0_2.length c0_2]] Try.func46 ?_; (with_reducible refine (spec_boGood.calls k a0_0 a0_1 _ _ l0_2 false _ ?side1 ?side2 A3.out).mono ?_); (case side1 => exact CB (Kd.C_below HR0_2.out HB.out)); (case side2 => exact HC0_2.out); rintro e w44 ⟨rfl, hb⟩; refine ⟨_, rfl, ?_⟩; refine E3 (bB BK1060.out hb) (bB BK1061.out hb) (below_step (BL HB.out) hb) ?_; clear BK1060 BK1061 HB; intro BK1060 BK1061 HB; (try clear hb); (try clear hb2); (try clear hk); (try clear hi); obtain ⟨hcz45_0, hcz45_1, hcz45_2, hfz45_0, hfz45_1, hfz45_2⟩ := cz3 BK1061.out))
  refine bodyPost_ret (results_ct rfl _ _ gb1061 30 #[.int .i64 0, .int .i64 0, .slice none 0 0] (0, 0) _ rfl (by (with_reducible repeat (first | refine blk_drewN ?_ _ | refine blk_drew ?_ | refine blk_alloc ?_ _)); refine blk_put (cs := #[.int .i64 0, .int .i64 0, .slice none 0 0]) ?_ 2 _ rfl; (with_reducible repeat (first | refine blk_drewN ?_ _ | refine blk_drew ?_ | refine blk_alloc ?_ _)); refine blk_put (cs := #[.int .i64 0, .int .i64 0, .slice none 0 0]) ?_ 1 _ rfl; (with_reducible repeat (first | refine blk_drewN ?_ _ | refine blk_drew ?_ | refine blk_alloc ?_ _)); refine blk_put (cs := #[.int .i64 0, .int .i64 0, .slice none 0 0]) ?_ 0 _ rfl; (with_reducible repeat (first | refine blk_drewN ?_ _ | refine blk_drew ?_ | refine blk_alloc ?_ _)); exact BK1061.out) Try.underlying30 rfl (by kernel_rfl)) rfl ?_
  exact ⟨_, RF, by first | exact Kd.R_nil _ _ _ _ _ | exact Kd.N_nil _ _ _ _ _ | exact Kd.V_nil _ _ _ _ _ | exact Kd.Q_nil _ _ _ _ _ | exact Kd.S_nil _ _ _ _ _, BL HB.out⟩

/-! ### laws_toIntS: function 43 -/
def laws_toIntS.l0 : Nat → List Int → List Int → Int → Option (List Int)
  | 0, _, _, _ => none
  | k + 1, x0, x3, x4 => if x4 < (x0.length : Int) then (if 0 ≤ x4 then (if x4 < (x3.length : Int) then (laws_toIntS.l0 k x0 (x3.set (x4 : Int).toNat (rd x0 x4)) (wrap64 (x4 + 1))) else (none)) else (none)) else (some x3)
def laws_toIntS.f (k : Nat) (l0 : List Int) : Option (List Int) := if 0 ≤ (l0.length : Int) then (if ((l0.length : Int) : Int).toNat ≤ 35184372088832 then (laws_toIntS.l0 k l0 (List.replicate ((l0.length : Int) : Int).toNat 0) 0) else (none)) else (none)
theorem laws_toIntS.mono_l : ∀ k, (∀ y0 y1 y2, LeO (laws_toIntS.l0 k y0 y1 y2) (laws_toIntS.l0 (k + 1) y0 y1 y2))
  | 0 => fun _ _ _ r h => by simp [laws_toIntS.l0] at h
  | k + 1 => by
    have ih0 := laws_toIntS.mono_l k
    intros
    first | unfold laws_toIntS.l0
    repeat' first | (with_reducible first | apply ih0 | exact LeO.refl _ | exact LeO.none _ | refine LeO.ite ?_ ?_ | refine LeO.bind ?_ (fun _ => ?_)) | apply ih0 | exact LeO.none _ | refine LeO.ite ?_ ?_ | refine LeO.bind ?_ (fun _ => ?_)
theorem laws_toIntS.mono : ∀ a0 k, LeO (laws_toIntS.f k a0) (laws_toIntS.f (k + 1) a0) := by
  intro a0 k
  have ih0 := laws_toIntS.mono_l k
  unfold laws_toIntS.f
  repeat' first | (with_reducible first | apply ih0 | exact LeO.refl _ | exact LeO.none _ | refine LeO.ite ?_ ?_ | refine LeO.bind ?_ (fun _ => ?_)) | apply ih0 | exact LeO.none _ | refine LeO.ite ?_ ?_ | refine LeO.bind ?_ (fun _ => ?_)
set_option maxHeartbeats 8000000 in
set_option maxRecDepth 100000 in
theorem laws_toIntS.calls (k : Nat) (A0 : Option Addr) (c0 : Nat) (l0 : List Int) (r : List Int) (w : World) (hr0 : Kd.C (Kd.int .i64) w A0 l0.length l0) (hc0 : l0.length ≤ c0) (h : laws_toIntS.f k l0 = some r) :
    Calls Try.prog 43 #[.slice A0 l0.length c0] w fun e w' => ∃ v0_ : Value, e = .returned (v0_) ∧ Kd.R (Kd.int .i64) 3 w' w.heap.size (fun _ => True) v0_ r ∧ Below w.heap.size w w' := by
  have HR0 := Aside0.mk hr0
  have HC0 := Aside0.mk hc0
  clear hr0 hc0
  have HB := Aside0.mk (Below.refl w.heap.size w)
  have H := h
  clear h
  unfold laws_toIntS.f at H
  replace H := ifP H; obtain ⟨c2, H⟩ := H
  have c2b0 := eq_true c2
  have c2b1 := decide_eq_true c2
  clear c2
  replace H := ifP H; obtain ⟨c3, H⟩ := H
  have c3b0 := eq_true c3
  have c3b1 := decide_eq_true c3
  clear c3
  generalize hy1072 : ((List.replicate ((l0.length : Int) : Int).toNat 0) : List Int) = y1072 at H
  have Ny1072 := Aside0.mk hy1072.symm; clear hy1072
  have H' := Aside0.mk H
  clear H
  go_enter Try.func43, Try.ntmps43
  go_wp2_with (first | ((with_reducible refine gate_dst (N := 7) rfl ?_); refine Kd.R_make (Kd.int .i64) _ 3 rfl (N := 7) rfl 36 _ _ rfl (l0.length : Int) rfl rfl Try.underlying36 (.int .i64 0) 8 info3 rfl (by decide) (by omega) 0 (ok := fun _ => True) (okp := fun _ => True) rfl (fun _ hk => hk) trivial (OD) (Nat.le_trans (Nat.mul_le_mul_right _ (OD : (l0.length : Int).toNat ≤ 35184372088832)) (by omega)) (Below.refl _ _) (Nat.le_refl _) ?_; intro v1073 w4 ho5 hb hg_ hnew_; clear hg_ hnew_; (first | rw [← Ny1072.out] at ho5 | (simp only [Int.reduceToNat] at ho5; rw [← Ny1072.out] at ho5)); refine E2 (Kd.R_lower ho5 (below_size (BL HB.out))) (below_step (BL HB.out) hb) ?_; clear HB; intro HO1074 HB; clear hb ho5))
  go_loopg [4] k (fun kq v4 w' => ∃ (x3_1 : List Int) (x4_1 : Int), v4 = .int .i64 x4_1 ∧ Aside0 (laws_toIntS.l0 kq l0 x3_1 x4_1 = some r) ∧ Aside0 (kq ≤ k) ∧ Aside0 (Kd.R (Kd.int .i64) 3 w' w.heap.size (fun _ => True) v1073 x3_1) ∧ Aside0 (Below w.heap.size w w'))
  case atStart => exact ⟨(y1072), (0), RG, H', ⟨Nat.le_refl _⟩, ⟨PR HO1074.out⟩, ⟨BL HB.out⟩⟩
  clear H'
  try clear c2b0; try clear c2b1; try clear c3b0; try clear c3b1
  obtain ⟨x3_1, x4_1, rfl, HA, HK1, HO_3, HB⟩ := hrel
  cases gk with
  | zero => exact absurd HA.out (by simp [laws_toIntS.l0])
  | succ k1 => ?_
  have H := HA.out
  clear HA
  simp only [laws_toIntS.l0] at H
  replace H := ifB H; rcases H with ⟨c6b0, H⟩ | ⟨c6b0, H⟩
  · replace H := ifN H; obtain ⟨c7b0, H⟩ := H
    replace H := ifN H; obtain ⟨c8b0, H⟩ := H
    generalize hy1076 : ((x3_1.set (x4_1 : Int).toNat (rd l0 x4_1)) : List Int) = y1076 at H
    have Ny1076 := Aside0.mk hy1076.symm; clear hy1076
    have H' := Aside0.mk H
    clear H
    have p1075 : 0 ≤ (x4_1 : Int) := OD
    have q1075 : x4_1 < (l0.length : Int) := OD
    obtain ⟨ad1075, e1075, hx1075_0⟩ := Kd.at_int HR0.out x4_1 p1075 q1075
    cases e1075
    replace hx1075_0 := (HB.out.cell (World.block_lt_of_cell? w _ hx1075_0)).trans hx1075_0
    replace p1075 := eq_true p1075
    replace q1075 := eq_true q1075
    have p9 : 0 ≤ (x4_1 : Int) := OD
    have q9 : (x4_1 : Int) < ((x3_1.length : Int) : Int) := OD
    obtain ⟨go9, co9, eo9, gb9, gl9, cl9, HG9⟩ := Kd.R_form HO_3.out (by omega)
    (first | cases eo9 | (injection eo9 with ea_ en_ ec_; (first | subst ea_ | (injection ea_ with ea_; subst ea_)); subst ec_; clear en_))
    have GB9 := Aside0.mk gb9
    have GG9 := Aside0.mk HG9
    clear gb9 gl9 HG9
    obtain ⟨hx9_0, hf9_0⟩ := Kd.R_celln 0 HO_3.out (x4_1 : Int) p9 q9
    replace p9 := eq_true p9
    replace q9 := eq_true q9
    have HP10 := Kd.R_putg HO_3.out (x4_1 : Int) (rd l0 x4_1)
    go_wp2_with (first | ((with_reducible refine gate_store (t := 3) (p := 20) rfl ?_); refine storeE (t := 3) (p := 20) (w1 := (wr.setCell ⟨go9, (x4_1 : Int).toNat, none⟩ (.int .i64 (rd l0 x4_1)))) ?_; intro w11 hw; have hg : wr.grownBy w11 (some go9) := (by rw [hw]; exact HP10.2); have hp_ : Kd.R (Kd.int .i64) 3 w11 w.heap.size (fun _ => True) (.slice (some ⟨go9, 0, none⟩) x3_1.length co9) y1076 := (by rw [hw, Ny1076.out]; exact HP10.1); clear HP10; refine E2 (hp_) ((by rw [hw]; exact below_set (HB.out) GB9.out : Below w.heap.size w w11)) ?_; clear HO_3 HB; intro HO_3 HB; clear hg hw hp_))
    go_roundg k1
    case measure => have := HK1.out; omega
    case rel => exact ⟨(y1076), (wrap64 (x4_1 + 1)), RG, H', ⟨by have := HK1.out; omega⟩, ⟨PR HO_3.out⟩, ⟨BL HB.out⟩⟩
  obtain rfl := Option.some.inj H
  go_wp2
  go_ret
  exact ⟨_, RF, by (with_reducible repeat (first | apply Kd.R_alloc | apply Kd.R_drewN | apply Kd.R_drew)); exact HO_3.out, BL HB.out⟩
/-! ### impl_areBits: function 73 -/
def impl_areBits.l0 : Nat → List Int → Int → Int → Option (Bool)
  | 0, _, _, _ => none
  | k + 1, x5, x6, x7 => if x7 < x6 then (if 0 ≤ x7 then (if x7 < (x5.length : Int) then (if (rd x5 x7) = 0 then (impl_areBits.l0 k x5 x6 (wrap64 (x7 + 1))) else (if (rd x5 x7) = 1 then (impl_areBits.l0 k x5 x6 (wrap64 (x7 + 1))) else (some false))) else (none)) else (none)) else (some true)
def impl_areBits.f (k : Nat) (l0 : List Int) : Option (Bool) := impl_areBits.l0 k l0 (l0.length : Int) 0
theorem impl_areBits.mono_l : ∀ k, (∀ y0 y1 y2, LeO (impl_areBits.l0 k y0 y1 y2) (impl_areBits.l0 (k + 1) y0 y1 y2))
  | 0 => fun _ _ _ r h => by simp [impl_areBits.l0] at h
  | k + 1 => by
    have ih0 := impl_areBits.mono_l k
    intros
    first | unfold impl_areBits.l0
    repeat' first | (with_reducible first | apply ih0 | exact LeO.refl _ | exact LeO.none _ | refine LeO.ite ?_ ?_ | refine LeO.bind ?_ (fun _ => ?_)) | apply ih0 | exact LeO.none _ | refine LeO.ite ?_ ?_ | refine LeO.bind ?_ (fun _ => ?_)
theorem impl_areBits.mono : ∀ a0 k, LeO (impl_areBits.f k a0) (impl_areBits.f (k + 1) a0) := by
  intro a0 k
  have ih0 := impl_areBits.mono_l k
  unfold impl_areBits.f
  repeat' first | (with_reducible first | apply ih0 | exact LeO.refl _ | exact LeO.none _ | refine LeO.ite ?_ ?_ | refine LeO.bind ?_ (fun _ => ?_)) | apply ih0 | exact LeO.none _ | refine LeO.ite ?_ ?_ | refine LeO.bind ?_ (fun _ => ?_)
set_option maxHeartbeats 8000000 in
set_option maxRecDepth 100000 in
theorem impl_areBits.calls (k : Nat) (A0 : Option Addr) (c0 : Nat) (l0 : List Int) (r : Bool) (w : World) (hr0 : Kd.C (Kd.int .i64) w A0 l0.length l0) (hc0 : l0.length ≤ c0) (h : impl_areBits.f k l0 = some r) :
    Calls Try.prog 73 #[.slice A0 l0.length c0] w fun e w' => e = .returned (.bool r) ∧ Drawn0 w w' := by
  have HR0 := Aside0.mk hr0
  have HC0 := Aside0.mk hc0
  clear hr0 hc0
  have H := h
  clear h
  unfold impl_areBits.f at H
  have H' := Aside0.mk H
  clear H
  go_enter Try.func73, Try.ntmps73
  go_wp2
  go_loopg [7] k (fun kq v7 w' => ∃ (x7_1 : Int), v7 = .int .i64 x7_1 ∧ Aside0 (impl_areBits.l0 kq l0 (l0.length : Int) x7_1 = some r) ∧ Aside0 (kq ≤ k) ∧ Drawn0 w w')
  case atStart => exact ⟨(0), RG, H', ⟨Nat.le_refl _⟩, DR⟩
  clear H'
  obtain ⟨x7_1, rfl, HA, HK1, ⟨m1, rfl⟩⟩ := hrel
  cases gk with
  | zero => exact absurd HA.out (by simp [impl_areBits.l0])
  | succ k1 => ?_
  have H := HA.out
  clear HA
  simp only [impl_areBits.l0] at H
  replace H := ifB H; rcases H with ⟨c2b0, H⟩ | ⟨c2b0, H⟩
  · replace H := ifN H; obtain ⟨c3b0, H⟩ := H
    replace H := ifN H; obtain ⟨c4b0, H⟩ := H
    replace H := ifQ H; rcases H with ⟨c5, H⟩ | ⟨c5, H⟩
    · have c5b0 := beq_iff_eq.mpr c5
      have c5b1 := bne_eq_false_iff_eq.mpr c5
      clear c5
      have H' := Aside0.mk H
      clear H
      have p1077 : 0 ≤ (x7_1 : Int) := OD
      have q1077 : x7_1 < (l0.length : Int) := OD
      obtain ⟨ad1077, e1077, hx1077_0⟩ := Kd.at_int HR0.out x7_1 p1077 q1077
      cases e1077
      replace p1077 := eq_true p1077
      replace q1077 := eq_true q1077
      go_wp2
      go_roundg k1
      case measure => have := HK1.out; omega
      case rel => exact ⟨(wrap64 (x7_1 + 1)), RG, H', ⟨by have := HK1.out; omega⟩, DR⟩
    have c5b0 := beq_eq_false_iff_ne.mpr c5
    have c5b1 := bne_iff_ne.mpr c5
    replace H := ifQ H; rcases H with ⟨c6, H⟩ | ⟨c6, H⟩
    · have c6b0 := beq_iff_eq.mpr c6
      have c6b1 := bne_eq_false_iff_eq.mpr c6
      clear c6
      have H' := Aside0.mk H
      clear H
      have p1077 : 0 ≤ (x7_1 : Int) := OD
      have q1077 : x7_1 < (l0.length : Int) := OD
      obtain ⟨ad1077, e1077, hx1077_0⟩ := Kd.at_int HR0.out x7_1 p1077 q1077
      cases e1077
      replace p1077 := eq_true p1077
      replace q1077 := eq_true q1077
      go_wp2
      go_roundg k1
      case measure => have := HK1.out; omega
      case rel => exact ⟨(wrap64 (x7_1 + 1)), RG, H', ⟨by have := HK1.out; omega⟩, DR⟩
    have c6b0 := beq_eq_false_iff_ne.mpr c6
    have c6b1 := bne_iff_ne.mpr c6
    obtain rfl := Option.some.inj H
    have p1077 : 0 ≤ (x7_1 : Int) := OD
    have q1077 : x7_1 < (l0.length : Int) := OD
    obtain ⟨ad1077, e1077, hx1077_0⟩ := Kd.at_int HR0.out x7_1 p1077 q1077
    cases e1077
    replace p1077 := eq_true p1077
    replace q1077 := eq_true q1077
    go_wp2
    go_ret
    exact ⟨RG, DR⟩
  obtain rfl := Option.some.inj H
  go_wp2
  go_ret
  exact ⟨RG, DR⟩
/-! ### impl_BoardWithBits: function 44 -/
def impl_BoardWithBits.j0 : Nat → List Int → List (List Int) → Bool → Int → Int → List (S73) → Option (Int × Int × (List (S73)) × Bool)
  | 0, _, _, _, _, _, _ => none
  | k + 1, x1, x6, x23, x1079000, x1079001, x1079002 => if x23 = true then (some (0, 0, ([] : List (S73)), false)) else ((impl_copyBoard.f x1079000 x1079001 x1079002).bind fun bt1085 => ((impl_setBits.f k bt1085.1 bt1085.2.1 bt1085.2.2 x6 x1).bind fun t1091 => (some (bt1085.1, bt1085.2.1, t1091, true))))
def impl_BoardWithBits.f (k : Nat) (a0_0 : Int) (a0_1 : Int) (l0_2 : List (S73)) (l1 : List Int) : Option (Int × Int × (List (S73)) × Bool) := (impl_IsBoard.f k a0_0 a0_1 l0_2).bind fun t1080 => (if t1080 = true then ((impl_unitsOf.f k a0_0 a0_1 l0_2).bind fun t1081 => (if (l1.length : Int) = (t1081.length : Int) then ((impl_areBits.f k l1).bind fun t1084 => (impl_BoardWithBits.j0 k l1 t1081 (!t1084) a0_0 a0_1 l0_2)) else (impl_BoardWithBits.j0 k l1 t1081 true a0_0 a0_1 l0_2))) else (some (0, 0, ([] : List (S73)), false)))
theorem impl_BoardWithBits.mono_l : ∀ k, (∀ y0 y1 y2 y3 y4 y5, LeO (impl_BoardWithBits.j0 k y0 y1 y2 y3 y4 y5) (impl_BoardWithBits.j0 (k + 1) y0 y1 y2 y3 y4 y5))
  | 0 => fun _ _ _ _ _ _ r h => by simp [impl_BoardWithBits.j0] at h
  | k + 1 => by
    have ih0 := impl_BoardWithBits.mono_l k
    intros
    first | unfold impl_BoardWithBits.j0
    repeat' first | (with_reducible first | apply ih0 | apply impl_IsBoard.mono | apply impl_areBits.mono | apply impl_setBits.mono | apply impl_unitsOf.mono | exact LeO.refl _ | exact LeO.none _ | refine LeO.ite ?_ ?_ | refine LeO.bind ?_ (fun _ => ?_)) | apply ih0 | apply impl_IsBoard.mono | apply impl_areBits.mono | apply impl_setBits.mono | apply impl_unitsOf.mono | exact LeO.none _ | refine LeO.ite ?_ ?_ | refine LeO.bind ?_ (fun _ => ?_)
theorem impl_BoardWithBits.mono : ∀ a0 a1 a2 a3 k, LeO (impl_BoardWithBits.f k a0 a1 a2 a3) (impl_BoardWithBits.f (k + 1) a0 a1 a2 a3) := by
  intro a0 a1 a2 a3 k
  have ih0 := impl_BoardWithBits.mono_l k
  unfold impl_BoardWithBits.f
  repeat' first | (with_reducible first | apply ih0 | apply impl_IsBoard.mono | apply impl_areBits.mono | apply impl_setBits.mono | apply impl_unitsOf.mono | exact LeO.refl _ | exact LeO.none _ | refine LeO.ite ?_ ?_ | refine LeO.bind ?_ (fun _ => ?_)) | apply ih0 | apply impl_IsBoard.mono | apply impl_areBits.mono | apply impl_setBits.mono | apply impl_unitsOf.mono | exact LeO.none _ | refine LeO.ite ?_ ?_ | refine LeO.bind ?_ (fun _ => ?_)
set_option maxHeartbeats 8000000 in
set_option maxRecDepth 100000 in
theorem impl_BoardWithBits.calls (k : Nat) (a0_0 : Int) (a0_1 : Int) (A0_2 : Option Addr) (c0_2 : Nat) (l0_2 : List (S73)) (A1 : Option Addr) (c1 : Nat) (l1 : List Int) (r1 : Int) (r2 : Int) (r3 : List (S73)) (r4 : Bool) (w : World) (hr0_2 : Kd.C k73 w A0_2 l0_2.length l0_2) (hc0_2 : l0_2.length ≤ c0_2) (hr1 : Kd.C (Kd.int .i64) w A1 l1.length l1) (hc1 : l1.length ≤ c1) (h : impl_BoardWithBits.f k a0_0 a0_1 l0_2 l1 = some (r1, r2, r3, r4)) :
    Calls Try.prog 44 #[.agg #[.int .i64 a0_0, .int .i64 a0_1, .slice A0_2 l0_2.length c0_2], .slice A1 l1.length c1] w fun e w' => ∃ v2_ : Value, e = .returned (.tuple #[.agg #[.int .i64 r1, .int .i64 r2, v2_], .bool r4]) ∧ Kd.R k73 73 w' w.heap.size (fun _ => True) v2_ r3 ∧ Below w.heap.size w w' := by
  have hu30 := Try.underlying30
  have HR0_2 := Aside0.mk hr0_2
  have HC0_2 := Aside0.mk hc0_2
  clear hr0_2 hc0_2
  have HR1 := Aside0.mk hr1
  have HC1 := Aside0.mk hc1
  clear hr1 hc1
  have HB := Aside0.mk (Below.refl w.heap.size w)
  have H := h
  clear h
  unfold impl_BoardWithBits.f at H
  replace H := bindA H; obtain ⟨t1080, A3, H⟩ := H
  replace H := ifX H; rcases H with ⟨rfl, H⟩ | ⟨rfl, H⟩
  · replace H := bindA H; obtain ⟨t1081, A5, H⟩ := H
    have HC6 := Aside0.mk H
    clear H
    go_enter Try.func44, Try.ntmps44
    go_upto_region 4 with (first | ((with_reducible refine gate_dst (N := 2) rfl ?_); refine boxE (N := 2) (cs := #[.int .i64 a0_0, .int .i64 a0_1, .slice A0_2 l0_2.length c0_2]) (t := 30) ?_; intro gb1078 hg w7 hbox hb; refine E4b HB.out hg hbox hb ?_; clear HB; intro HB BK1078 GW1078 GE1078; clear hb hbox hg) | ((with_reducible refine gate_dst (N := 4) rfl ?_); refine boxE (N := 4) (cs := #[.int .i64 0, .int .i64 0, .slice none 0 0]) (t := 30) ?_; intro gb1079 hg w8 hbox hb; refine E7 (bB BK1078.out hb) (below_step (BL HB.out) hb) (hbox) (gwM hg (below_size (BL HB.out)) : w.heap.size ≤ gb1079) (gwM hg (below_size (BL HB.out)) : w.heap.size ≤ gb1079) ((nB BK1078.out hg : gb1078 ≠ gb1079)) ((nC BK1078.out hg : gb1079 ≠ gb1078)) ?_; clear BK1078 HB; intro BK1078 HB BK1079 GW1079 GE1079 NB1078_1079 NB1079_1078; clear hb hbox hg; have hnb9 := NB1078_1079.out; have hnc9 := NB1079_1078.out; obtain ⟨hcz10_0, hcz10_1, hcz10_2, hfz10_0, hfz10_1, hfz10_2⟩ := cz3 BK1078.out) | ((with_reducible refine gate_callee (f := 50) rfl ?_); refine goesM (N := (some 9)) #[.agg #[.int .i64 a0_0, .int .i64 a0_1, .slice A0_2 l0_2.length c0_2]] Try.func50 ?_; (with_reducible refine (impl_IsBoard.calls k a0_0 a0_1 _ _ l0_2 true _ ?side1 ?side2 A3.out).mono ?_); (case side1 => exact CB (Kd.C_below HR0_2.out HB.out)); (case side2 => exact HC0_2.out); rintro e w11 ⟨rfl, hb⟩; refine ⟨_, rfl, ?_⟩; refine E3 (bB BK1078.out hb) (bB BK1079.out hb) (below_step (BL HB.out) hb) ?_; clear BK1078 BK1079 HB; intro BK1078 BK1079 HB; (try clear hb); (try clear hb2); (try clear hk); (try clear hi); obtain ⟨hcz12_0, hcz12_1, hcz12_2, hfz12_0, hfz12_1, hfz12_2⟩ := cz3 BK1078.out) | ((with_reducible refine gate_callee (f := 62) rfl ?_); refine goesM (N := (some 13)) #[.agg #[.int .i64 a0_0, .int .i64 a0_1, .slice A0_2 l0_2.length c0_2]] Try.func62 ?_; (with_reducible refine (impl_unitsOf.calls k a0_0 a0_1 _ _ l0_2 t1081 _ ?side1 ?side2 A5.out).mono ?_); (case side1 => exact CB (Kd.C_below HR0_2.out HB.out)); (case side2 => exact HC0_2.out); rintro e w13 ⟨v1082, rfl, ho0, hb⟩; refine ⟨_, rfl, ?_⟩; refine E4 (Kd.S_lower ho0 (below_size (BL HB.out))) (bB BK1078.out hb) (bB BK1079.out hb) (below_step (BL HB.out) hb) ?_; clear BK1078 BK1079 HB; intro HO1083 BK1078 BK1079 HB; (try clear hb); (try clear hb2); (try clear hk); (try clear hi); (try clear ho0)))
    (try simp only [Act.put, List.setIfInBounds_toArray, List.set_cons_zero, List.set_cons_succ])
    go_cut [23] (fun v23 wc => ∃ (kq : Nat) (x23_5 : Bool), v23 = .bool x23_5 ∧ Aside0 (impl_BoardWithBits.j0 kq l1 t1081 x23_5 a0_0 a0_1 l0_2 = some (r1, r2, r3, r4)) ∧ Aside0 (kq ≤ k) ∧ Aside0 (Kd.S (Kd.slice 3 (Kd.int .i64)) 36 wc w.heap.size (fun _ => True) v1082 t1081) ∧ Aside0 (wc.heap[gb1078]? = some (.cells #[.int .i64 a0_0, .int .i64 a0_1, (.slice A0_2 l0_2.length c0_2)] 30 (0, 0))) ∧ Aside0 (wc.heap[gb1079]? = some (.cells #[.int .i64 0, .int .i64 0, (.slice none 0 0)] 30 (0, 0))) ∧ Aside0 (Below w.heap.size w wc))
    case first =>
      have H := HC6.out
      clear HC6
      replace H := ifQ H; rcases H with ⟨c14, H⟩ | ⟨c14, H⟩
      · have c14b0 := beq_iff_eq.mpr c14
        have c14b1 := bne_eq_false_iff_eq.mpr c14
        have c14b2 : (l1.length == t1081.length) = true := by first | simpa using c14 | (simp at c14 ⊢; omega)
        clear c14
        (first | rw [c14b0] | (simp only [i64_w, i32_w]; rw [c14b0]) | skip)
        replace H := bindA H; obtain ⟨t1084, A15, H⟩ := H
        have H' := Aside0.mk H
        clear H
        obtain ⟨Ao16, co16, eo16⟩ := Kd.S_slice HO1083.out
        subst eo16
        go_wp2_with (first | (go_at_call 73; (with_reducible refine (impl_areBits.calls k _ _ l1 t1084 _ ?side1 ?side2 A15.out).mono ?_); (case side1 => exact CB (Kd.C_below HR1.out HB.out)); (case side2 => exact HC1.out); rintro e w' ⟨rfl, ⟨nd, rfl⟩⟩))
        go_meet
        case rel => exact ⟨_, (!t1084), RG, H', ⟨by first | omega | exact Nat.le_refl _⟩, ⟨PS HO1083.out⟩, ⟨PB BK1078.out⟩, ⟨PB BK1079.out⟩, ⟨BL HB.out⟩⟩
      have c14b0 := beq_eq_false_iff_ne.mpr c14
      have c14b1 := bne_iff_ne.mpr c14
      have c14b2 : (l1.length == t1081.length) = false := by first | simpa using c14 | (simp at c14 ⊢; omega)
      (first | rw [c14b0] | (simp only [i64_w, i32_w]; rw [c14b0]) | skip)
      have H' := Aside0.mk H
      clear H
      obtain ⟨Ao17, co17, eo17⟩ := Kd.S_slice HO1083.out
      subst eo17
      go_wp2
      go_meet
      case rel => exact ⟨_, (true), RG, H', ⟨by first | omega | exact Nat.le_refl _⟩, ⟨PS HO1083.out⟩, ⟨PB BK1078.out⟩, ⟨PB BK1079.out⟩, ⟨BL HB.out⟩⟩
    clear HC6
    try clear c1; try clear hcz10_0; try clear hcz10_1; try clear hcz10_2; try clear hcz12_0; try clear hcz12_1; try clear hcz12_2; try clear hfz10_0; try clear hfz10_1; try clear hfz10_2; try clear hfz12_0; try clear hfz12_1; try clear hfz12_2
    obtain ⟨kq, x23_5, rfl, HA, HJ5, HO_6, BK1078, BK1079, HB⟩ := hcut
    cases kq with
    | zero => exact absurd HA.out (by simp [impl_BoardWithBits.j0])
    | succ kj5 => ?_
    have H := HA.out
    clear HA
    simp only [impl_BoardWithBits.j0] at H
    replace H := ifX H; rcases H with ⟨rfl, H⟩ | ⟨rfl, H⟩
    · simp only [Option.some.injEq, Prod.mk.injEq] at H
      obtain ⟨rfl, rfl, rfl, rfl⟩ := H
      have hnb19 := NB1079_1078.out
      have hnc19 := NB1078_1079.out
      obtain ⟨hcz20_0, hcz20_1, hcz20_2, hfz20_0, hfz20_1, hfz20_2⟩ := cz3 BK1079.out
      go_wp2
      refine bodyPost_ret (results_ct rfl _ _ gb1079 30 #[.int .i64 0, .int .i64 0, .slice none 0 0] (0, 0) _ rfl (by (with_reducible repeat (first | refine blk_drewN ?_ _ | refine blk_drew ?_ | refine blk_alloc ?_ _)); refine blk_put (cs := #[.int .i64 0, .int .i64 0, .slice none 0 0]) ?_ 2 _ rfl; (with_reducible repeat (first | refine blk_drewN ?_ _ | refine blk_drew ?_ | refine blk_alloc ?_ _)); refine blk_put (cs := #[.int .i64 0, .int .i64 0, .slice none 0 0]) ?_ 1 _ rfl; (with_reducible repeat (first | refine blk_drewN ?_ _ | refine blk_drew ?_ | refine blk_alloc ?_ _)); refine blk_put (cs := #[.int .i64 0, .int .i64 0, .slice none 0 0]) ?_ 0 _ rfl; (with_reducible repeat (first | refine blk_drewN ?_ _ | refine blk_drew ?_ | refine blk_alloc ?_ _)); exact BK1079.out) Try.underlying30 rfl (by kernel_rfl)) rfl ?_
      exact ⟨_, RF, by first | exact Kd.R_nil _ _ _ _ _ | exact Kd.N_nil _ _ _ _ _ | exact Kd.V_nil _ _ _ _ _ | exact Kd.Q_nil _ _ _ _ _ | exact Kd.S_nil _ _ _ _ _, BL HB.out⟩
    replace H := bindA H; obtain ⟨⟨t1085, t1086, t1087⟩, A21, H⟩ := H
    dsimp only at H
    replace H := bindA H; obtain ⟨t1091, A22, H⟩ := H
    simp only [Option.some.injEq, Prod.mk.injEq] at H
    obtain ⟨rfl, rfl, rfl, rfl⟩ := H
    have hnb23 := NB1078_1079.out
    have hnc23 := NB1079_1078.out
    obtain ⟨hcz24_0, hcz24_1, hcz24_2, hfz24_0, hfz24_1, hfz24_2⟩ := cz3 BK1078.out
    go_wp2_with (first | ((with_reducible refine gate_callee (f := 63) rfl ?_); refine goesM (N := (some 26)) #[.agg #[.int .i64 a0_0, .int .i64 a0_1, .slice A0_2 l0_2.length c0_2]] Try.func63 ?_; (with_reducible refine (impl_copyBoard.calls a0_0 a0_1 _ _ l0_2 t1085 t1086 t1087 _ ?side1 ?side2 A21.out).mono ?_); (case side1 => exact CB (Kd.C_below HR0_2.out HB.out)); (case side2 => exact HC0_2.out); rintro e w25 ⟨v1088, rfl, ho0, hb⟩; refine ⟨_, rfl, ?_⟩; refine E5 (Kd.S_below (PS HO_6.out) hb) (Kd.R_lower ho0 (below_size (BL HB.out))) (bB BK1078.out hb) (bB BK1079.out hb) (below_step (BL HB.out) hb) ?_; clear HO_6 BK1078 BK1079 HB; intro HO_6 HO1089 BK1078 BK1079 HB; (try clear hb); (try clear hb2); (try clear hk); (try clear hi); (try clear ho0)) | ((with_reducible refine gate_dst (N := 7) rfl ?_); refine boxE (N := 7) (cs := #[.int .i64 0, .int .i64 0, .slice none 0 0]) (t := 30) ?_; intro gb1090 hg w26 hbox hb; refine E12 (Kd.S_below (PS HO_6.out) hb) (Kd.R_below (PR HO1089.out) hb) (bB BK1078.out hb) (bB BK1079.out hb) (below_step (BL HB.out) hb) (hbox) (gwM hg (below_size (BL HB.out)) : w.heap.size ≤ gb1090) (gwM hg (below_size (BL HB.out)) : w.heap.size ≤ gb1090) ((nB BK1078.out hg : gb1078 ≠ gb1090)) ((nC BK1078.out hg : gb1090 ≠ gb1078)) ((nB BK1079.out hg : gb1079 ≠ gb1090)) ((nC BK1079.out hg : gb1090 ≠ gb1079)) ?_; clear HO_6 HO1089 BK1078 BK1079 HB; intro HO_6 HO1089 BK1078 BK1079 HB BK1090 GW1090 GE1090 NB1078_1090 NB1090_1078 NB1079_1090 NB1090_1079; clear hb hbox hg; have hnb27 := NB1090_1078.out; have hnc27 := NB1078_1090.out; have hnb28 := NB1090_1079.out; have hnc28 := NB1079_1090.out; obtain ⟨hcz29_0, hcz29_1, hcz29_2, hfz29_0, hfz29_1, hfz29_2⟩ := cz3 BK1090.out; obtain ⟨Ao30, co30, eo30⟩ := Kd.R_slice HO1089.out; subst eo30) | ((with_reducible refine gate_store (t := 30) (p := 7) rfl ?_); refine storeE (t := 30) (p := 7) (w1 := (((w26.setCell ⟨gb1090, 0, none⟩ (.int .i64 t1085)).setCell ⟨gb1090, 1, none⟩ (.int .i64 t1086)).setCell ⟨gb1090, 2, none⟩ (.slice Ao30 t1087.length co30))) ?_; intro w31 hw; have n0_ : Aside0 (Kd.S (Kd.slice 3 (Kd.int .i64)) 36 w31 w.heap.size (fun _ => True) v1082 t1081) := ⟨(by rw [hw]; exact (by (with_reducible repeat (first | apply Kd.S_alloc | apply Kd.S_drewN | apply Kd.S_drew)); exact Kd.S_mono (Kd.S_far (p := ⟨gb1090, 2, none⟩) (Kd.S_far (p := ⟨gb1090, 1, none⟩) (Kd.S_far (p := ⟨gb1090, 0, none⟩) (Kd.S_types HO_6.out BK1090.out (by decide)) (fun _ hk => hk.2) (.int .i64 t1085)) (fun _ hk => hk.2) (.int .i64 t1086)) (fun _ hk => hk.2) (.slice Ao30 t1087.length co30)) (fun _ hk => trivial)))⟩; have n1_ : Aside0 (Kd.R k73 73 w31 w.heap.size (fun _ => True) (.slice Ao30 t1087.length co30) t1087) := ⟨(by rw [hw]; exact (by (with_reducible repeat (first | apply Kd.R_alloc | apply Kd.R_drewN | apply Kd.R_drew)); exact Kd.R_mono (Kd.R_far (p := ⟨gb1090, 2, none⟩) (Kd.R_far (p := ⟨gb1090, 1, none⟩) (Kd.R_far (p := ⟨gb1090, 0, none⟩) (Kd.R_types HO1089.out BK1090.out (by decide)) (fun _ hk => hk.2) (.int .i64 t1085)) (fun _ hk => hk.2) (.int .i64 t1086)) (fun _ hk => hk.2) (.slice Ao30 t1087.length co30)) (fun _ hk => trivial)))⟩; have n2_ : Aside0 (w31.heap[gb1078]? = some (.cells #[.int .i64 a0_0, .int .i64 a0_1, .slice A0_2 l0_2.length c0_2] 30 (0, 0))) := ⟨(by rw [hw]; exact (by (with_reducible repeat (first | refine blk_drewN ?_ _ | refine blk_drew ?_ | refine blk_alloc ?_ _)); refine blk_far ?_ NB1078_1090.out _; (with_reducible repeat (first | refine blk_drewN ?_ _ | refine blk_drew ?_ | refine blk_alloc ?_ _)); refine blk_far ?_ NB1078_1090.out _; (with_reducible repeat (first | refine blk_drewN ?_ _ | refine blk_drew ?_ | refine blk_alloc ?_ _)); refine blk_far ?_ NB1078_1090.out _; (with_reducible repeat (first | refine blk_drewN ?_ _ | refine blk_drew ?_ | refine blk_alloc ?_ _)); exact BK1078.out))⟩; have n3_ : Aside0 (w31.heap[gb1079]? = some (.cells #[.int .i64 0, .int .i64 0, .slice none 0 0] 30 (0, 0))) := ⟨(by rw [hw]; exact (by (with_reducible repeat (first | refine blk_drewN ?_ _ | refine blk_drew ?_ | refine blk_alloc ?_ _)); refine blk_far ?_ NB1079_1090.out _; (with_reducible repeat (first | refine blk_drewN ?_ _ | refine blk_drew ?_ | refine blk_alloc ?_ _)); refine blk_far ?_ NB1079_1090.out _; (with_reducible repeat (first | refine blk_drewN ?_ _ | refine blk_drew ?_ | refine blk_alloc ?_ _)); refine blk_far ?_ NB1079_1090.out _; (with_reducible repeat (first | refine blk_drewN ?_ _ | refine blk_drew ?_ | refine blk_alloc ?_ _)); exact BK1079.out))⟩; have n4_ : Aside0 (w31.heap[gb1090]? = some (.cells #[.int .i64 t1085, .int .i64 t1086, .slice Ao30 t1087.length co30] 30 (0, 0))) := ⟨(by rw [hw]; exact (by (with_reducible repeat (first | refine blk_drewN ?_ _ | refine blk_drew ?_ | refine blk_alloc ?_ _)); refine blk_put (cs := #[.int .i64 t1085, .int .i64 t1086, .slice none 0 0]) ?_ 2 _ rfl; (with_reducible repeat (first | refine blk_drewN ?_ _ | refine blk_drew ?_ | refine blk_alloc ?_ _)); refine blk_put (cs := #[.int .i64 t1085, .int .i64 0, .slice none 0 0]) ?_ 1 _ rfl; (with_reducible repeat (first | refine blk_drewN ?_ _ | refine blk_drew ?_ | refine blk_alloc ?_ _)); refine blk_put (cs := #[.int .i64 0, .int .i64 0, .slice none 0 0]) ?_ 0 _ rfl; (with_reducible repeat (first | refine blk_drewN ?_ _ | refine blk_drew ?_ | refine blk_alloc ?_ _)); exact BK1090.out))⟩; have n5_ : Aside0 (Below w.heap.size w w31) := ⟨(by rw [hw]; exact (BL HB.out))⟩; clear hw; clear HO_6; clear HO1089; clear BK1078; clear BK1079; clear BK1090; clear HB; have HO_6 := n0_; have HO1089 := n1_; have BK1078 := n2_; have BK1079 := n3_; have BK1090 := n4_; have HB := n5_; clear n0_ n1_ n2_ n3_ n4_ n5_; obtain ⟨hcz32_0, hcz32_1, hcz32_2, hfz32_0, hfz32_1, hfz32_2⟩ := cz3 BK1090.out; obtain ⟨Ao33, co33, eo33⟩ := Kd.S_slice HO_6.out; subst eo33) | ((with_reducible refine gate_callee (f := 69) rfl ?_); refine goesM (N := (some 30)) #[.agg #[.int .i64 t1085, .int .i64 t1086, .slice Ao30 t1087.length co30], .slice Ao33 t1081.length co33, .slice A1 l1.length c1] Try.func69 ?_; (with_reducible refine (impl_setBits.calls kj5 t1085 t1086 (fun k_ => some k_ = (.slice Ao30 t1087.length co30 : Value).ownBlock) (.slice Ao30 t1087.length co30) t1087 _ _ t1081 _ _ l1 t1091 w _ ?side1 ?side2 ?side3 ?side4 ?side5 ?side6 A22.out).mono ?_); (case side1 => repeat (first | (with_reducible first | exact HB.out | apply below_alloc | apply pw_below_drewN | apply below_drew1 | refine below_set ?_ GE1078.out | refine below_set ?_ GE1079.out | refine below_set ?_ GE1090.out) | exact HB.out)); (case side2 => exact Kd.R_tight rfl HO1089.out); (case side3 => exact Kd.C_kept_own ((Kd.S_R (Kd.S_apart' HO_6.out (Kd.R_typed HO1089.out) (by decide)))) (fun k_ hk_ hs_ => (hk_.2) hs_)); (case side4 => exact (Kd.S_reads' HO_6.out).2.1); (case side5 => exact Kd.C_kept_came (Kd.heap_int .i64) HR1.out (BL HB.out) (fun k_ hs_ => (fun e_ => Kd.R_base HO1089.out k_ e_.symm) hs_)); (case side6 => exact HC1.out); rintro e w34 ⟨rfl, hy0, hb, hkp⟩; refine ⟨_, rfl, ?_⟩; refine E6 (Kd.S_mono (ok' := fun k_ => True) (Kd.S_keptB ((Kd.S_apart' HO_6.out (Kd.R_typed HO1089.out) (by decide))) hkp (fun k_ hk_ hs_ => (hk_.2) hs_)) (fun k_ hk_ => trivial)) (blk_kept (PB BK1078.out) hkp (fun hs_ => (fun e_ => (Kd.R_ne HO1089.out BK1078.out (by decide)) e_) hs_)) (blk_kept (PB BK1079.out) hkp (fun hs_ => (fun e_ => (Kd.R_ne HO1089.out BK1079.out (by decide)) e_) hs_)) (Kd.R_reok rfl hy0 (fun k_ e_ => HO1089.out.1 k_ e_)) (blk_kept (PB BK1090.out) hkp (fun hs_ => (fun e_ => (Kd.R_ne HO1089.out BK1090.out (by decide)) e_) hs_)) (hb) ?_; clear HO_6 BK1078 BK1079 HO1089 BK1090 HB; intro HO_6 BK1078 BK1079 HO1089 BK1090 HB; (try clear hb); (try clear hkp); (try clear hy0); obtain ⟨hcz35_0, hcz35_1, hcz35_2, hfz35_0, hfz35_1, hfz35_2⟩ := cz3 BK1090.out; obtain ⟨hcz36_0, hcz36_1, hcz36_2, hfz36_0, hfz36_1, hfz36_2⟩ := cz3 BK1079.out))
    refine bodyPost_ret (results_ct rfl _ _ gb1079 30 #[.int .i64 t1085, .int .i64 t1086, .slice Ao30 t1087.length co30] (0, 0) _ rfl (by (with_reducible repeat (first | refine blk_drewN ?_ _ | refine blk_drew ?_ | refine blk_alloc ?_ _)); refine blk_put (cs := #[.int .i64 t1085, .int .i64 t1086, .slice none 0 0]) ?_ 2 _ rfl; (with_reducible repeat (first | refine blk_drewN ?_ _ | refine blk_drew ?_ | refine blk_alloc ?_ _)); refine blk_put (cs := #[.int .i64 t1085, .int .i64 0, .slice none 0 0]) ?_ 1 _ rfl; (with_reducible repeat (first | refine blk_drewN ?_ _ | refine blk_drew ?_ | refine blk_alloc ?_ _)); refine blk_put (cs := #[.int .i64 0, .int .i64 0, .slice none 0 0]) ?_ 0 _ rfl; (with_reducible repeat (first | refine blk_drewN ?_ _ | refine blk_drew ?_ | refine blk_alloc ?_ _)); exact BK1079.out) Try.underlying30 rfl (by kernel_rfl)) rfl ?_
    exact ⟨_, RF, by (with_reducible repeat (first | apply Kd.R_alloc | apply Kd.R_drewN | apply Kd.R_drew)); exact Kd.R_mono (Kd.R_far (p := ⟨gb1079, 2, none⟩) (Kd.R_far (p := ⟨gb1079, 1, none⟩) (Kd.R_far (p := ⟨gb1079, 0, none⟩) (Kd.R_types HO1089.out BK1079.out (by decide)) (fun _ hk => hk.2) (.int .i64 t1085)) (fun _ hk => hk.2) (.int .i64 t1086)) (fun _ hk => hk.2) (.slice Ao30 t1087.length co30)) (fun _ hk => trivial), BL HB.out⟩
  simp only [Option.some.injEq, Prod.mk.injEq] at H
  obtain ⟨rfl, rfl, rfl, rfl⟩ := H
  go_enter Try.func44, Try.ntmps44
  go_wp2_with (first | ((with_reducible refine gate_dst (N := 2) rfl ?_); refine boxE (N := 2) (cs := #[.int .i64 a0_0, .int .i64 a0_1, .slice A0_2 l0_2.length c0_2]) (t := 30) ?_; intro gb1078 hg w37 hbox hb; refine E4b HB.out hg hbox hb ?_; clear HB; intro HB BK1078 GW1078 GE1078; clear hb hbox hg) | ((with_reducible refine gate_dst (N := 4) rfl ?_); refine boxE (N := 4) (cs := #[.int .i64 0, .int .i64 0, .slice none 0 0]) (t := 30) ?_; intro gb1079 hg w38 hbox hb; refine E7 (bB BK1078.out hb) (below_step (BL HB.out) hb) (hbox) (gwM hg (below_size (BL HB.out)) : w.heap.size ≤ gb1079) (gwM hg (below_size (BL HB.out)) : w.heap.size ≤ gb1079) ((nB BK1078.out hg : gb1078 ≠ gb1079)) ((nC BK1078.out hg : gb1079 ≠ gb1078)) ?_; clear BK1078 HB; intro BK1078 HB BK1079 GW1079 GE1079 NB1078_1079 NB1079_1078; clear hb hbox hg; have hnb39 := NB1078_1079.out; have hnc39 := NB1079_1078.out; obtain ⟨hcz40_0, hcz40_1, hcz40_2, hfz40_0, hfz40_1, hfz40_2⟩ := cz3 BK1078.out) | ((with_reducible refine gate_callee (f := 50) rfl ?_); refine goesM (N := (some 9)) #[.agg #[.int .i64 a0_0, .int .i64 a0_1, .slice A0_2 l0_2.length c0_2]] Try.func50 ?_; (with_reducible refine (impl_IsBoard.calls k a0_0 a0_1 _ _ l0_2 false _ ?side1 ?side2 A3.out).mono ?_); (case side1 => exact CB (Kd.C_below HR0_2.out HB.out)); (case side2 => exact HC0_2.out); rintro e w41 ⟨rfl, hb⟩; refine ⟨_, rfl, ?_⟩; refine E3 (bB BK1078.out hb) (bB BK1079.out hb) (below_step (BL HB.out) hb) ?_; clear BK1078 BK1079 HB; intro BK1078 BK1079 HB; (try clear hb); (try clear hb2); (try clear hk); (try clear hi); obtain ⟨hcz42_0, hcz42_1, hcz42_2, hfz42_0, hfz42_1, hfz42_2⟩ := cz3 BK1079.out))
  refine bodyPost_ret (results_ct rfl _ _ gb1079 30 #[.int .i64 0, .int .i64 0, .slice none 0 0] (0, 0) _ rfl (by (with_reducible repeat (first | refine blk_drewN ?_ _ | refine blk_drew ?_ | refine blk_alloc ?_ _)); refine blk_put (cs := #[.int .i64 0, .int .i64 0, .slice none 0 0]) ?_ 2 _ rfl; (with_reducible repeat (first | refine blk_drewN ?_ _ | refine blk_drew ?_ | refine blk_alloc ?_ _)); refine blk_put (cs := #[.int .i64 0, .int .i64 0, .slice none 0 0]) ?_ 1 _ rfl; (with_reducible repeat (first | refine blk_drewN ?_ _ | refine blk_drew ?_ | refine blk_alloc ?_ _)); refine blk_put (cs := #[.int .i64 0, .int .i64 0, .slice none 0 0]) ?_ 0 _ rfl; (with_reducible repeat (first | refine blk_drewN ?_ _ | refine blk_drew ?_ | refine blk_alloc ?_ _)); exact BK1079.out) Try.underlying30 rfl (by kernel_rfl)) rfl ?_
  exact ⟨_, RF, by first | exact Kd.R_nil _ _ _ _ _ | exact Kd.N_nil _ _ _ _ _ | exact Kd.V_nil _ _ _ _ _ | exact Kd.Q_nil _ _ _ _ _ | exact Kd.S_nil _ _ _ _ _, BL HB.out⟩

/-! ### laws_FnExactBoardWithBits: function 12 -/
mutual
def laws_FnExactBoardWithBits.j0 : Nat → List Int → Bool → List Int → Bool → Bool → Int → Int → List (S84) → Int → Int → List (S73) → Int → Int → List (S73) → Int → Int → List (S73) → Option (Bool)
  | 0, _, _, _, _, _, _, _, _, _, _, _, _, _, _, _, _, _ => none
  | k + 1, x1, x7, x9, x11, x51, x1093000, x1093001, x1093002, x1109000, x1109001, x1109002, x1115000, x1115001, x1115002, x1125000, x1125001, x1125002 => if x51 = true then (some false) else ((laws_toBoard.f k x1093000 x1093001 x1093002).bind fun bt1126 => ((laws_eqBoard.f k x1115000 x1115001 x1115002 bt1126.1 bt1126.2.1 bt1126.2.2).bind fun t1131 => (if t1131 = true then ((laws_toIntS.f k x1).bind fun t1132 => ((laws_eqIntS.f k x9 t1132).bind fun t1135 => (if t1135 = true then ((laws_markBoard.f k x1115000 x1115001 x1115002 1).bind fun bt1136 => ((laws_markIntS.f k x9 bt1136.1).bind fun bt1138 => (if bt1138.1 < 0 then (laws_FnExactBoardWithBits.j1 k x1 x7 true x1093000 x1093001 x1093002 x1109000 x1109001 x1109002 x1125000 x1125001 x1125002) else ((laws_eqBoard.f k x1125000 x1125001 x1125002 x1109000 x1109001 x1109002).bind fun t1140 => (if t1140 = true then (laws_FnExactBoardWithBits.j1 k x1 x7 (x11 != x7) x1093000 x1093001 x1093002 x1109000 x1109001 x1109002 x1125000 x1125001 x1125002) else (laws_FnExactBoardWithBits.j1 k x1 x7 true x1093000 x1093001 x1093002 x1109000 x1109001 x1109002 x1125000 x1125001 x1125002)))))) else (some false)))) else (some false))))
def laws_FnExactBoardWithBits.j1 : Nat → List Int → Bool → Bool → Int → Int → List (S84) → Int → Int → List (S73) → Int → Int → List (S73) → Option (Bool)
  | 0, _, _, _, _, _, _, _, _, _, _, _, _ => none
  | k + 1, x1, x7, x80, x1093000, x1093001, x1093002, x1109000, x1109001, x1109002, x1125000, x1125001, x1125002 => if x80 = true then (some false) else ((laws_markBoard.f k x1125000 x1125001 x1125002 1).bind fun bt1141 => ((laws_heldBoard.f k x1125000 x1125001 bt1141.2 1).bind fun t1143 => (if t1143 < 0 then (some false) else (if t1143 = bt1141.1 then ((laws_toBoard.f k x1093000 x1093001 x1093002).bind fun bt1144 => ((laws_toIntS.f k x1).bind fun t1149 => ((impl_BoardWithBits.f k bt1144.1 bt1144.2.1 bt1144.2.2 t1149).bind fun bt1152 => ((laws_eqBoard.f k bt1152.1 bt1152.2.1 bt1152.2.2.1 x1109000 x1109001 x1109002).bind fun t1159 => (if t1159 = true then (laws_FnExactBoardWithBits.j2 k bt1141.1 (bt1152.2.2.2 != x7) x1125000 x1125001 bt1141.2) else (laws_FnExactBoardWithBits.j2 k bt1141.1 true x1125000 x1125001 bt1141.2)))))) else (some false)))))
def laws_FnExactBoardWithBits.j2 : Nat → Int → Bool → Int → Int → List (S73) → Option (Bool)
  | 0, _, _, _, _, _ => none
  | k + 1, x13, x108, x1125000, x1125001, x1125002 => if x108 = true then (some false) else ((laws_heldBoard.f k x1125000 x1125001 x1125002 1).bind fun t1160 => (if t1160 < 0 then (some false) else (if t1160 = x13 then (some true) else (some false))))
end
def laws_FnExactBoardWithBits.f (k : Nat) (a0_0 : Int) (a0_1 : Int) (l0_2 : List (S84)) (l1 : List Int) : Option (Bool) := if (l1.length : Int) > 1048576 then (some true) else ((laws_szBoard.f a0_0 a0_1 l0_2 1048576).bind fun t1093 => (if t1093 < 0 then (some true) else ((laws_toBoard.f k a0_0 a0_1 l0_2).bind fun bt1094 => ((laws_toIntS.f k l1).bind fun t1099 => ((spec_BoardWithBits.f k bt1094.1 bt1094.2.1 bt1094.2.2 t1099).bind fun bt1102 => ((laws_toBoard.f k a0_0 a0_1 l0_2).bind fun bt1109 => ((laws_toIntS.f k l1).bind fun t1115 => ((impl_BoardWithBits.f k bt1109.1 bt1109.2.1 bt1109.2.2 t1115).bind fun bt1118 => ((laws_eqBoard.f k bt1118.1 bt1118.2.1 bt1118.2.2.1 bt1102.1 bt1102.2.1 bt1102.2.2.1).bind fun t1125 => (if t1125 = true then (laws_FnExactBoardWithBits.j0 k l1 bt1102.2.2.2 t1115 bt1118.2.2.2 (bt1118.2.2.2 != bt1102.2.2.2) a0_0 a0_1 l0_2 bt1102.1 bt1102.2.1 bt1102.2.2.1 bt1109.1 bt1109.2.1 bt1109.2.2 bt1118.1 bt1118.2.1 bt1118.2.2.1) else (laws_FnExactBoardWithBits.j0 k l1 bt1102.2.2.2 t1115 bt1118.2.2.2 true a0_0 a0_1 l0_2 bt1102.1 bt1102.2.1 bt1102.2.2.1 bt1109.1 bt1109.2.1 bt1109.2.2 bt1118.1 bt1118.2.1 bt1118.2.2.1)))))))))))
theorem laws_FnExactBoardWithBits.mono_l : ∀ k, (∀ y0 y1 y2 y3 y4 y5 y6 y7 y8 y9 y10 y11 y12 y13 y14 y15 y16, LeO (laws_FnExactBoardWithBits.j0 k y0 y1 y2 y3 y4 y5 y6 y7 y8 y9 y10 y11 y12 y13 y14 y15 y16) (laws_FnExactBoardWithBits.j0 (k + 1) y0 y1 y2 y3 y4 y5 y6 y7 y8 y9 y10 y11 y12 y13 y14 y15 y16)) ∧ (∀ y0 y1 y2 y3 y4 y5 y6 y7 y8 y9 y10 y11, LeO (laws_FnExactBoardWithBits.j1 k y0 y1 y2 y3 y4 y5 y6 y7 y8 y9 y10 y11) (laws_FnExactBoardWithBits.j1 (k + 1) y0 y1 y2 y3 y4 y5 y6 y7 y8 y9 y10 y11)) ∧ (∀ y0 y1 y2 y3 y4, LeO (laws_FnExactBoardWithBits.j2 k y0 y1 y2 y3 y4) (laws_FnExactBoardWithBits.j2 (k + 1) y0 y1 y2 y3 y4))
  | 0 => by refine ⟨?_, ?_, ?_⟩ <;> (intros; intro r h; first | (simp [laws_FnExactBoardWithBits.j0] at h; done) | (simp [laws_FnExactBoardWithBits.j1] at h; done) | (simp [laws_FnExactBoardWithBits.j2] at h; done))
  | k + 1 => by
    obtain ⟨ih0, ih1, ih2⟩ := laws_FnExactBoardWithBits.mono_l k
    refine ⟨?_, ?_, ?_⟩ <;> (
      intros
      first | unfold laws_FnExactBoardWithBits.j0 | unfold laws_FnExactBoardWithBits.j1 | unfold laws_FnExactBoardWithBits.j2
      repeat' first | (with_reducible first | apply ih0 | apply ih1 | apply ih2 | apply impl_BoardWithBits.mono | apply laws_eqBoard.mono | apply laws_eqIntS.mono | apply laws_heldBoard.mono | apply laws_markBoard.mono | apply laws_markIntS.mono | apply laws_toBoard.mono | apply laws_toIntS.mono | apply spec_BoardWithBits.mono | exact LeO.refl _ | exact LeO.none _ | refine LeO.ite ?_ ?_ | refine LeO.bind ?_ (fun _ => ?_)) | apply ih0 | apply ih1 | apply ih2 | apply impl_BoardWithBits.mono | apply laws_eqBoard.mono | apply laws_eqIntS.mono | apply laws_heldBoard.mono | apply laws_markBoard.mono | apply laws_markIntS.mono | apply laws_toBoard.mono | apply laws_toIntS.mono | apply spec_BoardWithBits.mono | exact LeO.none _ | refine LeO.ite ?_ ?_ | refine LeO.bind ?_ (fun _ => ?_))
theorem laws_FnExactBoardWithBits.mono : ∀ a0 a1 a2 a3 k, LeO (laws_FnExactBoardWithBits.f k a0 a1 a2 a3) (laws_FnExactBoardWithBits.f (k + 1) a0 a1 a2 a3) := by
  intro a0 a1 a2 a3 k
  obtain ⟨ih0, ih1, ih2⟩ := laws_FnExactBoardWithBits.mono_l k
  unfold laws_FnExactBoardWithBits.f
  repeat' first | (with_reducible first | apply ih0 | apply ih1 | apply ih2 | apply impl_BoardWithBits.mono | apply laws_eqBoard.mono | apply laws_eqIntS.mono | apply laws_heldBoard.mono | apply laws_markBoard.mono | apply laws_markIntS.mono | apply laws_toBoard.mono | apply laws_toIntS.mono | apply spec_BoardWithBits.mono | exact LeO.refl _ | exact LeO.none _ | refine LeO.ite ?_ ?_ | refine LeO.bind ?_ (fun _ => ?_)) | apply ih0 | apply ih1 | apply ih2 | apply impl_BoardWithBits.mono | apply laws_eqBoard.mono | apply laws_eqIntS.mono | apply laws_heldBoard.mono | apply laws_markBoard.mono | apply laws_markIntS.mono | apply laws_toBoard.mono | apply laws_toIntS.mono | apply spec_BoardWithBits.mono | exact LeO.none _ | refine LeO.ite ?_ ?_ | refine LeO.bind ?_ (fun _ => ?_)
set_option maxHeartbeats 8000000 in
set_option maxRecDepth 100000 in
theorem laws_FnExactBoardWithBits.calls (k : Nat) (a0_0 : Int) (a0_1 : Int) (A0_2 : Option Addr) (c0_2 : Nat) (l0_2 : List (S84)) (A1 : Option Addr) (c1 : Nat) (l1 : List Int) (w : World) (hr0_2 : Kd.C k84 w A0_2 l0_2.length l0_2) (hc0_2 : l0_2.length ≤ c0_2) (hr1 : Kd.C (Kd.int .i64) w A1 l1.length l1) (hc1 : l1.length ≤ c1) (h : laws_FnExactBoardWithBits.f k a0_0 a0_1 l0_2 l1 = some true) :
    Calls Try.prog 12 #[.agg #[.int .i64 a0_0, .int .i64 a0_1, .slice A0_2 l0_2.length c0_2], .slice A1 l1.length c1] w fun e w' => e = .returned (.bool true) ∧ Below w.heap.size w w' := by
  have hu24 := Try.underlying24
  have hu30 := Try.underlying30
  have HR0_2 := Aside0.mk hr0_2
  have HC0_2 := Aside0.mk hc0_2
  clear hr0_2 hc0_2
  have HR1 := Aside0.mk hr1
  have HC1 := Aside0.mk hc1
  clear hr1 hc1
  have HB := Aside0.mk (Below.refl w.heap.size w)
  have H := h
  clear h
  unfold laws_FnExactBoardWithBits.f at H
  replace H := ifQ H; rcases H with ⟨c3, H⟩ | ⟨c3, H⟩
  · have c3b0 : decide (1048576 < (l1.length : Int)) = true := decide_eq_true c3
    have c3b1 : decide (1048576 < l1.length) = true := decide_eq_true (by omega)
    clear c3
    first | (obtain rfl := Option.some.inj H) | clear H
    go_enter Try.func12, Try.ntmps12
    go_wp2_with (first | ((with_reducible refine gate_dst (N := 2) rfl ?_); refine boxE (N := 2) (cs := #[.int .i64 a0_0, .int .i64 a0_1, .slice A0_2 l0_2.length c0_2]) (t := 24) ?_; intro gb1092 hg w4 hbox hb; refine E4b HB.out hg hbox hb ?_; clear HB; intro HB BK1092 GW1092 GE1092; clear hb hbox hg))
    go_ret
    exact ⟨RF, BL HB.out⟩
  have c3b0 : decide (1048576 < (l1.length : Int)) = false := decide_eq_false c3
  have c3b1 : decide (1048576 < l1.length) = false := decide_eq_false (by omega)
  clear c3
  replace H := bindA H; obtain ⟨t1093, A5, H⟩ := H
  replace H := ifB H; rcases H with ⟨c6b0, H⟩ | ⟨c6b0, H⟩
  · first | (obtain rfl := Option.some.inj H) | clear H
    go_enter Try.func12, Try.ntmps12
    go_wp2_with (first | ((with_reducible refine gate_dst (N := 2) rfl ?_); refine boxE (N := 2) (cs := #[.int .i64 a0_0, .int .i64 a0_1, .slice A0_2 l0_2.length c0_2]) (t := 24) ?_; intro gb1092 hg w7 hbox hb; refine E4b HB.out hg hbox hb ?_; clear HB; intro HB BK1092 GW1092 GE1092; clear hb hbox hg; obtain ⟨hcz8_0, hcz8_1, hcz8_2, hfz8_0, hfz8_1, hfz8_2⟩ := cz3 BK1092.out) | ((with_reducible refine gate_callee (f := 13) rfl ?_); refine goesM (N := (some 22)) #[.agg #[.int .i64 a0_0, .int .i64 a0_1, .slice A0_2 l0_2.length c0_2], .int .i64 1048576] Try.func13 ?_; (with_reducible refine (laws_szBoard.calls a0_0 a0_1 _ _ l0_2 1048576 t1093 _ ?side1 ?side2 A5.out).mono ?_); (case side1 => exact CB (Kd.C_below HR0_2.out HB.out)); (case side2 => exact HC0_2.out); rintro e w9 ⟨rfl, hb⟩; refine ⟨_, rfl, ?_⟩; refine E2 (bB BK1092.out hb) (below_step (BL HB.out) hb) ?_; clear BK1092 HB; intro BK1092 HB; (try clear hb); (try clear hb2); (try clear hk); (try clear hi)))
    go_ret
    exact ⟨RF, BL HB.out⟩
  replace H := bindA H; obtain ⟨⟨t1094, t1095, t1096⟩, A10, H⟩ := H
  dsimp only at H
  replace H := bindA H; obtain ⟨t1099, A11, H⟩ := H
  replace H := bindA H; obtain ⟨⟨t1102, t1103, t1104, t1107⟩, A12, H⟩ := H
  dsimp only at H
  replace H := bindA H; obtain ⟨⟨t1109, t1110, t1111⟩, A13, H⟩ := H
  dsimp only at H
  replace H := bindA H; obtain ⟨t1115, A14, H⟩ := H
  replace H := bindA H; obtain ⟨⟨t1118, t1119, t1120, t1123⟩, A15, H⟩ := H
  dsimp only at H
  have HC16 := Aside0.mk H
  clear H
  go_enter Try.func12, Try.ntmps12
  go_upto_region 11 with (first | ((with_reducible refine gate_dst (N := 2) rfl ?_); refine boxE (N := 2) (cs := #[.int .i64 a0_0, .int .i64 a0_1, .slice A0_2 l0_2.length c0_2]) (t := 24) ?_; intro gb1092 hg w17 hbox hb; refine E4b HB.out hg hbox hb ?_; clear HB; intro HB BK1092 GW1092 GE1092; clear hb hbox hg; obtain ⟨hcz18_0, hcz18_1, hcz18_2, hfz18_0, hfz18_1, hfz18_2⟩ := cz3 BK1092.out) | ((with_reducible refine gate_callee (f := 13) rfl ?_); refine goesM (N := (some 22)) #[.agg #[.int .i64 a0_0, .int .i64 a0_1, .slice A0_2 l0_2.length c0_2], .int .i64 1048576] Try.func13 ?_; (with_reducible refine (laws_szBoard.calls a0_0 a0_1 _ _ l0_2 1048576 t1093 _ ?side1 ?side2 A5.out).mono ?_); (case side1 => exact CB (Kd.C_below HR0_2.out HB.out)); (case side2 => exact HC0_2.out); rintro e w19 ⟨rfl, hb⟩; refine ⟨_, rfl, ?_⟩; refine E2 (bB BK1092.out hb) (below_step (BL HB.out) hb) ?_; clear BK1092 HB; intro BK1092 HB; (try clear hb); (try clear hb2); (try clear hk); (try clear hi); obtain ⟨hcz20_0, hcz20_1, hcz20_2, hfz20_0, hfz20_1, hfz20_2⟩ := cz3 BK1092.out) | ((with_reducible refine gate_callee (f := 15) rfl ?_); refine goesM (N := (some 27)) #[.agg #[.int .i64 a0_0, .int .i64 a0_1, .slice A0_2 l0_2.length c0_2]] Try.func15 ?_; (with_reducible refine (laws_toBoard.calls k a0_0 a0_1 _ _ l0_2 t1094 t1095 t1096 _ ?side1 ?side2 A10.out).mono ?_); (case side1 => exact CB (Kd.C_below HR0_2.out HB.out)); (case side2 => exact HC0_2.out); rintro e w21 ⟨v1097, rfl, ho0, hb⟩; refine ⟨_, rfl, ?_⟩; refine E3 (Kd.R_lower ho0 (below_size (BL HB.out))) (bB BK1092.out hb) (below_step (BL HB.out) hb) ?_; clear BK1092 HB; intro HO1098 BK1092 HB; (try clear hb); (try clear hb2); (try clear hk); (try clear hi); (try clear ho0)) | ((with_reducible refine gate_callee (f := 43) rfl ?_); refine goesM (N := (some 29)) #[.slice A1 l1.length c1] Try.func43 ?_; (with_reducible refine (laws_toIntS.calls k _ _ l1 t1099 _ ?side1 ?side2 A11.out).mono ?_); (case side1 => exact CB (Kd.C_below HR1.out HB.out)); (case side2 => exact HC1.out); rintro e w22 ⟨v1100, rfl, ho0, hb⟩; refine ⟨_, rfl, ?_⟩; refine E4 (Kd.R_below (PR HO1098.out) hb) (Kd.R_lower ho0 (below_size (BL HB.out))) (bB BK1092.out hb) (below_step (BL HB.out) hb) ?_; clear HO1098 BK1092 HB; intro HO1098 HO1101 BK1092 HB; (try clear hb); (try clear hb2); (try clear hk); (try clear hi); (try clear ho0); obtain ⟨Ao23, co23, eo23⟩ := Kd.R_slice HO1098.out; subst eo23; obtain ⟨Ao24, co24, eo24⟩ := Kd.R_slice HO1101.out; subst eo24) | ((with_reducible refine gate_callee (f := 42) rfl ?_); refine goesM (N := (some 30)) #[.agg #[.int .i64 t1094, .int .i64 t1095, .slice Ao23 t1096.length co23], .slice Ao24 t1099.length co24] Try.func42 ?_; (with_reducible refine (spec_BoardWithBits.calls k t1094 t1095 _ _ t1096 _ _ t1099 t1102 t1103 t1104 t1107 _ ?side1 ?side2 ?side3 ?side4 A12.out).mono ?_); (case side1 => repeat (first | exact (Kd.R_reads' HO1098.out).2.2 | (with_reducible refine Kd.C_alloc ?_ _) | (with_reducible refine Kd.C_drewN ?_ _) | (with_reducible refine Kd.C_drew ?_))); (case side2 => exact (Kd.R_reads' HO1098.out).2.1); (case side3 => repeat (first | exact (Kd.R_reads' HO1101.out).2.2 | (with_reducible refine Kd.C_alloc ?_ _) | (with_reducible refine Kd.C_drewN ?_ _) | (with_reducible refine Kd.C_drew ?_))); (case side4 => exact (Kd.R_reads' HO1101.out).2.1); rintro e w25 ⟨v1105, rfl, ho0, hb⟩; refine ⟨_, rfl, ?_⟩; refine E5 (Kd.R_elder' (PR HO1098.out) (Kd.R_base ho0) hb) (Kd.R_below (PR HO1101.out) hb) (Kd.R_lower (Kd.R_new' ho0 (Kd.R_lt (PR HO1098.out))) (below_size (BL HB.out))) (bB BK1092.out hb) (below_step (BL HB.out) hb) ?_; clear HO1098 HO1101 BK1092 HB; intro HO1098 HO1101 HO1106 BK1092 HB; (try clear hb); (try clear hb2); (try clear hk); (try clear hi); (try clear ho0)) | ((with_reducible refine gate_dst (N := 6) rfl ?_); refine boxE (N := 6) (cs := #[.int .i64 0, .int .i64 0, .slice none 0 0]) (t := 30) ?_; intro gb1108 hg w26 hbox hb; refine E10 (Kd.R_below (PR HO1098.out) hb) (Kd.R_below (PR HO1101.out) hb) (Kd.R_below (PR HO1106.out) hb) (bB BK1092.out hb) (below_step (BL HB.out) hb) (hbox) (gwM hg (below_size (BL HB.out)) : w.heap.size ≤ gb1108) (gwM hg (below_size (BL HB.out)) : w.heap.size ≤ gb1108) ((nB BK1092.out hg : gb1092 ≠ gb1108)) ((nC BK1092.out hg : gb1108 ≠ gb1092)) ?_; clear HO1098 HO1101 HO1106 BK1092 HB; intro HO1098 HO1101 HO1106 BK1092 HB BK1108 GW1108 GE1108 NB1092_1108 NB1108_1092; clear hb hbox hg; have hnb27 := NB1108_1092.out; have hnc27 := NB1092_1108.out; obtain ⟨hcz28_0, hcz28_1, hcz28_2, hfz28_0, hfz28_1, hfz28_2⟩ := cz3 BK1108.out; obtain ⟨Ao29, co29, eo29⟩ := Kd.R_slice HO1106.out; subst eo29; obtain ⟨hcz30_0, hcz30_1, hcz30_2, hfz30_0, hfz30_1, hfz30_2⟩ := cz3 BK1092.out) | ((with_reducible refine gate_callee (f := 15) rfl ?_); refine goesM (N := (some 34)) #[.agg #[.int .i64 a0_0, .int .i64 a0_1, .slice A0_2 l0_2.length c0_2]] Try.func15 ?_; (with_reducible refine (laws_toBoard.calls k a0_0 a0_1 _ _ l0_2 t1109 t1110 t1111 _ ?side1 ?side2 A13.out).mono ?_); (case side1 => exact Kd.C_below HR0_2.out (BL HB.out)); (case side2 => exact HC0_2.out); rintro e w31 ⟨v1112, rfl, ho0, hb⟩; refine ⟨_, rfl, ?_⟩; refine E7 (Kd.R_elder' (by (with_reducible repeat (first | apply Kd.R_alloc | apply Kd.R_drewN | apply Kd.R_drew)); exact (Kd.R_mono (Kd.R_far (p := ⟨gb1108, 2, none⟩) (Kd.R_far (p := ⟨gb1108, 1, none⟩) (Kd.R_far (p := ⟨gb1108, 0, none⟩) (Kd.R_types HO1098.out BK1108.out (by decide)) (fun _ hk => hk.2) (.int .i64 t1102)) (fun _ hk => hk.2) (.int .i64 t1103)) (fun _ hk => hk.2) (.slice Ao29 t1104.length co29)) (fun _ h_ => h_.1))) (Kd.R_base ho0) hb) (Kd.R_below (by (with_reducible repeat (first | apply Kd.R_alloc | apply Kd.R_drewN | apply Kd.R_drew)); exact (Kd.R_mono (Kd.R_far (p := ⟨gb1108, 2, none⟩) (Kd.R_far (p := ⟨gb1108, 1, none⟩) (Kd.R_far (p := ⟨gb1108, 0, none⟩) (Kd.R_types HO1101.out BK1108.out (by decide)) (fun _ hk => hk.2) (.int .i64 t1102)) (fun _ hk => hk.2) (.int .i64 t1103)) (fun _ hk => hk.2) (.slice Ao29 t1104.length co29)) (fun _ h_ => h_.1))) hb) (Kd.R_elder' (by (with_reducible repeat (first | apply Kd.R_alloc | apply Kd.R_drewN | apply Kd.R_drew)); exact (Kd.R_mono (Kd.R_far (p := ⟨gb1108, 2, none⟩) (Kd.R_far (p := ⟨gb1108, 1, none⟩) (Kd.R_far (p := ⟨gb1108, 0, none⟩) (Kd.R_types HO1106.out BK1108.out (by decide)) (fun _ hk => hk.2) (.int .i64 t1102)) (fun _ hk => hk.2) (.int .i64 t1103)) (fun _ hk => hk.2) (.slice Ao29 t1104.length co29)) (fun _ h_ => h_.1))) (Kd.R_base ho0) hb) (Kd.R_lower (Kd.R_new' (Kd.R_new' ho0 (Kd.R_lt (by (with_reducible repeat (first | apply Kd.R_alloc | apply Kd.R_drewN | apply Kd.R_drew)); exact (Kd.R_mono (Kd.R_far (p := ⟨gb1108, 2, none⟩) (Kd.R_far (p := ⟨gb1108, 1, none⟩) (Kd.R_far (p := ⟨gb1108, 0, none⟩) (Kd.R_types HO1098.out BK1108.out (by decide)) (fun _ hk => hk.2) (.int .i64 t1102)) (fun _ hk => hk.2) (.int .i64 t1103)) (fun _ hk => hk.2) (.slice Ao29 t1104.length co29)) (fun _ h_ => h_.1))))) (Kd.R_lt (by (with_reducible repeat (first | apply Kd.R_alloc | apply Kd.R_drewN | apply Kd.R_drew)); exact (Kd.R_mono (Kd.R_far (p := ⟨gb1108, 2, none⟩) (Kd.R_far (p := ⟨gb1108, 1, none⟩) (Kd.R_far (p := ⟨gb1108, 0, none⟩) (Kd.R_types HO1106.out BK1108.out (by decide)) (fun _ hk => hk.2) (.int .i64 t1102)) (fun _ hk => hk.2) (.int .i64 t1103)) (fun _ hk => hk.2) (.slice Ao29 t1104.length co29)) (fun _ h_ => h_.1))))) (below_size (BL HB.out))) (blk_below (g := gb1092) (o := .cells #[.int .i64 a0_0, .int .i64 a0_1, .slice A0_2 l0_2.length c0_2] 24 (0, 0)) (by (with_reducible repeat (first | refine blk_drewN ?_ _ | refine blk_drew ?_ | refine blk_alloc ?_ _)); refine blk_far ?_ NB1092_1108.out _; (with_reducible repeat (first | refine blk_drewN ?_ _ | refine blk_drew ?_ | refine blk_alloc ?_ _)); refine blk_far ?_ NB1092_1108.out _; (with_reducible repeat (first | refine blk_drewN ?_ _ | refine blk_drew ?_ | refine blk_alloc ?_ _)); refine blk_far ?_ NB1092_1108.out _; (with_reducible repeat (first | refine blk_drewN ?_ _ | refine blk_drew ?_ | refine blk_alloc ?_ _)); exact BK1092.out) hb) (blk_below (g := gb1108) (o := .cells #[.int .i64 t1102, .int .i64 t1103, .slice Ao29 t1104.length co29] 30 (0, 0)) (by (with_reducible repeat (first | refine blk_drewN ?_ _ | refine blk_drew ?_ | refine blk_alloc ?_ _)); refine blk_put (cs := #[.int .i64 t1102, .int .i64 t1103, .slice none 0 0]) ?_ 2 _ rfl; (with_reducible repeat (first | refine blk_drewN ?_ _ | refine blk_drew ?_ | refine blk_alloc ?_ _)); refine blk_put (cs := #[.int .i64 t1102, .int .i64 0, .slice none 0 0]) ?_ 1 _ rfl; (with_reducible repeat (first | refine blk_drewN ?_ _ | refine blk_drew ?_ | refine blk_alloc ?_ _)); refine blk_put (cs := #[.int .i64 0, .int .i64 0, .slice none 0 0]) ?_ 0 _ rfl; (with_reducible repeat (first | refine blk_drewN ?_ _ | refine blk_drew ?_ | refine blk_alloc ?_ _)); exact BK1108.out) hb) (below_step (BL HB.out) hb) ?_; clear HO1098 HO1101 HO1106 BK1092 BK1108 HB; intro HO1098 HO1101 HO1106 HO1113 BK1092 BK1108 HB; (try clear hb); (try clear hb2); (try clear hk); (try clear hi); (try clear ho0)) | ((with_reducible refine gate_dst (N := 8) rfl ?_); refine boxE (N := 8) (cs := #[.int .i64 0, .int .i64 0, .slice none 0 0]) (t := 30) ?_; intro gb1114 hg w32 hbox hb; refine E14 (Kd.R_below (PR HO1098.out) hb) (Kd.R_below (PR HO1101.out) hb) (Kd.R_below (PR HO1106.out) hb) (Kd.R_below (PR HO1113.out) hb) (bB BK1092.out hb) (bB BK1108.out hb) (below_step (BL HB.out) hb) (hbox) (gwM hg (below_size (BL HB.out)) : w.heap.size ≤ gb1114) (gwM hg (below_size (BL HB.out)) : w.heap.size ≤ gb1114) ((nB BK1092.out hg : gb1092 ≠ gb1114)) ((nC BK1092.out hg : gb1114 ≠ gb1092)) ((nB BK1108.out hg : gb1108 ≠ gb1114)) ((nC BK1108.out hg : gb1114 ≠ gb1108)) ?_; clear HO1098 HO1101 HO1106 HO1113 BK1092 BK1108 HB; intro HO1098 HO1101 HO1106 HO1113 BK1092 BK1108 HB BK1114 GW1114 GE1114 NB1092_1114 NB1114_1092 NB1108_1114 NB1114_1108; clear hb hbox hg; have hnb33 := NB1114_1092.out; have hnc33 := NB1092_1114.out; have hnb34 := NB1114_1108.out; have hnc34 := NB1108_1114.out; obtain ⟨hcz35_0, hcz35_1, hcz35_2, hfz35_0, hfz35_1, hfz35_2⟩ := cz3 BK1114.out; obtain ⟨Ao36, co36, eo36⟩ := Kd.R_slice HO1113.out; subst eo36) | ((with_reducible refine gate_callee (f := 43) rfl ?_); refine goesM (N := (some 36)) #[.slice A1 l1.length c1] Try.func43 ?_; (with_reducible refine (laws_toIntS.calls k _ _ l1 t1115 _ ?side1 ?side2 A14.out).mono ?_); (case side1 => exact Kd.C_below HR1.out (BL HB.out)); (case side2 => exact HC1.out); rintro e w37 ⟨v1116, rfl, ho0, hb⟩; refine ⟨_, rfl, ?_⟩; refine E9 (Kd.R_below (by (with_reducible repeat (first | apply Kd.R_alloc | apply Kd.R_drewN | apply Kd.R_drew)); exact (Kd.R_mono (Kd.R_far (p := ⟨gb1114, 2, none⟩) (Kd.R_far (p := ⟨gb1114, 1, none⟩) (Kd.R_far (p := ⟨gb1114, 0, none⟩) (Kd.R_types HO1098.out BK1114.out (by decide)) (fun _ hk => hk.2) (.int .i64 t1109)) (fun _ hk => hk.2) (.int .i64 t1110)) (fun _ hk => hk.2) (.slice Ao36 t1111.length co36)) (fun _ h_ => h_.1))) hb) (Kd.R_elder' (by (with_reducible repeat (first | apply Kd.R_alloc | apply Kd.R_drewN | apply Kd.R_drew)); exact (Kd.R_mono (Kd.R_far (p := ⟨gb1114, 2, none⟩) (Kd.R_far (p := ⟨gb1114, 1, none⟩) (Kd.R_far (p := ⟨gb1114, 0, none⟩) (Kd.R_types HO1101.out BK1114.out (by decide)) (fun _ hk => hk.2) (.int .i64 t1109)) (fun _ hk => hk.2) (.int .i64 t1110)) (fun _ hk => hk.2) (.slice Ao36 t1111.length co36)) (fun _ h_ => h_.1))) (Kd.R_base ho0) hb) (Kd.R_below (by (with_reducible repeat (first | apply Kd.R_alloc | apply Kd.R_drewN | apply Kd.R_drew)); exact (Kd.R_mono (Kd.R_far (p := ⟨gb1114, 2, none⟩) (Kd.R_far (p := ⟨gb1114, 1, none⟩) (Kd.R_far (p := ⟨gb1114, 0, none⟩) (Kd.R_types HO1106.out BK1114.out (by decide)) (fun _ hk => hk.2) (.int .i64 t1109)) (fun _ hk => hk.2) (.int .i64 t1110)) (fun _ hk => hk.2) (.slice Ao36 t1111.length co36)) (fun _ h_ => h_.1))) hb) (Kd.R_below (by (with_reducible repeat (first | apply Kd.R_alloc | apply Kd.R_drewN | apply Kd.R_drew)); exact (Kd.R_mono (Kd.R_far (p := ⟨gb1114, 2, none⟩) (Kd.R_far (p := ⟨gb1114, 1, none⟩) (Kd.R_far (p := ⟨gb1114, 0, none⟩) (Kd.R_types HO1113.out BK1114.out (by decide)) (fun _ hk => hk.2) (.int .i64 t1109)) (fun _ hk => hk.2) (.int .i64 t1110)) (fun _ hk => hk.2) (.slice Ao36 t1111.length co36)) (fun _ h_ => h_.1))) hb) (Kd.R_lower (Kd.R_new' ho0 (Kd.R_lt (by (with_reducible repeat (first | apply Kd.R_alloc | apply Kd.R_drewN | apply Kd.R_drew)); exact (Kd.R_mono (Kd.R_far (p := ⟨gb1114, 2, none⟩) (Kd.R_far (p := ⟨gb1114, 1, none⟩) (Kd.R_far (p := ⟨gb1114, 0, none⟩) (Kd.R_types HO1101.out BK1114.out (by decide)) (fun _ hk => hk.2) (.int .i64 t1109)) (fun _ hk => hk.2) (.int .i64 t1110)) (fun _ hk => hk.2) (.slice Ao36 t1111.length co36)) (fun _ h_ => h_.1))))) (below_size (BL HB.out))) (blk_below (g := gb1092) (o := .cells #[.int .i64 a0_0, .int .i64 a0_1, .slice A0_2 l0_2.length c0_2] 24 (0, 0)) (by (with_reducible repeat (first | refine blk_drewN ?_ _ | refine blk_drew ?_ | refine blk_alloc ?_ _)); refine blk_far ?_ NB1092_1114.out _; (with_reducible repeat (first | refine blk_drewN ?_ _ | refine blk_drew ?_ | refine blk_alloc ?_ _)); refine blk_far ?_ NB1092_1114.out _; (with_reducible repeat (first | refine blk_drewN ?_ _ | refine blk_drew ?_ | refine blk_alloc ?_ _)); refine blk_far ?_ NB1092_1114.out _; (with_reducible repeat (first | refine blk_drewN ?_ _ | refine blk_drew ?_ | refine blk_alloc ?_ _)); exact BK1092.out) hb) (blk_below (g := gb1108) (o := .cells #[.int .i64 t1102, .int .i64 t1103, .slice Ao29 t1104.length co29] 30 (0, 0)) (by (with_reducible repeat (first | refine blk_drewN ?_ _ | refine blk_drew ?_ | refine blk_alloc ?_ _)); refine blk_far ?_ NB1108_1114.out _; (with_reducible repeat (first | refine blk_drewN ?_ _ | refine blk_drew ?_ | refine blk_alloc ?_ _)); refine blk_far ?_ NB1108_1114.out _; (with_reducible repeat (first | refine blk_drewN ?_ _ | refine blk_drew ?_ | refine blk_alloc ?_ _)); refine blk_far ?_ NB1108_1114.out _; (with_reducible repeat (first | refine blk_drewN ?_ _ | refine blk_drew ?_ | refine blk_alloc ?_ _)); exact BK1108.out) hb) (blk_below (g := gb1114) (o := .cells #[.int .i64 t1109, .int .i64 t1110, .slice Ao36 t1111.length co36] 30 (0, 0)) (by (with_reducible repeat (first | refine blk_drewN ?_ _ | refine blk_drew ?_ | refine blk_alloc ?_ _)); refine blk_put (cs := #[.int .i64 t1109, .int .i64 t1110, .slice none 0 0]) ?_ 2 _ rfl; (with_reducible repeat (first | refine blk_drewN ?_ _ | refine blk_drew ?_ | refine blk_alloc ?_ _)); refine blk_put (cs := #[.int .i64 t1109, .int .i64 0, .slice none 0 0]) ?_ 1 _ rfl; (with_reducible repeat (first | refine blk_drewN ?_ _ | refine blk_drew ?_ | refine blk_alloc ?_ _)); refine blk_put (cs := #[.int .i64 0, .int .i64 0, .slice none 0 0]) ?_ 0 _ rfl; (with_reducible repeat (first | refine blk_drewN ?_ _ | refine blk_drew ?_ | refine blk_alloc ?_ _)); exact BK1114.out) hb) (below_step (BL HB.out) hb) ?_; clear HO1098 HO1101 HO1106 HO1113 BK1092 BK1108 BK1114 HB; intro HO1098 HO1101 HO1106 HO1113 HO1117 BK1092 BK1108 BK1114 HB; (try clear hb); (try clear hb2); (try clear hk); (try clear hi); (try clear ho0); obtain ⟨hcz38_0, hcz38_1, hcz38_2, hfz38_0, hfz38_1, hfz38_2⟩ := cz3 BK1114.out; obtain ⟨Ao39, co39, eo39⟩ := Kd.R_slice HO1117.out; subst eo39) | ((with_reducible refine gate_callee (f := 44) rfl ?_); refine goesM (N := (some 40)) #[.agg #[.int .i64 t1109, .int .i64 t1110, .slice Ao36 t1111.length co36], .slice Ao39 t1115.length co39] Try.func44 ?_; (with_reducible refine (impl_BoardWithBits.calls k t1109 t1110 _ _ t1111 _ _ t1115 t1118 t1119 t1120 t1123 _ ?side1 ?side2 ?side3 ?side4 A15.out).mono ?_); (case side1 => repeat (first | exact (Kd.R_reads' HO1113.out).2.2 | (with_reducible refine Kd.C_alloc ?_ _) | (with_reducible refine Kd.C_drewN ?_ _) | (with_reducible refine Kd.C_drew ?_))); (case side2 => exact (Kd.R_reads' HO1113.out).2.1); (case side3 => repeat (first | exact (Kd.R_reads' HO1117.out).2.2 | (with_reducible refine Kd.C_alloc ?_ _) | (with_reducible refine Kd.C_drewN ?_ _) | (with_reducible refine Kd.C_drew ?_))); (case side4 => exact (Kd.R_reads' HO1117.out).2.1); rintro e w40 ⟨v1121, rfl, ho0, hb⟩; refine ⟨_, rfl, ?_⟩; refine E10 (Kd.R_elder' (PR HO1098.out) (Kd.R_base ho0) hb) (Kd.R_below (PR HO1101.out) hb) (Kd.R_elder' (PR HO1106.out) (Kd.R_base ho0) hb) (Kd.R_elder' (PR HO1113.out) (Kd.R_base ho0) hb) (Kd.R_below (PR HO1117.out) hb) (Kd.R_lower (Kd.R_new' (Kd.R_new' (Kd.R_new' ho0 (Kd.R_lt (PR HO1098.out))) (Kd.R_lt (PR HO1106.out))) (Kd.R_lt (PR HO1113.out))) (below_size (BL HB.out))) (bB BK1092.out hb) (bB BK1108.out hb) (bB BK1114.out hb) (below_step (BL HB.out) hb) ?_; clear HO1098 HO1101 HO1106 HO1113 HO1117 BK1092 BK1108 BK1114 HB; intro HO1098 HO1101 HO1106 HO1113 HO1117 HO1122 BK1092 BK1108 BK1114 HB; (try clear hb); (try clear hb2); (try clear hk); (try clear hi); (try clear ho0)) | ((with_reducible refine gate_dst (N := 10) rfl ?_); refine boxE (N := 10) (cs := #[.int .i64 0, .int .i64 0, .slice none 0 0]) (t := 30) ?_; intro gb1124 hg w41 hbox hb; refine E19 (Kd.R_below (PR HO1098.out) hb) (Kd.R_below (PR HO1101.out) hb) (Kd.R_below (PR HO1106.out) hb) (Kd.R_below (PR HO1113.out) hb) (Kd.R_below (PR HO1117.out) hb) (Kd.R_below (PR HO1122.out) hb) (bB BK1092.out hb) (bB BK1108.out hb) (bB BK1114.out hb) (below_step (BL HB.out) hb) (hbox) (gwM hg (below_size (BL HB.out)) : w.heap.size ≤ gb1124) (gwM hg (below_size (BL HB.out)) : w.heap.size ≤ gb1124) ((nB BK1092.out hg : gb1092 ≠ gb1124)) ((nC BK1092.out hg : gb1124 ≠ gb1092)) ((nB BK1108.out hg : gb1108 ≠ gb1124)) ((nC BK1108.out hg : gb1124 ≠ gb1108)) ((nB BK1114.out hg : gb1114 ≠ gb1124)) ((nC BK1114.out hg : gb1124 ≠ gb1114)) ?_; clear HO1098 HO1101 HO1106 HO1113 HO1117 HO1122 BK1092 BK1108 BK1114 HB; intro HO1098 HO1101 HO1106 HO1113 HO1117 HO1122 BK1092 BK1108 BK1114 HB BK1124 GW1124 GE1124 NB1092_1124 NB1124_1092 NB1108_1124 NB1124_1108 NB1114_1124 NB1124_1114; clear hb hbox hg; have hnb42 := NB1124_1092.out; have hnc42 := NB1092_1124.out; have hnb43 := NB1124_1108.out; have hnc43 := NB1108_1124.out; have hnb44 := NB1124_1114.out; have hnc44 := NB1114_1124.out; obtain ⟨hcz45_0, hcz45_1, hcz45_2, hfz45_0, hfz45_1, hfz45_2⟩ := cz3 BK1124.out; obtain ⟨Ao46, co46, eo46⟩ := Kd.R_slice HO1122.out; subst eo46))
  (try simp only [Act.put, List.setIfInBounds_toArray, List.set_cons_zero, List.set_cons_succ])
  go_cut [51] (fun v51 wc => ∃ (kq : Nat) (x51_15 : Bool), v51 = .bool x51_15 ∧ Aside0 (laws_FnExactBoardWithBits.j0 kq l1 t1107 t1115 t1123 x51_15 a0_0 a0_1 l0_2 t1102 t1103 t1104 t1109 t1110 t1111 t1118 t1119 t1120 = some true) ∧ Aside0 (kq ≤ k) ∧ Aside0 (Kd.R (Kd.int .i64) 3 wc w.heap.size (fun _ => True) (.slice Ao39 t1115.length co39) t1115) ∧ Aside0 (Kd.R k73 73 wc w.heap.size (fun k_ => some k_ ≠ ((.slice Ao36 t1111.length co36) : Value).ownBlock ∧ some k_ ≠ ((.slice Ao46 t1120.length co46) : Value).ownBlock) (.slice Ao29 t1104.length co29) t1104) ∧ Aside0 (Kd.R k73 73 wc w.heap.size (fun k_ => some k_ ≠ ((.slice Ao29 t1104.length co29) : Value).ownBlock ∧ some k_ ≠ ((.slice Ao46 t1120.length co46) : Value).ownBlock) (.slice Ao36 t1111.length co36) t1111) ∧ Aside0 (Kd.R k73 73 wc w.heap.size (fun k_ => some k_ ≠ ((.slice Ao29 t1104.length co29) : Value).ownBlock ∧ some k_ ≠ ((.slice Ao36 t1111.length co36) : Value).ownBlock) (.slice Ao46 t1120.length co46) t1120) ∧ Aside0 (wc.heap[gb1092]? = some (.cells #[.int .i64 a0_0, .int .i64 a0_1, (.slice A0_2 l0_2.length c0_2)] 24 (0, 0))) ∧ Aside0 (wc.heap[gb1108]? = some (.cells #[.int .i64 t1102, .int .i64 t1103, (.slice Ao29 t1104.length co29)] 30 (0, 0))) ∧ Aside0 (wc.heap[gb1114]? = some (.cells #[.int .i64 t1109, .int .i64 t1110, (.slice Ao36 t1111.length co36)] 30 (0, 0))) ∧ Aside0 (wc.heap[gb1124]? = some (.cells #[.int .i64 t1118, .int .i64 t1119, (.slice Ao46 t1120.length co46)] 30 (0, 0))) ∧ Aside0 (Below w.heap.size w wc))
  case first =>
    have H := HC16.out
    clear HC16
    replace H := bindA H; obtain ⟨t1125, A47, H⟩ := H
    by_cases c48 : t1125 = true
    · subst c48
      have H1 : (laws_FnExactBoardWithBits.j0 k l1 t1107 t1115 t1123 (t1123 != t1107) a0_0 a0_1 l0_2 t1102 t1103 t1104 t1109 t1110 t1111 t1118 t1119 t1120) = some true := by rw [if_pos rfl] at H; exact H
      clear H
      have H := H1
      clear H1
      have H' := Aside0.mk H
      clear H
      have hnb49 := NB1124_1092.out
      have hnc49 := NB1092_1124.out
      have hnb50 := NB1124_1108.out
      have hnc50 := NB1108_1124.out
      have hnb51 := NB1124_1114.out
      have hnc51 := NB1114_1124.out
      obtain ⟨hcz52_0, hcz52_1, hcz52_2, hfz52_0, hfz52_1, hfz52_2⟩ := cz3 BK1124.out
      have hnb53 := NB1108_1092.out
      have hnc53 := NB1092_1108.out
      have hnb54 := NB1108_1114.out
      have hnc54 := NB1114_1108.out
      obtain ⟨hcz55_0, hcz55_1, hcz55_2, hfz55_0, hfz55_1, hfz55_2⟩ := cz3 BK1108.out
      go_wp2_with (first | ((with_reducible refine gate_callee (f := 17) rfl ?_); refine goesM (N := (some 45)) #[.agg #[.int .i64 t1118, .int .i64 t1119, .slice Ao46 t1120.length co46], .agg #[.int .i64 t1102, .int .i64 t1103, .slice Ao29 t1104.length co29]] Try.func17 ?_; (with_reducible refine (laws_eqBoard.calls k t1118 t1119 _ _ t1120 t1102 t1103 _ _ t1104 true _ ?side1 ?side2 ?side3 ?side4 A47.out).mono ?_); (case side1 => refine (Kd.R_reads' (e := 73) (base := w.heap.size) (ok := fun k_ => (((True ∧ some k_ ≠ (.slice Ao23 t1096.length co23 : Value).ownBlock) ∧ some k_ ≠ (.slice Ao29 t1104.length co29 : Value).ownBlock) ∧ some k_ ≠ (.slice Ao36 t1111.length co36 : Value).ownBlock)) (n := t1120.length) (c := co46) ?_).2.2; exact (by (with_reducible repeat (first | apply Kd.R_alloc | apply Kd.R_drewN | apply Kd.R_drew)); exact (Kd.R_mono (Kd.R_far (p := ⟨gb1124, 2, none⟩) (Kd.R_far (p := ⟨gb1124, 1, none⟩) (Kd.R_far (p := ⟨gb1124, 0, none⟩) (Kd.R_types HO1122.out BK1124.out (by decide)) (fun _ hk => hk.2) (.int .i64 t1118)) (fun _ hk => hk.2) (.int .i64 t1119)) (fun _ hk => hk.2) (.slice Ao46 t1120.length co46)) (fun _ h_ => h_.1)))); (case side2 => exact (Kd.R_reads' HO1122.out).2.1); (case side3 => refine (Kd.R_reads' (e := 73) (base := w.heap.size) (ok := fun k_ => (((True ∧ some k_ ≠ (.slice Ao23 t1096.length co23 : Value).ownBlock) ∧ some k_ ≠ (.slice Ao36 t1111.length co36 : Value).ownBlock) ∧ some k_ ≠ (.slice Ao46 t1120.length co46 : Value).ownBlock)) (n := t1104.length) (c := co29) ?_).2.2; exact (by (with_reducible repeat (first | apply Kd.R_alloc | apply Kd.R_drewN | apply Kd.R_drew)); exact (Kd.R_mono (Kd.R_far (p := ⟨gb1124, 2, none⟩) (Kd.R_far (p := ⟨gb1124, 1, none⟩) (Kd.R_far (p := ⟨gb1124, 0, none⟩) (Kd.R_types HO1106.out BK1124.out (by decide)) (fun _ hk => hk.2) (.int .i64 t1118)) (fun _ hk => hk.2) (.int .i64 t1119)) (fun _ hk => hk.2) (.slice Ao46 t1120.length co46)) (fun _ h_ => h_.1)))); (case side4 => exact (Kd.R_reads' HO1106.out).2.1); rintro e w56 ⟨rfl, hb⟩; refine ⟨_, rfl, ?_⟩; refine E11 (Kd.R_below (by (with_reducible repeat (first | apply Kd.R_alloc | apply Kd.R_drewN | apply Kd.R_drew)); exact (Kd.R_mono (Kd.R_far (p := ⟨gb1124, 2, none⟩) (Kd.R_far (p := ⟨gb1124, 1, none⟩) (Kd.R_far (p := ⟨gb1124, 0, none⟩) (Kd.R_types HO1098.out BK1124.out (by decide)) (fun _ hk => hk.2) (.int .i64 t1118)) (fun _ hk => hk.2) (.int .i64 t1119)) (fun _ hk => hk.2) (.slice Ao46 t1120.length co46)) (fun _ h_ => h_.1))) hb) (Kd.R_below (by (with_reducible repeat (first | apply Kd.R_alloc | apply Kd.R_drewN | apply Kd.R_drew)); exact (Kd.R_mono (Kd.R_far (p := ⟨gb1124, 2, none⟩) (Kd.R_far (p := ⟨gb1124, 1, none⟩) (Kd.R_far (p := ⟨gb1124, 0, none⟩) (Kd.R_types HO1101.out BK1124.out (by decide)) (fun _ hk => hk.2) (.int .i64 t1118)) (fun _ hk => hk.2) (.int .i64 t1119)) (fun _ hk => hk.2) (.slice Ao46 t1120.length co46)) (fun _ h_ => h_.1))) hb) (Kd.R_below (by (with_reducible repeat (first | apply Kd.R_alloc | apply Kd.R_drewN | apply Kd.R_drew)); exact (Kd.R_mono (Kd.R_far (p := ⟨gb1124, 2, none⟩) (Kd.R_far (p := ⟨gb1124, 1, none⟩) (Kd.R_far (p := ⟨gb1124, 0, none⟩) (Kd.R_types HO1106.out BK1124.out (by decide)) (fun _ hk => hk.2) (.int .i64 t1118)) (fun _ hk => hk.2) (.int .i64 t1119)) (fun _ hk => hk.2) (.slice Ao46 t1120.length co46)) (fun _ h_ => h_.1))) hb) (Kd.R_below (by (with_reducible repeat (first | apply Kd.R_alloc | apply Kd.R_drewN | apply Kd.R_drew)); exact (Kd.R_mono (Kd.R_far (p := ⟨gb1124, 2, none⟩) (Kd.R_far (p := ⟨gb1124, 1, none⟩) (Kd.R_far (p := ⟨gb1124, 0, none⟩) (Kd.R_types HO1113.out BK1124.out (by decide)) (fun _ hk => hk.2) (.int .i64 t1118)) (fun _ hk => hk.2) (.int .i64 t1119)) (fun _ hk => hk.2) (.slice Ao46 t1120.length co46)) (fun _ h_ => h_.1))) hb) (Kd.R_below (by (with_reducible repeat (first | apply Kd.R_alloc | apply Kd.R_drewN | apply Kd.R_drew)); exact (Kd.R_mono (Kd.R_far (p := ⟨gb1124, 2, none⟩) (Kd.R_far (p := ⟨gb1124, 1, none⟩) (Kd.R_far (p := ⟨gb1124, 0, none⟩) (Kd.R_types HO1117.out BK1124.out (by decide)) (fun _ hk => hk.2) (.int .i64 t1118)) (fun _ hk => hk.2) (.int .i64 t1119)) (fun _ hk => hk.2) (.slice Ao46 t1120.length co46)) (fun _ h_ => h_.1))) hb) (Kd.R_below (by (with_reducible repeat (first | apply Kd.R_alloc | apply Kd.R_drewN | apply Kd.R_drew)); exact (Kd.R_mono (Kd.R_far (p := ⟨gb1124, 2, none⟩) (Kd.R_far (p := ⟨gb1124, 1, none⟩) (Kd.R_far (p := ⟨gb1124, 0, none⟩) (Kd.R_types HO1122.out BK1124.out (by decide)) (fun _ hk => hk.2) (.int .i64 t1118)) (fun _ hk => hk.2) (.int .i64 t1119)) (fun _ hk => hk.2) (.slice Ao46 t1120.length co46)) (fun _ h_ => h_.1))) hb) (blk_below (g := gb1092) (o := .cells #[.int .i64 a0_0, .int .i64 a0_1, .slice A0_2 l0_2.length c0_2] 24 (0, 0)) (by (with_reducible repeat (first | refine blk_drewN ?_ _ | refine blk_drew ?_ | refine blk_alloc ?_ _)); refine blk_far ?_ NB1092_1124.out _; (with_reducible repeat (first | refine blk_drewN ?_ _ | refine blk_drew ?_ | refine blk_alloc ?_ _)); refine blk_far ?_ NB1092_1124.out _; (with_reducible repeat (first | refine blk_drewN ?_ _ | refine blk_drew ?_ | refine blk_alloc ?_ _)); refine blk_far ?_ NB1092_1124.out _; (with_reducible repeat (first | refine blk_drewN ?_ _ | refine blk_drew ?_ | refine blk_alloc ?_ _)); exact BK1092.out) hb) (blk_below (g := gb1108) (o := .cells #[.int .i64 t1102, .int .i64 t1103, .slice Ao29 t1104.length co29] 30 (0, 0)) (by (with_reducible repeat (first | refine blk_drewN ?_ _ | refine blk_drew ?_ | refine blk_alloc ?_ _)); refine blk_far ?_ NB1108_1124.out _; (with_reducible repeat (first | refine blk_drewN ?_ _ | refine blk_drew ?_ | refine blk_alloc ?_ _)); refine blk_far ?_ NB1108_1124.out _; (with_reducible repeat (first | refine blk_drewN ?_ _ | refine blk_drew ?_ | refine blk_alloc ?_ _)); refine blk_far ?_ NB1108_1124.out _; (with_reducible repeat (first | refine blk_drewN ?_ _ | refine blk_drew ?_ | refine blk_alloc ?_ _)); exact BK1108.out) hb) (blk_below (g := gb1114) (o := .cells #[.int .i64 t1109, .int .i64 t1110, .slice Ao36 t1111.length co36] 30 (0, 0)) (by (with_reducible repeat (first | refine blk_drewN ?_ _ | refine blk_drew ?_ | refine blk_alloc ?_ _)); refine blk_far ?_ NB1114_1124.out _; (with_reducible repeat (first | refine blk_drewN ?_ _ | refine blk_drew ?_ | refine blk_alloc ?_ _)); refine blk_far ?_ NB1114_1124.out _; (with_reducible repeat (first | refine blk_drewN ?_ _ | refine blk_drew ?_ | refine blk_alloc ?_ _)); refine blk_far ?_ NB1114_1124.out _; (with_reducible repeat (first | refine blk_drewN ?_ _ | refine blk_drew ?_ | refine blk_alloc ?_ _)); exact BK1114.out) hb) (blk_below (g := gb1124) (o := .cells #[.int .i64 t1118, .int .i64 t1119, .slice Ao46 t1120.length co46] 30 (0, 0)) (by (with_reducible repeat (first | refine blk_drewN ?_ _ | refine blk_drew ?_ | refine blk_alloc ?_ _)); refine blk_put (cs := #[.int .i64 t1118, .int .i64 t1119, .slice none 0 0]) ?_ 2 _ rfl; (with_reducible repeat (first | refine blk_drewN ?_ _ | refine blk_drew ?_ | refine blk_alloc ?_ _)); refine blk_put (cs := #[.int .i64 t1118, .int .i64 0, .slice none 0 0]) ?_ 1 _ rfl; (with_reducible repeat (first | refine blk_drewN ?_ _ | refine blk_drew ?_ | refine blk_alloc ?_ _)); refine blk_put (cs := #[.int .i64 0, .int .i64 0, .slice none 0 0]) ?_ 0 _ rfl; (with_reducible repeat (first | refine blk_drewN ?_ _ | refine blk_drew ?_ | refine blk_alloc ?_ _)); exact BK1124.out) hb) (below_step (BL HB.out) hb) ?_; clear HO1098 HO1101 HO1106 HO1113 HO1117 HO1122 BK1092 BK1108 BK1114 BK1124 HB; intro HO1098 HO1101 HO1106 HO1113 HO1117 HO1122 BK1092 BK1108 BK1114 BK1124 HB; (try clear hb); (try clear hb2); (try clear hk); (try clear hi)))
      go_meet
      case rel => exact ⟨_, ((t1123 != t1107)), RG, H', ⟨by first | omega | exact Nat.le_refl _⟩, ⟨by (with_reducible repeat (first | apply Kd.R_alloc | apply Kd.R_drewN | apply Kd.R_drew)); exact Kd.R_mono HO1117.out (fun _ hk => trivial)⟩, ⟨by (with_reducible repeat (first | apply Kd.R_alloc | apply Kd.R_drewN | apply Kd.R_drew)); exact Kd.R_mono HO1106.out (fun _ hk => ⟨hk.1.2, hk.2⟩)⟩, ⟨by (with_reducible repeat (first | apply Kd.R_alloc | apply Kd.R_drewN | apply Kd.R_drew)); exact Kd.R_mono HO1113.out (fun _ hk => ⟨hk.1.2, hk.2⟩)⟩, ⟨by (with_reducible repeat (first | apply Kd.R_alloc | apply Kd.R_drewN | apply Kd.R_drew)); exact Kd.R_mono HO1122.out (fun _ hk => ⟨hk.1.2, hk.2⟩)⟩, ⟨PB BK1092.out⟩, ⟨PB BK1108.out⟩, ⟨PB BK1114.out⟩, ⟨PB BK1124.out⟩, ⟨BL HB.out⟩⟩
    replace c48 := Bool.eq_false_iff.mpr c48
    subst c48
    have H1 : (laws_FnExactBoardWithBits.j0 k l1 t1107 t1115 t1123 true a0_0 a0_1 l0_2 t1102 t1103 t1104 t1109 t1110 t1111 t1118 t1119 t1120) = some true := by rw [if_neg (show ¬ (false = true) by decide)] at H; exact H
    exact absurd H1 (by cases k <;> simp [laws_FnExactBoardWithBits.j0])
  clear HC16
  try clear c1; try clear c3b0; try clear c3b1; try clear c6b0; try clear hcz18_0; try clear hcz18_1; try clear hcz18_2; try clear hcz20_0; try clear hcz20_1; try clear hcz20_2; try clear hcz28_0; try clear hcz28_1; try clear hcz28_2; try clear hcz30_0; try clear hcz30_1; try clear hcz30_2; try clear hcz35_0; try clear hcz35_1; try clear hcz35_2; try clear hcz38_0; try clear hcz38_1; try clear hcz38_2; try clear hcz45_0; try clear hcz45_1; try clear hcz45_2; try clear hfz18_0; try clear hfz18_1; try clear hfz18_2; try clear hfz20_0; try clear hfz20_1; try clear hfz20_2; try clear hfz28_0; try clear hfz28_1; try clear hfz28_2; try clear hfz30_0; try clear hfz30_1; try clear hfz30_2; try clear hfz35_0; try clear hfz35_1; try clear hfz35_2; try clear hfz38_0; try clear hfz38_1; try clear hfz38_2; try clear hfz45_0; try clear hfz45_1; try clear hfz45_2
  obtain ⟨kq, x51_15, rfl, HA, HJ15, HO_9, HO_1109002, HO_1115002, HO_1125002, BK1092, BK1108, BK1114, BK1124, HB⟩ := hcut
  cases kq with
  | zero => exact absurd HA.out (by simp [laws_FnExactBoardWithBits.j0])
  | succ kj15 => ?_
  have H := HA.out
  clear HA
  simp only [laws_FnExactBoardWithBits.j0] at H
  by_cases c65 : x51_15 = true
  · subst c65
    have H1 : (some false) = some true := by rw [if_pos rfl] at H; exact H
    exact absurd H1 (by simp)
  replace c65 := Bool.eq_false_iff.mpr c65
  subst c65
  have H1 : ((laws_toBoard.f kj15 a0_0 a0_1 l0_2).bind fun bt1126 => ((laws_eqBoard.f kj15 t1109 t1110 t1111 bt1126.1 bt1126.2.1 bt1126.2.2).bind fun t1131 => (if t1131 = true then ((laws_toIntS.f kj15 l1).bind fun t1132 => ((laws_eqIntS.f kj15 t1115 t1132).bind fun t1135 => (if t1135 = true then ((laws_markBoard.f kj15 t1109 t1110 t1111 1).bind fun bt1136 => ((laws_markIntS.f kj15 t1115 bt1136.1).bind fun bt1138 => (if bt1138.1 < 0 then (laws_FnExactBoardWithBits.j1 kj15 l1 t1107 true a0_0 a0_1 l0_2 t1102 t1103 t1104 t1118 t1119 t1120) else ((laws_eqBoard.f kj15 t1118 t1119 t1120 t1102 t1103 t1104).bind fun t1140 => (if t1140 = true then (laws_FnExactBoardWithBits.j1 kj15 l1 t1107 (t1123 != t1107) a0_0 a0_1 l0_2 t1102 t1103 t1104 t1118 t1119 t1120) else (laws_FnExactBoardWithBits.j1 kj15 l1 t1107 true a0_0 a0_1 l0_2 t1102 t1103 t1104 t1118 t1119 t1120)))))) else (some false)))) else (some false)))) = some true := by rw [if_neg (show ¬ (false = true) by decide)] at H; exact H
  clear H
  have H := H1
  clear H1
  replace H := bindA H; obtain ⟨⟨t1126, t1127, t1128⟩, A66, H⟩ := H
  dsimp only at H
  replace H := bindA H; obtain ⟨t1131, A67, H⟩ := H
  by_cases c68 : t1131 = true
  · subst c68
    have H1 : ((laws_toIntS.f kj15 l1).bind fun t1132 => ((laws_eqIntS.f kj15 t1115 t1132).bind fun t1135 => (if t1135 = true then ((laws_markBoard.f kj15 t1109 t1110 t1111 1).bind fun bt1136 => ((laws_markIntS.f kj15 t1115 bt1136.1).bind fun bt1138 => (if bt1138.1 < 0 then (laws_FnExactBoardWithBits.j1 kj15 l1 t1107 true a0_0 a0_1 l0_2 t1102 t1103 t1104 t1118 t1119 t1120) else ((laws_eqBoard.f kj15 t1118 t1119 t1120 t1102 t1103 t1104).bind fun t1140 => (if t1140 = true then (laws_FnExactBoardWithBits.j1 kj15 l1 t1107 (t1123 != t1107) a0_0 a0_1 l0_2 t1102 t1103 t1104 t1118 t1119 t1120) else (laws_FnExactBoardWithBits.j1 kj15 l1 t1107 true a0_0 a0_1 l0_2 t1102 t1103 t1104 t1118 t1119 t1120)))))) else (some false)))) = some true := by rw [if_pos rfl] at H; exact H
    clear H
    have H := H1
    clear H1
    replace H := bindA H; obtain ⟨t1132, A69, H⟩ := H
    replace H := bindA H; obtain ⟨t1135, A70, H⟩ := H
    by_cases c71 : t1135 = true
    · subst c71
      have H1 : ((laws_markBoard.f kj15 t1109 t1110 t1111 1).bind fun bt1136 => ((laws_markIntS.f kj15 t1115 bt1136.1).bind fun bt1138 => (if bt1138.1 < 0 then (laws_FnExactBoardWithBits.j1 kj15 l1 t1107 true a0_0 a0_1 l0_2 t1102 t1103 t1104 t1118 t1119 t1120) else ((laws_eqBoard.f kj15 t1118 t1119 t1120 t1102 t1103 t1104).bind fun t1140 => (if t1140 = true then (laws_FnExactBoardWithBits.j1 kj15 l1 t1107 (t1123 != t1107) a0_0 a0_1 l0_2 t1102 t1103 t1104 t1118 t1119 t1120) else (laws_FnExactBoardWithBits.j1 kj15 l1 t1107 true a0_0 a0_1 l0_2 t1102 t1103 t1104 t1118 t1119 t1120)))))) = some true := by rw [if_pos rfl] at H; exact H
      clear H
      have H := H1
      clear H1
      replace H := bindA H; obtain ⟨⟨t1136, t1137⟩, A72, H⟩ := H
      dsimp only at H
      replace H := bindA H; obtain ⟨⟨t1138, t1139⟩, A73, H⟩ := H
      dsimp only at H
      have HC74 := Aside0.mk H
      clear H
      try go_wp2
      refine E9 (Kd.R_drew HO_9.out) (Kd.R_drew HO_1109002.out) (Kd.R_drew HO_1115002.out) (Kd.R_drew HO_1125002.out) (blk_drew BK1092.out) (blk_drew BK1108.out) (blk_drew BK1114.out) (blk_drew BK1124.out) (below_drew1 HB.out) ?_
      clear HO_9 HO_1109002 HO_1115002 HO_1125002 BK1092 BK1108 BK1114 BK1124 HB
      intro HO_9 HO_1109002 HO_1115002 HO_1125002 BK1092 BK1108 BK1114 BK1124 HB
      refine start_ (n := 5) (S := fun w' => w'.cell? ⟨gb1114, 0, none⟩ = some (.int .i64 t1109) ∧ w'.cell? ⟨gb1114, 1, none⟩ = some (.int .i64 t1110) ∧ w'.cell? ⟨gb1114, 2, none⟩ = some (.slice Ao36 t1111.length co36) ∧ w'.cell? ⟨gb1092, 0, none⟩ = some (.int .i64 a0_0) ∧ w'.cell? ⟨gb1092, 1, none⟩ = some (.int .i64 a0_1) ∧ w'.cell? ⟨gb1092, 2, none⟩ = some (.slice A0_2 l0_2.length c0_2)) (ds := []) #[false, false, false, false, false] (by kernel_rfl) rfl rfl ⟨(blk_cell BK1114.out 0).trans rfl, (blk_cell BK1114.out 1).trans rfl, (blk_cell BK1114.out 2).trans rfl, (blk_cell BK1092.out 0).trans rfl, (blk_cell BK1092.out 1).trans rfl, (blk_cell BK1092.out 2).trans rfl⟩ (fun hHeld => ?_)
      generalize wc.drew = w75 at HO_9 HO_1109002 HO_1115002 HO_1125002 BK1092 BK1108 BK1114 BK1124 HB hHeld ⊢
      refine take_ (i := 0) (N := some 52) (v := ?_) (a' := ?_) #[true, false, false, false, false] rfl rfl (by kernel_rfl) (fun _ _ _ h => h) (Or.inl ⟨by rfl, ?_⟩) hHeld ?_ ?_
      rotate_left
      · rintro w' ⟨s0, s1, s2, s3, s4, s5⟩
        go_simp
        with_reducible rfl
      rotate_left
      · simp only [Act.put, List.setIfInBounds_toArray, List.set_cons_zero, List.set_cons_succ, i64_w, i32_w]
        rfl
      refine take_ (i := 1) (N := some 53) (v := ?_) (a' := ?_) #[true, true, false, false, false] rfl rfl (by kernel_rfl) (fun _ _ _ h => h) (Or.inl ⟨by rfl, ?_⟩) hHeld ?_ ?_
      rotate_left
      · rintro w' ⟨s0, s1, s2, s3, s4, s5⟩
        go_simp
        with_reducible rfl
      rotate_left
      · simp only [Act.put, List.setIfInBounds_toArray, List.set_cons_zero, List.set_cons_succ, i64_w, i32_w]
        rfl
      refine one_ (i := 2) (N := some 54) #[true, true, true, false, false] rfl rfl (by kernel_rfl) (by decide) (fun K hK => ?_)
      refine goes_ Try.func15 (by kernel_rfl) rfl #[.agg #[.int .i64 a0_0, .int .i64 a0_1, .slice A0_2 l0_2.length c0_2]] (by rfl) rfl rfl (by (try simp only [List.map_toArray, List.map_cons, List.map_nil]); first | done | rfl | (simp only [List.length_drop, List.length_take]; rfl)) ?_
      with_reducible refine (laws_toBoard.calls kj15 a0_0 a0_1 _ _ l0_2 t1126 t1127 t1128 _ ?side1 ?side2 A66.out).mono ?_
      (case side1 => exact CB (Kd.C_below HR0_2.out HB.out))
      (case side2 => exact HC0_2.out)
      rintro e w76 ⟨v1129, rfl, ho0, hb⟩
      refine ⟨_, rfl, ?_⟩
      refine E10 (Kd.R_below (PR HO_9.out) hb) (Kd.R_elder' (PR HO_1109002.out) (Kd.R_base ho0) hb) (Kd.R_elder' (PR HO_1115002.out) (Kd.R_base ho0) hb) (Kd.R_elder' (PR HO_1125002.out) (Kd.R_base ho0) hb) (Kd.R_lower (Kd.R_new' (Kd.R_new' (Kd.R_new' ho0 (Kd.R_lt (PR HO_1109002.out))) (Kd.R_lt (PR HO_1115002.out))) (Kd.R_lt (PR HO_1125002.out))) (below_size (BL HB.out))) (bB BK1092.out hb) (bB BK1108.out hb) (bB BK1114.out hb) (bB BK1124.out hb) (below_step (BL HB.out) hb) ?_
      clear HO_9 HO_1109002 HO_1115002 HO_1125002 BK1092 BK1108 BK1114 BK1124 HB
      intro HO_9 HO_1109002 HO_1115002 HO_1125002 HO1130 BK1092 BK1108 BK1114 BK1124 HB
      (try clear hb)
      (try clear hb2)
      (try clear hk)
      (try clear hi)
      (try clear ho0)
      obtain ⟨Ao77, co77, eo77⟩ := Kd.R_slice HO1130.out
      (first | subst eo77 | (injection eo77 with f1_ f2_ f3_; have f4_ := f1_.symm; have f5_ := f3_.symm; clear f1_ f2_ f3_; subst f4_; subst f5_))
      refine hK.out _ _ ⟨(blk_cell BK1114.out 0).trans rfl, (blk_cell BK1114.out 1).trans rfl, (blk_cell BK1114.out 2).trans rfl, (blk_cell BK1092.out 0).trans rfl, (blk_cell BK1092.out 1).trans rfl, (blk_cell BK1092.out 2).trans rfl⟩ (fun hHeld => ?_)
      clear hK K
      refine norm_ (a' := ?_) ?_ ?_
      rotate_left
      · show Act.put _ (some 54) _ = _
        simp only [Act.put, List.setIfInBounds_toArray, List.set_cons_zero, List.set_cons_succ, i64_w, i32_w]
        rfl
      refine one_ (i := 3) (N := some 55) #[true, true, true, true, false] rfl rfl (by kernel_rfl) (by decide) (fun K hK => ?_)
      refine goes_ Try.func17 (by kernel_rfl) rfl #[.agg #[.int .i64 t1109, .int .i64 t1110, .slice Ao36 t1111.length co36], .agg #[.int .i64 t1126, .int .i64 t1127, .slice Ao77 t1128.length co77]] (by rfl) rfl rfl (by (try simp only [List.map_toArray, List.map_cons, List.map_nil]); first | done | rfl | (simp only [List.length_drop, List.length_take]; rfl)) ?_
      with_reducible refine (laws_eqBoard.calls kj15 t1109 t1110 _ _ t1111 t1126 t1127 _ _ t1128 true _ ?side1 ?side2 ?side3 ?side4 A67.out).mono ?_
      (case side1 => repeat (first | exact (Kd.R_reads' HO_1115002.out).2.2 | (with_reducible refine Kd.C_alloc ?_ _) | (with_reducible refine Kd.C_drewN ?_ _) | (with_reducible refine Kd.C_drew ?_)))
      (case side2 => exact (Kd.R_reads' HO_1115002.out).2.1)
      (case side3 => repeat (first | exact (Kd.R_reads' HO1130.out).2.2 | (with_reducible refine Kd.C_alloc ?_ _) | (with_reducible refine Kd.C_drewN ?_ _) | (with_reducible refine Kd.C_drew ?_)))
      (case side4 => exact (Kd.R_reads' HO1130.out).2.1)
      rintro e w78 ⟨rfl, hb⟩
      refine ⟨_, rfl, ?_⟩
      refine E10 (Kd.R_below (PR HO_9.out) hb) (Kd.R_below (PR HO_1109002.out) hb) (Kd.R_below (PR HO_1115002.out) hb) (Kd.R_below (PR HO_1125002.out) hb) (Kd.R_below (PR HO1130.out) hb) (bB BK1092.out hb) (bB BK1108.out hb) (bB BK1114.out hb) (bB BK1124.out hb) (below_step (BL HB.out) hb) ?_
      clear HO_9 HO_1109002 HO_1115002 HO_1125002 HO1130 BK1092 BK1108 BK1114 BK1124 HB
      intro HO_9 HO_1109002 HO_1115002 HO_1125002 HO1130 BK1092 BK1108 BK1114 BK1124 HB
      (try clear hb)
      (try clear hb2)
      (try clear hk)
      (try clear hi)
      refine hK.out _ _ ⟨(blk_cell BK1114.out 0).trans rfl, (blk_cell BK1114.out 1).trans rfl, (blk_cell BK1114.out 2).trans rfl, (blk_cell BK1092.out 0).trans rfl, (blk_cell BK1092.out 1).trans rfl, (blk_cell BK1092.out 2).trans rfl⟩ (fun hHeld => ?_)
      clear hK K
      refine norm_ (a' := ?_) ?_ ?_
      rotate_left
      · show Act.put _ (some 55) _ = _
        simp only [Act.put, List.setIfInBounds_toArray, List.set_cons_zero, List.set_cons_succ, i64_w, i32_w]
        rfl
      refine pure_ (i := 4) (N := some 56) (v := ?_) (a' := ?_) #[true, true, true, true, true] rfl rfl (by kernel_rfl) (fun _ _ _ h => h) (Or.inl ⟨by rfl, ?_⟩) ?_ ?_
      rotate_left
      · intro w'
        go_simp
        with_reducible rfl
      rotate_left
      · simp only [Act.put, List.setIfInBounds_toArray, List.set_cons_zero, List.set_cons_succ, i64_w, i32_w]
        rfl
      refine done_ (by kernel_rfl) ?_
      go_upto_region 20 with (first | ((with_reducible refine gate_callee (f := 43) rfl ?_); refine goesM (N := (some 59)) #[.slice A1 l1.length c1] Try.func43 ?_; (with_reducible refine (laws_toIntS.calls kj15 _ _ l1 t1132 _ ?side1 ?side2 A69.out).mono ?_); (case side1 => exact CB (Kd.C_below HR1.out HB.out)); (case side2 => exact HC1.out); rintro e w79 ⟨v1133, rfl, ho0, hb⟩; refine ⟨_, rfl, ?_⟩; refine E11 (Kd.R_elder' (PR HO_9.out) (Kd.R_base ho0) hb) (Kd.R_below (PR HO_1109002.out) hb) (Kd.R_below (PR HO_1115002.out) hb) (Kd.R_below (PR HO_1125002.out) hb) (Kd.R_below (PR HO1130.out) hb) (Kd.R_lower (Kd.R_new' ho0 (Kd.R_lt (PR HO_9.out))) (below_size (BL HB.out))) (bB BK1092.out hb) (bB BK1108.out hb) (bB BK1114.out hb) (bB BK1124.out hb) (below_step (BL HB.out) hb) ?_; clear HO_9 HO_1109002 HO_1115002 HO_1125002 HO1130 BK1092 BK1108 BK1114 BK1124 HB; intro HO_9 HO_1109002 HO_1115002 HO_1125002 HO1130 HO1134 BK1092 BK1108 BK1114 BK1124 HB; (try clear hb); (try clear hb2); (try clear hk); (try clear hi); (try clear ho0); obtain ⟨Ao80, co80, eo80⟩ := Kd.R_slice HO1134.out; subst eo80) | ((with_reducible refine gate_callee (f := 22) rfl ?_); refine goesM (N := (some 60)) #[.slice Ao39 t1115.length co39, .slice Ao80 t1132.length co80] Try.func22 ?_; (with_reducible refine (laws_eqIntS.calls kj15 _ _ t1115 _ _ t1132 true _ ?side1 ?side2 ?side3 ?side4 A70.out).mono ?_); (case side1 => repeat (first | exact (Kd.R_reads' HO_9.out).2.2 | (with_reducible refine Kd.C_alloc ?_ _) | (with_reducible refine Kd.C_drewN ?_ _) | (with_reducible refine Kd.C_drew ?_))); (case side2 => exact (Kd.R_reads' HO_9.out).2.1); (case side3 => repeat (first | exact (Kd.R_reads' HO1134.out).2.2 | (with_reducible refine Kd.C_alloc ?_ _) | (with_reducible refine Kd.C_drewN ?_ _) | (with_reducible refine Kd.C_drew ?_))); (case side4 => exact (Kd.R_reads' HO1134.out).2.1); rintro e w' ⟨rfl, ⟨nd, rfl⟩⟩; refine ⟨_, rfl, ?_⟩; have hnb81 := NB1114_1092.out; have hnc81 := NB1092_1114.out; have hnb82 := NB1114_1108.out; have hnc82 := NB1108_1114.out; have hnb83 := NB1114_1124.out; have hnc83 := NB1124_1114.out; obtain ⟨hcz84_0, hcz84_1, hcz84_2, hfz84_0, hfz84_1, hfz84_2⟩ := cz3 BK1114.out) | ((with_reducible refine gate_callee (f := 23) rfl ?_); refine goesM (N := (some 64)) #[.agg #[.int .i64 t1109, .int .i64 t1110, .slice Ao36 t1111.length co36], .int .i64 1] Try.func23 ?_; (with_reducible refine (laws_markBoard.calls kj15 t1109 t1110 (fun k_ => some k_ = (.slice Ao36 t1111.length co36 : Value).ownBlock) (.slice Ao36 t1111.length co36) t1111 1 t1136 t1137 w _ ?side1 ?side2 A72.out).mono ?_); (case side1 => repeat (first | (with_reducible first | exact HB.out | apply below_alloc | apply pw_below_drewN | apply below_drew1 | refine below_set ?_ GE1092.out | refine below_set ?_ GE1108.out | refine below_set ?_ GE1114.out | refine below_set ?_ GE1124.out) | exact HB.out)); (case side2 => exact Kd.R_tight rfl HO_1115002.out); rintro e w85 ⟨rfl, hy0, hb, hkp⟩; refine ⟨_, rfl, ?_⟩; refine E11 (Kd.R_mono (ok' := fun k_ => some k_ ≠ (.slice Ao80 t1132.length co80 : Value).ownBlock) (Kd.R_keptB ((Kd.R_apart' HO_9.out (Kd.R_typed HO_1115002.out) (by decide))) hkp (fun k_ hk_ hs_ => (hk_.2) hs_)) (fun k_ hk_ => hk_.1.1.2)) (Kd.R_mono (ok' := fun k_ => some k_ ≠ (.slice Ao36 t1111.length co36 : Value).ownBlock ∧ some k_ ≠ (.slice Ao46 t1120.length co46 : Value).ownBlock ∧ some k_ ≠ (.slice Ao77 t1128.length co77 : Value).ownBlock) (Kd.R_keptB (HO_1109002.out) hkp (fun k_ hk_ hs_ => (hk_.1.1) hs_)) (fun k_ hk_ => ⟨hk_.1.1.1, hk_.1.1.2, hk_.1.2⟩)) (Kd.R_reok rfl hy0 (fun k_ e_ => HO_1115002.out.1 k_ e_)) (Kd.R_mono (ok' := fun k_ => some k_ ≠ (.slice Ao29 t1104.length co29 : Value).ownBlock ∧ some k_ ≠ (.slice Ao36 t1111.length co36 : Value).ownBlock ∧ some k_ ≠ (.slice Ao77 t1128.length co77 : Value).ownBlock) (Kd.R_keptB (HO_1125002.out) hkp (fun k_ hk_ hs_ => (hk_.1.2) hs_)) (fun k_ hk_ => ⟨hk_.1.1.1, hk_.1.1.2, hk_.1.2⟩)) (blk_kept (PB BK1092.out) hkp (fun hs_ => (fun e_ => (Kd.R_ne HO_1115002.out BK1092.out (by decide)) e_) hs_)) (blk_kept (PB BK1108.out) hkp (fun hs_ => (fun e_ => (Kd.R_ne HO_1115002.out BK1108.out (by decide)) e_) hs_)) (blk_kept (PB BK1114.out) hkp (fun hs_ => (fun e_ => (Kd.R_ne HO_1115002.out BK1114.out (by decide)) e_) hs_)) (blk_kept (PB BK1124.out) hkp (fun hs_ => (fun e_ => (Kd.R_ne HO_1115002.out BK1124.out (by decide)) e_) hs_)) (Kd.R_mono (ok' := fun k_ => some k_ ≠ (.slice Ao29 t1104.length co29 : Value).ownBlock ∧ some k_ ≠ (.slice Ao36 t1111.length co36 : Value).ownBlock ∧ some k_ ≠ (.slice Ao46 t1120.length co46 : Value).ownBlock) (Kd.R_keptB (HO1130.out) hkp (fun k_ hk_ hs_ => (hk_.1.2) hs_)) (fun k_ hk_ => ⟨hk_.1.1.1.2, hk_.1.1.2, hk_.1.2⟩)) (Kd.R_mono (ok' := fun k_ => some k_ ≠ (.slice Ao39 t1115.length co39 : Value).ownBlock) (Kd.R_keptB ((Kd.R_apart' HO1134.out (Kd.R_typed HO_1115002.out) (by decide))) hkp (fun k_ hk_ hs_ => (hk_.2) hs_)) (fun k_ hk_ => hk_.1.1.2)) (hb) ?_; clear HO_9 HO_1109002 HO_1115002 HO_1125002 BK1092 BK1108 BK1114 BK1124 HO1130 HO1134 HB; intro HO_9 HO_1109002 HO_1115002 HO_1125002 BK1092 BK1108 BK1114 BK1124 HO1130 HO1134 HB; (try clear hb); (try clear hkp); (try clear hy0)) | ((with_reducible refine gate_callee (f := 24) rfl ?_); refine goesM (N := (some 67)) #[.slice Ao39 t1115.length co39, .int .i64 t1136] Try.func24 ?_; (with_reducible refine (laws_markIntS.calls kj15 (fun k_ => some k_ = (.slice Ao39 t1115.length co39 : Value).ownBlock) (.slice Ao39 t1115.length co39) t1115 t1136 t1138 t1139 w _ ?side1 ?side2 A73.out).mono ?_); (case side1 => repeat (first | (with_reducible first | exact HB.out | apply below_alloc | apply pw_below_drewN | apply below_drew1 | refine below_set ?_ GE1092.out | refine below_set ?_ GE1108.out | refine below_set ?_ GE1114.out | refine below_set ?_ GE1124.out) | exact HB.out)); (case side2 => exact Kd.R_tight rfl HO_9.out); rintro e w86 ⟨rfl, hy0, hb, hkp⟩; refine ⟨_, rfl, ?_⟩; refine E11 (Kd.R_reok rfl hy0 (fun k_ e_ => HO_9.out.1 k_ e_)) (Kd.R_mono (ok' := fun k_ => some k_ ≠ (.slice Ao36 t1111.length co36 : Value).ownBlock ∧ some k_ ≠ (.slice Ao46 t1120.length co46 : Value).ownBlock ∧ some k_ ≠ (.slice Ao77 t1128.length co77 : Value).ownBlock) (Kd.R_keptB ((Kd.R_apart' HO_1109002.out (Kd.R_typed HO_9.out) (by decide))) hkp (fun k_ hk_ hs_ => (hk_.2) hs_)) (fun k_ hk_ => ⟨hk_.1.1.1, hk_.1.1.2.1, hk_.1.1.2.2⟩)) (Kd.R_mono (ok' := fun k_ => some k_ ≠ (.slice Ao29 t1104.length co29 : Value).ownBlock ∧ some k_ ≠ (.slice Ao46 t1120.length co46 : Value).ownBlock ∧ some k_ ≠ (.slice Ao77 t1128.length co77 : Value).ownBlock) (Kd.R_keptB ((Kd.R_apart' HO_1115002.out (Kd.R_typed HO_9.out) (by decide))) hkp (fun k_ hk_ hs_ => (hk_.2) hs_)) (fun k_ hk_ => ⟨hk_.1.1.1.1, hk_.1.1.1.2, hk_.1.1.2⟩)) (Kd.R_mono (ok' := fun k_ => some k_ ≠ (.slice Ao29 t1104.length co29 : Value).ownBlock ∧ some k_ ≠ (.slice Ao36 t1111.length co36 : Value).ownBlock ∧ some k_ ≠ (.slice Ao77 t1128.length co77 : Value).ownBlock) (Kd.R_keptB ((Kd.R_apart' HO_1125002.out (Kd.R_typed HO_9.out) (by decide))) hkp (fun k_ hk_ hs_ => (hk_.2) hs_)) (fun k_ hk_ => ⟨hk_.1.1.1, hk_.1.1.2.1, hk_.1.1.2.2⟩)) (blk_kept (PB BK1092.out) hkp (fun hs_ => (fun e_ => (Kd.R_ne HO_9.out BK1092.out (by decide)) e_) hs_)) (blk_kept (PB BK1108.out) hkp (fun hs_ => (fun e_ => (Kd.R_ne HO_9.out BK1108.out (by decide)) e_) hs_)) (blk_kept (PB BK1114.out) hkp (fun hs_ => (fun e_ => (Kd.R_ne HO_9.out BK1114.out (by decide)) e_) hs_)) (blk_kept (PB BK1124.out) hkp (fun hs_ => (fun e_ => (Kd.R_ne HO_9.out BK1124.out (by decide)) e_) hs_)) (Kd.R_mono (ok' := fun k_ => some k_ ≠ (.slice Ao29 t1104.length co29 : Value).ownBlock ∧ some k_ ≠ (.slice Ao36 t1111.length co36 : Value).ownBlock ∧ some k_ ≠ (.slice Ao46 t1120.length co46 : Value).ownBlock) (Kd.R_keptB ((Kd.R_apart' HO1130.out (Kd.R_typed HO_9.out) (by decide))) hkp (fun k_ hk_ hs_ => (hk_.2) hs_)) (fun k_ hk_ => ⟨hk_.1.1.1, hk_.1.1.2.1, hk_.1.1.2.2⟩)) (Kd.R_mono (ok' := fun k_ => some k_ ≠ (.slice Ao39 t1115.length co39 : Value).ownBlock) (Kd.R_keptB (HO1134.out) hkp (fun k_ hk_ hs_ => (hk_) hs_)) (fun k_ hk_ => hk_.1)) (hb) ?_; clear HO_9 HO_1109002 HO_1115002 HO_1125002 BK1092 BK1108 BK1114 BK1124 HO1130 HO1134 HB; intro HO_9 HO_1109002 HO_1115002 HO_1125002 BK1092 BK1108 BK1114 BK1124 HO1130 HO1134 HB; (try clear hb); (try clear hkp); (try clear hy0)))
      (try simp only [Act.put, List.setIfInBounds_toArray, List.set_cons_zero, List.set_cons_succ])
      go_cut [80] (fun v80 wc => ∃ (kq : Nat) (x80_73 : Bool), v80 = .bool x80_73 ∧ Aside0 (laws_FnExactBoardWithBits.j1 kq l1 t1107 x80_73 a0_0 a0_1 l0_2 t1102 t1103 t1104 t1118 t1119 t1120 = some true) ∧ Aside0 (kq ≤ kj15) ∧ Aside0 (Kd.R k73 73 wc w.heap.size (fun k_ => some k_ ≠ ((.slice Ao36 t1111.length co36) : Value).ownBlock ∧ some k_ ≠ ((.slice Ao46 t1120.length co46) : Value).ownBlock) (.slice Ao29 t1104.length co29) t1104) ∧ Aside0 (Kd.R k73 73 wc w.heap.size (fun k_ => some k_ ≠ ((.slice Ao29 t1104.length co29) : Value).ownBlock ∧ some k_ ≠ ((.slice Ao46 t1120.length co46) : Value).ownBlock) (.slice Ao36 t1111.length co36) t1137) ∧ Aside0 (Kd.R k73 73 wc w.heap.size (fun k_ => some k_ ≠ ((.slice Ao29 t1104.length co29) : Value).ownBlock ∧ some k_ ≠ ((.slice Ao36 t1111.length co36) : Value).ownBlock) (.slice Ao46 t1120.length co46) t1120) ∧ Aside0 (wc.heap[gb1092]? = some (.cells #[.int .i64 a0_0, .int .i64 a0_1, (.slice A0_2 l0_2.length c0_2)] 24 (0, 0))) ∧ Aside0 (wc.heap[gb1108]? = some (.cells #[.int .i64 t1102, .int .i64 t1103, (.slice Ao29 t1104.length co29)] 30 (0, 0))) ∧ Aside0 (wc.heap[gb1114]? = some (.cells #[.int .i64 t1109, .int .i64 t1110, (.slice Ao36 t1111.length co36)] 30 (0, 0))) ∧ Aside0 (wc.heap[gb1124]? = some (.cells #[.int .i64 t1118, .int .i64 t1119, (.slice Ao46 t1120.length co46)] 30 (0, 0))) ∧ Aside0 (Below w.heap.size w wc))
      case first =>
        have H := HC74.out
        clear HC74
        replace H := ifQ H; rcases H with ⟨c87, H⟩ | ⟨c87, H⟩
        · exact absurd H (by cases kj15 <;> simp [laws_FnExactBoardWithBits.j1])
        have c87b0 := decide_eq_false c87
        clear c87
        (first | rw [c87b0] | (simp only [i64_w, i32_w]; rw [c87b0]) | skip)
        replace H := bindA H; obtain ⟨t1140, A88, H⟩ := H
        by_cases c89 : t1140 = true
        · subst c89
          have H1 : (laws_FnExactBoardWithBits.j1 kj15 l1 t1107 (t1123 != t1107) a0_0 a0_1 l0_2 t1102 t1103 t1104 t1118 t1119 t1120) = some true := by rw [if_pos rfl] at H; exact H
          clear H
          have H := H1
          clear H1
          have H' := Aside0.mk H
          clear H
          have hnb90 := NB1124_1092.out
          have hnc90 := NB1092_1124.out
          have hnb91 := NB1124_1108.out
          have hnc91 := NB1108_1124.out
          have hnb92 := NB1124_1114.out
          have hnc92 := NB1114_1124.out
          obtain ⟨hcz93_0, hcz93_1, hcz93_2, hfz93_0, hfz93_1, hfz93_2⟩ := cz3 BK1124.out
          have hnb94 := NB1108_1092.out
          have hnc94 := NB1092_1108.out
          have hnb95 := NB1108_1114.out
          have hnc95 := NB1114_1108.out
          obtain ⟨hcz96_0, hcz96_1, hcz96_2, hfz96_0, hfz96_1, hfz96_2⟩ := cz3 BK1108.out
          go_wp2_with (first | (go_at_call 17; (with_reducible refine (laws_eqBoard.calls kj15 t1118 t1119 _ _ t1120 t1102 t1103 _ _ t1104 true _ ?side1 ?side2 ?side3 ?side4 A88.out).mono ?_); (case side1 => repeat (first | exact (Kd.R_reads' HO_1125002.out).2.2 | (with_reducible refine Kd.C_alloc ?_ _) | (with_reducible refine Kd.C_drewN ?_ _) | (with_reducible refine Kd.C_drew ?_))); (case side2 => exact (Kd.R_reads' HO_1125002.out).2.1); (case side3 => repeat (first | exact (Kd.R_reads' HO_1109002.out).2.2 | (with_reducible refine Kd.C_alloc ?_ _) | (with_reducible refine Kd.C_drewN ?_ _) | (with_reducible refine Kd.C_drew ?_))); (case side4 => exact (Kd.R_reads' HO_1109002.out).2.1); rintro e w97 ⟨rfl, hb⟩; refine E11 (Kd.R_below (PR HO_9.out) hb) (Kd.R_below (PR HO_1109002.out) hb) (Kd.R_below (PR HO_1115002.out) hb) (Kd.R_below (PR HO_1125002.out) hb) (Kd.R_below (PR HO1130.out) hb) (Kd.R_below (PR HO1134.out) hb) (bB BK1092.out hb) (bB BK1108.out hb) (bB BK1114.out hb) (bB BK1124.out hb) (below_step (BL HB.out) hb) ?_; clear HO_9 HO_1109002 HO_1115002 HO_1125002 HO1130 HO1134 BK1092 BK1108 BK1114 BK1124 HB; intro HO_9 HO_1109002 HO_1115002 HO_1125002 HO1130 HO1134 BK1092 BK1108 BK1114 BK1124 HB; (try clear hb); (try clear hb2); (try clear hk); (try clear hi)))
          go_meet
          case rel => exact ⟨_, ((t1123 != t1107)), RG, H', ⟨by have := HJ15.out; first | omega | exact Nat.le_refl _⟩, ⟨by (with_reducible repeat (first | apply Kd.R_alloc | apply Kd.R_drewN | apply Kd.R_drew)); exact Kd.R_mono HO_1109002.out (fun _ hk => ⟨hk.1, hk.2.1⟩)⟩, ⟨by (with_reducible repeat (first | apply Kd.R_alloc | apply Kd.R_drewN | apply Kd.R_drew)); exact Kd.R_mono HO_1115002.out (fun _ hk => ⟨hk.1, hk.2.1⟩)⟩, ⟨by (with_reducible repeat (first | apply Kd.R_alloc | apply Kd.R_drewN | apply Kd.R_drew)); exact Kd.R_mono HO_1125002.out (fun _ hk => ⟨hk.1, hk.2.1⟩)⟩, ⟨PB BK1092.out⟩, ⟨PB BK1108.out⟩, ⟨PB BK1114.out⟩, ⟨PB BK1124.out⟩, ⟨BL HB.out⟩⟩
        replace c89 := Bool.eq_false_iff.mpr c89
        subst c89
        have H1 : (laws_FnExactBoardWithBits.j1 kj15 l1 t1107 true a0_0 a0_1 l0_2 t1102 t1103 t1104 t1118 t1119 t1120) = some true := by rw [if_neg (show ¬ (false = true) by decide)] at H; exact H
        exact absurd H1 (by cases kj15 <;> simp [laws_FnExactBoardWithBits.j1])
      clear HC74
      try clear c1; try clear c65; try clear c68; try clear c71; try clear hcz84_0; try clear hcz84_1; try clear hcz84_2; try clear hfz84_0; try clear hfz84_1; try clear hfz84_2
      obtain ⟨kq, x80_73, rfl, HA, HJ73, HO_1109002, HO_1115002, HO_1125002, BK1092, BK1108, BK1114, BK1124, HB⟩ := hcut
      have hl1115002_73 := (Kd.R_reads' HO_1115002.out).1
      rw [hl1115002_73] at HO_1115002
      (try simp only [hl1115002_73])
      (try simp only [hl1115002_73] at BK1092)
      (try simp only [hl1115002_73] at BK1108)
      (try simp only [hl1115002_73] at BK1114)
      (try simp only [hl1115002_73] at BK1124)
      (try simp only [hl1115002_73] at HO_1109002)
      (try simp only [hl1115002_73] at HO_1125002)
      cases kq with
      | zero => exact absurd HA.out (by simp [laws_FnExactBoardWithBits.j1])
      | succ kj73 => ?_
      have H := HA.out
      clear HA
      simp only [laws_FnExactBoardWithBits.j1] at H
      by_cases c106 : x80_73 = true
      · subst c106
        have H1 : (some false) = some true := by rw [if_pos rfl] at H; exact H
        exact absurd H1 (by simp)
      replace c106 := Bool.eq_false_iff.mpr c106
      subst c106
      have H1 : ((laws_markBoard.f kj73 t1118 t1119 t1120 1).bind fun bt1141 => ((laws_heldBoard.f kj73 t1118 t1119 bt1141.2 1).bind fun t1143 => (if t1143 < 0 then (some false) else (if t1143 = bt1141.1 then ((laws_toBoard.f kj73 a0_0 a0_1 l0_2).bind fun bt1144 => ((laws_toIntS.f kj73 l1).bind fun t1149 => ((impl_BoardWithBits.f kj73 bt1144.1 bt1144.2.1 bt1144.2.2 t1149).bind fun bt1152 => ((laws_eqBoard.f kj73 bt1152.1 bt1152.2.1 bt1152.2.2.1 t1102 t1103 t1104).bind fun t1159 => (if t1159 = true then (laws_FnExactBoardWithBits.j2 kj73 bt1141.1 (bt1152.2.2.2 != t1107) t1118 t1119 bt1141.2) else (laws_FnExactBoardWithBits.j2 kj73 bt1141.1 true t1118 t1119 bt1141.2)))))) else (some false))))) = some true := by rw [if_neg (show ¬ (false = true) by decide)] at H; exact H
      clear H
      have H := H1
      clear H1
      replace H := bindA H; obtain ⟨⟨t1141, t1142⟩, A107, H⟩ := H
      dsimp only at H
      replace H := bindA H; obtain ⟨t1143, A108, H⟩ := H
      replace H := ifQ H; rcases H with ⟨c109, H⟩ | ⟨c109, H⟩
      · exact absurd H (by simp)
      have c109b0 := decide_eq_false c109
      clear c109
      first | replace H := ifP H | replace H := ifPf H
      obtain ⟨c117, H⟩ := H
      have c117b0 := beq_iff_eq.mpr c117
      have c117b1 := bne_eq_false_iff_eq.mpr c117
      clear c117
      replace H := bindA H; obtain ⟨⟨t1144, t1145, t1146⟩, A118, H⟩ := H
      dsimp only at H
      replace H := bindA H; obtain ⟨t1149, A119, H⟩ := H
      replace H := bindA H; obtain ⟨⟨t1152, t1153, t1154, t1157⟩, A120, H⟩ := H
      dsimp only at H
      have HC121 := Aside0.mk H
      clear H
      have hnb122 := NB1124_1092.out
      have hnc122 := NB1092_1124.out
      have hnb123 := NB1124_1108.out
      have hnc123 := NB1108_1124.out
      have hnb124 := NB1124_1114.out
      have hnc124 := NB1114_1124.out
      obtain ⟨hcz125_0, hcz125_1, hcz125_2, hfz125_0, hfz125_1, hfz125_2⟩ := cz3 BK1124.out
      go_upto_region 31 with (first | ((with_reducible refine gate_callee (f := 23) rfl ?_); refine goesM (N := (some 83)) #[.agg #[.int .i64 t1118, .int .i64 t1119, .slice Ao46 t1120.length co46], .int .i64 1] Try.func23 ?_; (with_reducible refine (laws_markBoard.calls kj73 t1118 t1119 (fun k_ => some k_ = (.slice Ao46 t1120.length co46 : Value).ownBlock) (.slice Ao46 t1120.length co46) t1120 1 t1141 t1142 w _ ?side1 ?side2 A107.out).mono ?_); (case side1 => repeat (first | (with_reducible first | exact HB.out | apply below_alloc | apply pw_below_drewN | apply below_drew1 | refine below_set ?_ GE1092.out | refine below_set ?_ GE1108.out | refine below_set ?_ GE1114.out | refine below_set ?_ GE1124.out) | exact HB.out)); (case side2 => exact Kd.R_tight rfl HO_1125002.out); rintro e w126 ⟨rfl, hy0, hb, hkp⟩; refine ⟨_, rfl, ?_⟩; refine E8 (Kd.R_mono (ok' := fun k_ => some k_ ≠ (.slice Ao36 t1137.length co36 : Value).ownBlock ∧ some k_ ≠ (.slice Ao46 t1120.length co46 : Value).ownBlock) (Kd.R_keptB (HO_1109002.out) hkp (fun k_ hk_ hs_ => (hk_.2) hs_)) (fun k_ hk_ => ⟨hk_.1.1, hk_.1.2⟩)) (Kd.R_mono (ok' := fun k_ => some k_ ≠ (.slice Ao29 t1104.length co29 : Value).ownBlock ∧ some k_ ≠ (.slice Ao46 t1120.length co46 : Value).ownBlock) (Kd.R_keptB (HO_1115002.out) hkp (fun k_ hk_ hs_ => (hk_.2) hs_)) (fun k_ hk_ => ⟨hk_.1.1, hk_.1.2⟩)) (Kd.R_reok rfl hy0 (fun k_ e_ => HO_1125002.out.1 k_ e_)) (blk_kept (PB BK1092.out) hkp (fun hs_ => (fun e_ => (Kd.R_ne HO_1125002.out BK1092.out (by decide)) e_) hs_)) (blk_kept (PB BK1108.out) hkp (fun hs_ => (fun e_ => (Kd.R_ne HO_1125002.out BK1108.out (by decide)) e_) hs_)) (blk_kept (PB BK1114.out) hkp (fun hs_ => (fun e_ => (Kd.R_ne HO_1125002.out BK1114.out (by decide)) e_) hs_)) (blk_kept (PB BK1124.out) hkp (fun hs_ => (fun e_ => (Kd.R_ne HO_1125002.out BK1124.out (by decide)) e_) hs_)) (hb) ?_; clear HO_1109002 HO_1115002 HO_1125002 BK1092 BK1108 BK1114 BK1124 HB; intro HO_1109002 HO_1115002 HO_1125002 BK1092 BK1108 BK1114 BK1124 HB; (try clear hb); (try clear hkp); (try clear hy0); obtain ⟨hcz127_0, hcz127_1, hcz127_2, hfz127_0, hfz127_1, hfz127_2⟩ := cz3 BK1124.out) | ((with_reducible refine gate_callee (f := 28) rfl ?_); refine goesL_ (some 86) rfl rfl Try.func28 (by kernel_rfl) rfl #[.agg #[.int .i64 t1118, .int .i64 t1119, .slice Ao46 t1142.length co46], .int .i64 1] rfl (by (try simp only [List.map_toArray, List.map_cons, List.map_nil]); first | done | (rw [show t1142.length = t1120.length from (Kd.R_reads' HO_1125002.out).1.symm] <;> rfl) | rfl | (simp only [List.length_drop, List.length_take]; rfl)) ?_; (with_reducible refine (laws_heldBoard.calls kj73 t1118 t1119 _ _ t1142 1 t1143 _ ?side1 ?side2 A108.out).mono ?_); (case side1 => repeat (first | exact (Kd.R_reads' HO_1125002.out).2.2 | (with_reducible refine Kd.C_alloc ?_ _) | (with_reducible refine Kd.C_drewN ?_ _) | (with_reducible refine Kd.C_drew ?_))); (case side2 => rw [show t1142.length = t1120.length from (Kd.R_reads' HO_1125002.out).1.symm]; exact (Kd.R_reads' HO_1125002.out).2.1); rintro e w128 ⟨rfl, hb⟩; refine ⟨_, rfl, ?_⟩; refine E8 (Kd.R_below (PR HO_1109002.out) hb) (Kd.R_below (PR HO_1115002.out) hb) (Kd.R_below (PR HO_1125002.out) hb) (bB BK1092.out hb) (bB BK1108.out hb) (bB BK1114.out hb) (bB BK1124.out hb) (below_step (BL HB.out) hb) ?_; clear HO_1109002 HO_1115002 HO_1125002 BK1092 BK1108 BK1114 BK1124 HB; intro HO_1109002 HO_1115002 HO_1125002 BK1092 BK1108 BK1114 BK1124 HB; (try clear hb); (try clear hb2); (try clear hk); (try clear hi); have hnb129 := NB1092_1108.out; have hnc129 := NB1108_1092.out; have hnb130 := NB1092_1114.out; have hnc130 := NB1114_1092.out; obtain ⟨hcz131_0, hcz131_1, hcz131_2, hfz131_0, hfz131_1, hfz131_2⟩ := cz3 BK1092.out) | ((with_reducible refine gate_callee (f := 15) rfl ?_); refine goesM (N := (some 94)) #[.agg #[.int .i64 a0_0, .int .i64 a0_1, .slice A0_2 l0_2.length c0_2]] Try.func15 ?_; (with_reducible refine (laws_toBoard.calls kj73 a0_0 a0_1 _ _ l0_2 t1144 t1145 t1146 _ ?side1 ?side2 A118.out).mono ?_); (case side1 => exact CB (Kd.C_below HR0_2.out HB.out)); (case side2 => exact HC0_2.out); rintro e w132 ⟨v1147, rfl, ho0, hb⟩; refine ⟨_, rfl, ?_⟩; refine E9 (Kd.R_elder' (PR HO_1109002.out) (Kd.R_base ho0) hb) (Kd.R_elder' (PR HO_1115002.out) (Kd.R_base ho0) hb) (Kd.R_elder' (PR HO_1125002.out) (Kd.R_base ho0) hb) (Kd.R_lower (Kd.R_new' (Kd.R_new' (Kd.R_new' ho0 (Kd.R_lt (PR HO_1109002.out))) (Kd.R_lt (PR HO_1115002.out))) (Kd.R_lt (PR HO_1125002.out))) (below_size (BL HB.out))) (bB BK1092.out hb) (bB BK1108.out hb) (bB BK1114.out hb) (bB BK1124.out hb) (below_step (BL HB.out) hb) ?_; clear HO_1109002 HO_1115002 HO_1125002 BK1092 BK1108 BK1114 BK1124 HB; intro HO_1109002 HO_1115002 HO_1125002 HO1148 BK1092 BK1108 BK1114 BK1124 HB; (try clear hb); (try clear hb2); (try clear hk); (try clear hi); (try clear ho0)) | ((with_reducible refine gate_callee (f := 43) rfl ?_); refine goesM (N := (some 96)) #[.slice A1 l1.length c1] Try.func43 ?_; (with_reducible refine (laws_toIntS.calls kj73 _ _ l1 t1149 _ ?side1 ?side2 A119.out).mono ?_); (case side1 => exact CB (Kd.C_below HR1.out HB.out)); (case side2 => exact HC1.out); rintro e w133 ⟨v1150, rfl, ho0, hb⟩; refine ⟨_, rfl, ?_⟩; refine E10 (Kd.R_below (PR HO_1109002.out) hb) (Kd.R_below (PR HO_1115002.out) hb) (Kd.R_below (PR HO_1125002.out) hb) (Kd.R_below (PR HO1148.out) hb) (Kd.R_lower ho0 (below_size (BL HB.out))) (bB BK1092.out hb) (bB BK1108.out hb) (bB BK1114.out hb) (bB BK1124.out hb) (below_step (BL HB.out) hb) ?_; clear HO_1109002 HO_1115002 HO_1125002 HO1148 BK1092 BK1108 BK1114 BK1124 HB; intro HO_1109002 HO_1115002 HO_1125002 HO1148 HO1151 BK1092 BK1108 BK1114 BK1124 HB; (try clear hb); (try clear hb2); (try clear hk); (try clear hi); (try clear ho0); obtain ⟨Ao134, co134, eo134⟩ := Kd.R_slice HO1148.out; subst eo134; obtain ⟨Ao135, co135, eo135⟩ := Kd.R_slice HO1151.out; subst eo135) | ((with_reducible refine gate_callee (f := 44) rfl ?_); refine goesM (N := (some 97)) #[.agg #[.int .i64 t1144, .int .i64 t1145, .slice Ao134 t1146.length co134], .slice Ao135 t1149.length co135] Try.func44 ?_; (with_reducible refine (impl_BoardWithBits.calls kj73 t1144 t1145 _ _ t1146 _ _ t1149 t1152 t1153 t1154 t1157 _ ?side1 ?side2 ?side3 ?side4 A120.out).mono ?_); (case side1 => repeat (first | exact (Kd.R_reads' HO1148.out).2.2 | (with_reducible refine Kd.C_alloc ?_ _) | (with_reducible refine Kd.C_drewN ?_ _) | (with_reducible refine Kd.C_drew ?_))); (case side2 => exact (Kd.R_reads' HO1148.out).2.1); (case side3 => repeat (first | exact (Kd.R_reads' HO1151.out).2.2 | (with_reducible refine Kd.C_alloc ?_ _) | (with_reducible refine Kd.C_drewN ?_ _) | (with_reducible refine Kd.C_drew ?_))); (case side4 => exact (Kd.R_reads' HO1151.out).2.1); rintro e w136 ⟨v1155, rfl, ho0, hb⟩; refine ⟨_, rfl, ?_⟩; refine E11 (Kd.R_elder' (PR HO_1109002.out) (Kd.R_base ho0) hb) (Kd.R_elder' (PR HO_1115002.out) (Kd.R_base ho0) hb) (Kd.R_elder' (PR HO_1125002.out) (Kd.R_base ho0) hb) (Kd.R_elder' (PR HO1148.out) (Kd.R_base ho0) hb) (Kd.R_below (PR HO1151.out) hb) (Kd.R_lower (Kd.R_new' (Kd.R_new' (Kd.R_new' (Kd.R_new' ho0 (Kd.R_lt (PR HO_1109002.out))) (Kd.R_lt (PR HO_1115002.out))) (Kd.R_lt (PR HO_1125002.out))) (Kd.R_lt (PR HO1148.out))) (below_size (BL HB.out))) (bB BK1092.out hb) (bB BK1108.out hb) (bB BK1114.out hb) (bB BK1124.out hb) (below_step (BL HB.out) hb) ?_; clear HO_1109002 HO_1115002 HO_1125002 HO1148 HO1151 BK1092 BK1108 BK1114 BK1124 HB; intro HO_1109002 HO_1115002 HO_1125002 HO1148 HO1151 HO1156 BK1092 BK1108 BK1114 BK1124 HB; (try clear hb); (try clear hb2); (try clear hk); (try clear hi); (try clear ho0)) | ((with_reducible refine gate_dst (N := 15) rfl ?_); refine boxE (N := 15) (cs := #[.int .i64 0, .int .i64 0, .slice none 0 0]) (t := 30) ?_; intro gb1158 hg w137 hbox hb; refine E22 (Kd.R_below (PR HO_1109002.out) hb) (Kd.R_below (PR HO_1115002.out) hb) (Kd.R_below (PR HO_1125002.out) hb) (Kd.R_below (PR HO1148.out) hb) (Kd.R_below (PR HO1151.out) hb) (Kd.R_below (PR HO1156.out) hb) (bB BK1092.out hb) (bB BK1108.out hb) (bB BK1114.out hb) (bB BK1124.out hb) (below_step (BL HB.out) hb) (hbox) (gwM hg (below_size (BL HB.out)) : w.heap.size ≤ gb1158) (gwM hg (below_size (BL HB.out)) : w.heap.size ≤ gb1158) ((nB BK1092.out hg : gb1092 ≠ gb1158)) ((nC BK1092.out hg : gb1158 ≠ gb1092)) ((nB BK1108.out hg : gb1108 ≠ gb1158)) ((nC BK1108.out hg : gb1158 ≠ gb1108)) ((nB BK1114.out hg : gb1114 ≠ gb1158)) ((nC BK1114.out hg : gb1158 ≠ gb1114)) ((nB BK1124.out hg : gb1124 ≠ gb1158)) ((nC BK1124.out hg : gb1158 ≠ gb1124)) ?_; clear HO_1109002 HO_1115002 HO_1125002 HO1148 HO1151 HO1156 BK1092 BK1108 BK1114 BK1124 HB; intro HO_1109002 HO_1115002 HO_1125002 HO1148 HO1151 HO1156 BK1092 BK1108 BK1114 BK1124 HB BK1158 GW1158 GE1158 NB1092_1158 NB1158_1092 NB1108_1158 NB1158_1108 NB1114_1158 NB1158_1114 NB1124_1158 NB1158_1124; clear hb hbox hg; have hnb138 := NB1158_1092.out; have hnc138 := NB1092_1158.out; have hnb139 := NB1158_1108.out; have hnc139 := NB1108_1158.out; have hnb140 := NB1158_1114.out; have hnc140 := NB1114_1158.out; have hnb141 := NB1158_1124.out; have hnc141 := NB1124_1158.out; obtain ⟨hcz142_0, hcz142_1, hcz142_2, hfz142_0, hfz142_1, hfz142_2⟩ := cz3 BK1158.out; obtain ⟨Ao143, co143, eo143⟩ := Kd.R_slice HO1156.out; subst eo143))
      (try simp only [Act.put, List.setIfInBounds_toArray, List.set_cons_zero, List.set_cons_succ])
      go_cut [108] (fun v108 wc => ∃ (kq : Nat) (x108_120 : Bool), v108 = .bool x108_120 ∧ Aside0 (laws_FnExactBoardWithBits.j2 kq t1141 x108_120 t1118 t1119 t1142 = some true) ∧ Aside0 (kq ≤ kj73) ∧ Aside0 (Kd.R k73 73 wc w.heap.size (fun k_ => some k_ ≠ ((.slice Ao36 t1137.length co36) : Value).ownBlock ∧ some k_ ≠ ((.slice Ao46 t1120.length co46) : Value).ownBlock ∧ some k_ ≠ ((.slice Ao143 t1154.length co143) : Value).ownBlock) (.slice Ao29 t1104.length co29) t1104) ∧ Aside0 (Kd.R k73 73 wc w.heap.size (fun k_ => some k_ ≠ ((.slice Ao29 t1104.length co29) : Value).ownBlock ∧ some k_ ≠ ((.slice Ao46 t1120.length co46) : Value).ownBlock ∧ some k_ ≠ ((.slice Ao143 t1154.length co143) : Value).ownBlock) (.slice Ao36 t1137.length co36) t1137) ∧ Aside0 (Kd.R k73 73 wc w.heap.size (fun k_ => some k_ ≠ ((.slice Ao29 t1104.length co29) : Value).ownBlock ∧ some k_ ≠ ((.slice Ao36 t1137.length co36) : Value).ownBlock ∧ some k_ ≠ ((.slice Ao143 t1154.length co143) : Value).ownBlock) (.slice Ao46 t1120.length co46) t1142) ∧ Aside0 (Kd.R k73 73 wc w.heap.size (fun k_ => some k_ ≠ ((.slice Ao29 t1104.length co29) : Value).ownBlock ∧ some k_ ≠ ((.slice Ao36 t1137.length co36) : Value).ownBlock ∧ some k_ ≠ ((.slice Ao46 t1120.length co46) : Value).ownBlock) (.slice Ao143 t1154.length co143) t1154) ∧ Aside0 (wc.heap[gb1092]? = some (.cells #[.int .i64 a0_0, .int .i64 a0_1, (.slice A0_2 l0_2.length c0_2)] 24 (0, 0))) ∧ Aside0 (wc.heap[gb1108]? = some (.cells #[.int .i64 t1102, .int .i64 t1103, (.slice Ao29 t1104.length co29)] 30 (0, 0))) ∧ Aside0 (wc.heap[gb1114]? = some (.cells #[.int .i64 t1109, .int .i64 t1110, (.slice Ao36 t1137.length co36)] 30 (0, 0))) ∧ Aside0 (wc.heap[gb1124]? = some (.cells #[.int .i64 t1118, .int .i64 t1119, (.slice Ao46 t1120.length co46)] 30 (0, 0))) ∧ Aside0 (wc.heap[gb1158]? = some (.cells #[.int .i64 t1152, .int .i64 t1153, (.slice Ao143 t1154.length co143)] 30 (0, 0))) ∧ Aside0 (Below w.heap.size w wc))
      case first =>
        have H := HC121.out
        clear HC121
        replace H := bindA H; obtain ⟨t1159, A144, H⟩ := H
        by_cases c145 : t1159 = true
        · subst c145
          have H1 : (laws_FnExactBoardWithBits.j2 kj73 t1141 (t1157 != t1107) t1118 t1119 t1142) = some true := by rw [if_pos rfl] at H; exact H
          clear H
          have H := H1
          clear H1
          have H' := Aside0.mk H
          clear H
          have hnb146 := NB1158_1092.out
          have hnc146 := NB1092_1158.out
          have hnb147 := NB1158_1108.out
          have hnc147 := NB1108_1158.out
          have hnb148 := NB1158_1114.out
          have hnc148 := NB1114_1158.out
          have hnb149 := NB1158_1124.out
          have hnc149 := NB1124_1158.out
          obtain ⟨hcz150_0, hcz150_1, hcz150_2, hfz150_0, hfz150_1, hfz150_2⟩ := cz3 BK1158.out
          have hnb151 := NB1108_1092.out
          have hnc151 := NB1092_1108.out
          have hnb152 := NB1108_1114.out
          have hnc152 := NB1114_1108.out
          have hnb153 := NB1108_1124.out
          have hnc153 := NB1124_1108.out
          obtain ⟨hcz154_0, hcz154_1, hcz154_2, hfz154_0, hfz154_1, hfz154_2⟩ := cz3 BK1108.out
          go_wp2_with (first | ((with_reducible refine gate_callee (f := 17) rfl ?_); refine goesM (N := (some 102)) #[.agg #[.int .i64 t1152, .int .i64 t1153, .slice Ao143 t1154.length co143], .agg #[.int .i64 t1102, .int .i64 t1103, .slice Ao29 t1104.length co29]] Try.func17 ?_; (with_reducible refine (laws_eqBoard.calls kj73 t1152 t1153 _ _ t1154 t1102 t1103 _ _ t1104 true _ ?side1 ?side2 ?side3 ?side4 A144.out).mono ?_); (case side1 => refine (Kd.R_reads' (e := 73) (base := w.heap.size) (ok := fun k_ => ((((True ∧ some k_ ≠ (.slice Ao29 t1104.length co29 : Value).ownBlock) ∧ some k_ ≠ (.slice Ao36 t1137.length co36 : Value).ownBlock) ∧ some k_ ≠ (.slice Ao46 t1120.length co46 : Value).ownBlock) ∧ some k_ ≠ (.slice Ao134 t1146.length co134 : Value).ownBlock)) (n := t1154.length) (c := co143) ?_).2.2; exact (by (with_reducible repeat (first | apply Kd.R_alloc | apply Kd.R_drewN | apply Kd.R_drew)); exact (Kd.R_mono (Kd.R_far (p := ⟨gb1158, 2, none⟩) (Kd.R_far (p := ⟨gb1158, 1, none⟩) (Kd.R_far (p := ⟨gb1158, 0, none⟩) (Kd.R_types HO1156.out BK1158.out (by decide)) (fun _ hk => hk.2) (.int .i64 t1152)) (fun _ hk => hk.2) (.int .i64 t1153)) (fun _ hk => hk.2) (.slice Ao143 t1154.length co143)) (fun _ h_ => h_.1)))); (case side2 => exact (Kd.R_reads' HO1156.out).2.1); (case side3 => refine (Kd.R_reads' (e := 73) (base := w.heap.size) (ok := fun k_ => (((some k_ ≠ (.slice Ao36 t1137.length co36 : Value).ownBlock ∧ some k_ ≠ (.slice Ao46 t1120.length co46 : Value).ownBlock) ∧ some k_ ≠ (.slice Ao134 t1146.length co134 : Value).ownBlock) ∧ some k_ ≠ (.slice Ao143 t1154.length co143 : Value).ownBlock)) (n := t1104.length) (c := co29) ?_).2.2; exact (by (with_reducible repeat (first | apply Kd.R_alloc | apply Kd.R_drewN | apply Kd.R_drew)); exact (Kd.R_mono (Kd.R_far (p := ⟨gb1158, 2, none⟩) (Kd.R_far (p := ⟨gb1158, 1, none⟩) (Kd.R_far (p := ⟨gb1158, 0, none⟩) (Kd.R_types HO_1109002.out BK1158.out (by decide)) (fun _ hk => hk.2) (.int .i64 t1152)) (fun _ hk => hk.2) (.int .i64 t1153)) (fun _ hk => hk.2) (.slice Ao143 t1154.length co143)) (fun _ h_ => h_.1)))); (case side4 => exact (Kd.R_reads' HO_1109002.out).2.1); rintro e w155 ⟨rfl, hb⟩; refine ⟨_, rfl, ?_⟩; refine E12 (Kd.R_below (by (with_reducible repeat (first | apply Kd.R_alloc | apply Kd.R_drewN | apply Kd.R_drew)); exact (Kd.R_mono (Kd.R_far (p := ⟨gb1158, 2, none⟩) (Kd.R_far (p := ⟨gb1158, 1, none⟩) (Kd.R_far (p := ⟨gb1158, 0, none⟩) (Kd.R_types HO_1109002.out BK1158.out (by decide)) (fun _ hk => hk.2) (.int .i64 t1152)) (fun _ hk => hk.2) (.int .i64 t1153)) (fun _ hk => hk.2) (.slice Ao143 t1154.length co143)) (fun _ h_ => h_.1))) hb) (Kd.R_below (by (with_reducible repeat (first | apply Kd.R_alloc | apply Kd.R_drewN | apply Kd.R_drew)); exact (Kd.R_mono (Kd.R_far (p := ⟨gb1158, 2, none⟩) (Kd.R_far (p := ⟨gb1158, 1, none⟩) (Kd.R_far (p := ⟨gb1158, 0, none⟩) (Kd.R_types HO_1115002.out BK1158.out (by decide)) (fun _ hk => hk.2) (.int .i64 t1152)) (fun _ hk => hk.2) (.int .i64 t1153)) (fun _ hk => hk.2) (.slice Ao143 t1154.length co143)) (fun _ h_ => h_.1))) hb) (Kd.R_below (by (with_reducible repeat (first | apply Kd.R_alloc | apply Kd.R_drewN | apply Kd.R_drew)); exact (Kd.R_mono (Kd.R_far (p := ⟨gb1158, 2, none⟩) (Kd.R_far (p := ⟨gb1158, 1, none⟩) (Kd.R_far (p := ⟨gb1158, 0, none⟩) (Kd.R_types HO_1125002.out BK1158.out (by decide)) (fun _ hk => hk.2) (.int .i64 t1152)) (fun _ hk => hk.2) (.int .i64 t1153)) (fun _ hk => hk.2) (.slice Ao143 t1154.length co143)) (fun _ h_ => h_.1))) hb) (Kd.R_below (by (with_reducible repeat (first | apply Kd.R_alloc | apply Kd.R_drewN | apply Kd.R_drew)); exact (Kd.R_mono (Kd.R_far (p := ⟨gb1158, 2, none⟩) (Kd.R_far (p := ⟨gb1158, 1, none⟩) (Kd.R_far (p := ⟨gb1158, 0, none⟩) (Kd.R_types HO1148.out BK1158.out (by decide)) (fun _ hk => hk.2) (.int .i64 t1152)) (fun _ hk => hk.2) (.int .i64 t1153)) (fun _ hk => hk.2) (.slice Ao143 t1154.length co143)) (fun _ h_ => h_.1))) hb) (Kd.R_below (by (with_reducible repeat (first | apply Kd.R_alloc | apply Kd.R_drewN | apply Kd.R_drew)); exact (Kd.R_mono (Kd.R_far (p := ⟨gb1158, 2, none⟩) (Kd.R_far (p := ⟨gb1158, 1, none⟩) (Kd.R_far (p := ⟨gb1158, 0, none⟩) (Kd.R_types HO1151.out BK1158.out (by decide)) (fun _ hk => hk.2) (.int .i64 t1152)) (fun _ hk => hk.2) (.int .i64 t1153)) (fun _ hk => hk.2) (.slice Ao143 t1154.length co143)) (fun _ h_ => h_.1))) hb) (Kd.R_below (by (with_reducible repeat (first | apply Kd.R_alloc | apply Kd.R_drewN | apply Kd.R_drew)); exact (Kd.R_mono (Kd.R_far (p := ⟨gb1158, 2, none⟩) (Kd.R_far (p := ⟨gb1158, 1, none⟩) (Kd.R_far (p := ⟨gb1158, 0, none⟩) (Kd.R_types HO1156.out BK1158.out (by decide)) (fun _ hk => hk.2) (.int .i64 t1152)) (fun _ hk => hk.2) (.int .i64 t1153)) (fun _ hk => hk.2) (.slice Ao143 t1154.length co143)) (fun _ h_ => h_.1))) hb) (blk_below (g := gb1092) (o := .cells #[.int .i64 a0_0, .int .i64 a0_1, .slice A0_2 l0_2.length c0_2] 24 (0, 0)) (by (with_reducible repeat (first | refine blk_drewN ?_ _ | refine blk_drew ?_ | refine blk_alloc ?_ _)); refine blk_far ?_ NB1092_1158.out _; (with_reducible repeat (first | refine blk_drewN ?_ _ | refine blk_drew ?_ | refine blk_alloc ?_ _)); refine blk_far ?_ NB1092_1158.out _; (with_reducible repeat (first | refine blk_drewN ?_ _ | refine blk_drew ?_ | refine blk_alloc ?_ _)); refine blk_far ?_ NB1092_1158.out _; (with_reducible repeat (first | refine blk_drewN ?_ _ | refine blk_drew ?_ | refine blk_alloc ?_ _)); exact BK1092.out) hb) (blk_below (g := gb1108) (o := .cells #[.int .i64 t1102, .int .i64 t1103, .slice Ao29 t1104.length co29] 30 (0, 0)) (by (with_reducible repeat (first | refine blk_drewN ?_ _ | refine blk_drew ?_ | refine blk_alloc ?_ _)); refine blk_far ?_ NB1108_1158.out _; (with_reducible repeat (first | refine blk_drewN ?_ _ | refine blk_drew ?_ | refine blk_alloc ?_ _)); refine blk_far ?_ NB1108_1158.out _; (with_reducible repeat (first | refine blk_drewN ?_ _ | refine blk_drew ?_ | refine blk_alloc ?_ _)); refine blk_far ?_ NB1108_1158.out _; (with_reducible repeat (first | refine blk_drewN ?_ _ | refine blk_drew ?_ | refine blk_alloc ?_ _)); exact BK1108.out) hb) (blk_below (g := gb1114) (o := .cells #[.int .i64 t1109, .int .i64 t1110, .slice Ao36 t1137.length co36] 30 (0, 0)) (by (with_reducible repeat (first | refine blk_drewN ?_ _ | refine blk_drew ?_ | refine blk_alloc ?_ _)); refine blk_far ?_ NB1114_1158.out _; (with_reducible repeat (first | refine blk_drewN ?_ _ | refine blk_drew ?_ | refine blk_alloc ?_ _)); refine blk_far ?_ NB1114_1158.out _; (with_reducible repeat (first | refine blk_drewN ?_ _ | refine blk_drew ?_ | refine blk_alloc ?_ _)); refine blk_far ?_ NB1114_1158.out _; (with_reducible repeat (first | refine blk_drewN ?_ _ | refine blk_drew ?_ | refine blk_alloc ?_ _)); exact BK1114.out) hb) (blk_below (g := gb1124) (o := .cells #[.int .i64 t1118, .int .i64 t1119, .slice Ao46 t1120.length co46] 30 (0, 0)) (by (with_reducible repeat (first | refine blk_drewN ?_ _ | refine blk_drew ?_ | refine blk_alloc ?_ _)); refine blk_far ?_ NB1124_1158.out _; (with_reducible repeat (first | refine blk_drewN ?_ _ | refine blk_drew ?_ | refine blk_alloc ?_ _)); refine blk_far ?_ NB1124_1158.out _; (with_reducible repeat (first | refine blk_drewN ?_ _ | refine blk_drew ?_ | refine blk_alloc ?_ _)); refine blk_far ?_ NB1124_1158.out _; (with_reducible repeat (first | refine blk_drewN ?_ _ | refine blk_drew ?_ | refine blk_alloc ?_ _)); exact BK1124.out) hb) (blk_below (g := gb1158) (o := .cells #[.int .i64 t1152, .int .i64 t1153, .slice Ao143 t1154.length co143] 30 (0, 0)) (by (with_reducible repeat (first | refine blk_drewN ?_ _ | refine blk_drew ?_ | refine blk_alloc ?_ _)); refine blk_put (cs := #[.int .i64 t1152, .int .i64 t1153, .slice none 0 0]) ?_ 2 _ rfl; (with_reducible repeat (first | refine blk_drewN ?_ _ | refine blk_drew ?_ | refine blk_alloc ?_ _)); refine blk_put (cs := #[.int .i64 t1152, .int .i64 0, .slice none 0 0]) ?_ 1 _ rfl; (with_reducible repeat (first | refine blk_drewN ?_ _ | refine blk_drew ?_ | refine blk_alloc ?_ _)); refine blk_put (cs := #[.int .i64 0, .int .i64 0, .slice none 0 0]) ?_ 0 _ rfl; (with_reducible repeat (first | refine blk_drewN ?_ _ | refine blk_drew ?_ | refine blk_alloc ?_ _)); exact BK1158.out) hb) (below_step (BL HB.out) hb) ?_; clear HO_1109002 HO_1115002 HO_1125002 HO1148 HO1151 HO1156 BK1092 BK1108 BK1114 BK1124 BK1158 HB; intro HO_1109002 HO_1115002 HO_1125002 HO1148 HO1151 HO1156 BK1092 BK1108 BK1114 BK1124 BK1158 HB; (try clear hb); (try clear hb2); (try clear hk); (try clear hi)))
          go_meet
          case rel => exact ⟨_, ((t1157 != t1107)), RG, H', ⟨by have := HJ15.out; have := HJ73.out; first | omega | exact Nat.le_refl _⟩, ⟨by (try simp only [hl1115002_73]); (with_reducible repeat (first | apply Kd.R_alloc | apply Kd.R_drewN | apply Kd.R_drew)); exact Kd.R_mono HO_1109002.out (fun _ hk => ⟨hk.1.1.1, ⟨hk.1.1.2, hk.2⟩⟩)⟩, ⟨by (try simp only [hl1115002_73]); (with_reducible repeat (first | apply Kd.R_alloc | apply Kd.R_drewN | apply Kd.R_drew)); exact Kd.R_mono HO_1115002.out (fun _ hk => ⟨hk.1.1.1, ⟨hk.1.1.2, hk.2⟩⟩)⟩, ⟨by (try simp only [hl1115002_73]); (with_reducible repeat (first | apply Kd.R_alloc | apply Kd.R_drewN | apply Kd.R_drew)); exact Kd.R_mono HO_1125002.out (fun _ hk => ⟨hk.1.1.1, ⟨hk.1.1.2, hk.2⟩⟩)⟩, ⟨by (try simp only [hl1115002_73]); (with_reducible repeat (first | apply Kd.R_alloc | apply Kd.R_drewN | apply Kd.R_drew)); exact Kd.R_mono HO1156.out (fun _ hk => ⟨hk.1.1.1.2, ⟨hk.1.1.2, hk.1.2⟩⟩)⟩, ⟨PB1 BK1092.out hl1115002_73⟩, ⟨PB1 BK1108.out hl1115002_73⟩, ⟨PB1 BK1114.out hl1115002_73⟩, ⟨PB1 BK1124.out hl1115002_73⟩, ⟨PB1 BK1158.out hl1115002_73⟩, ⟨BL HB.out⟩⟩
        replace c145 := Bool.eq_false_iff.mpr c145
        subst c145
        have H1 : (laws_FnExactBoardWithBits.j2 kj73 t1141 true t1118 t1119 t1142) = some true := by rw [if_neg (show ¬ (false = true) by decide)] at H; exact H
        exact absurd H1 (by cases kj73 <;> simp [laws_FnExactBoardWithBits.j2])
      clear HC121
      try clear c1; try clear c106; try clear c109b0; try clear c117b0; try clear c117b1; try clear hcz125_0; try clear hcz125_1; try clear hcz125_2; try clear hcz127_0; try clear hcz127_1; try clear hcz127_2; try clear hcz131_0; try clear hcz131_1; try clear hcz131_2; try clear hcz142_0; try clear hcz142_1; try clear hcz142_2; try clear hfz125_0; try clear hfz125_1; try clear hfz125_2; try clear hfz127_0; try clear hfz127_1; try clear hfz127_2; try clear hfz131_0; try clear hfz131_1; try clear hfz131_2; try clear hfz142_0; try clear hfz142_1; try clear hfz142_2
      obtain ⟨kq, x108_120, rfl, HA, HJ120, HO_1109002, HO_1115002, HO_1125002, HO_1159002, BK1092, BK1108, BK1114, BK1124, BK1158, HB⟩ := hcut
      have hl1125002_120 := (Kd.R_reads' HO_1125002.out).1
      rw [hl1125002_120] at HO_1125002
      (try simp only [hl1125002_120])
      (try simp only [hl1125002_120] at BK1092)
      (try simp only [hl1125002_120] at BK1108)
      (try simp only [hl1125002_120] at BK1114)
      (try simp only [hl1125002_120] at BK1124)
      (try simp only [hl1125002_120] at BK1158)
      (try simp only [hl1125002_120] at HO_1109002)
      (try simp only [hl1125002_120] at HO_1115002)
      (try simp only [hl1125002_120] at HO_1159002)
      cases kq with
      | zero => exact absurd HA.out (by simp [laws_FnExactBoardWithBits.j2])
      | succ kj120 => ?_
      have H := HA.out
      clear HA
      simp only [laws_FnExactBoardWithBits.j2] at H
      by_cases c166 : x108_120 = true
      · subst c166
        have H1 : (some false) = some true := by rw [if_pos rfl] at H; exact H
        exact absurd H1 (by simp)
      replace c166 := Bool.eq_false_iff.mpr c166
      subst c166
      have H1 : ((laws_heldBoard.f kj120 t1118 t1119 t1142 1).bind fun t1160 => (if t1160 < 0 then (some false) else (if t1160 = t1141 then (some true) else (some false)))) = some true := by rw [if_neg (show ¬ (false = true) by decide)] at H; exact H
      clear H
      have H := H1
      clear H1
      replace H := bindA H; obtain ⟨t1160, A167, H⟩ := H
      replace H := ifQ H; rcases H with ⟨c168, H⟩ | ⟨c168, H⟩
      · exact absurd H (by simp)
      have c168b0 := decide_eq_false c168
      clear c168
      first | replace H := ifP H | replace H := ifPf H
      obtain ⟨c175, H⟩ := H
      have c175b0 := beq_iff_eq.mpr c175
      have c175b1 := bne_eq_false_iff_eq.mpr c175
      clear c175
      first | (obtain rfl := Option.some.inj H) | clear H
      have hnb176 := NB1124_1092.out
      have hnc176 := NB1092_1124.out
      have hnb177 := NB1124_1108.out
      have hnc177 := NB1108_1124.out
      have hnb178 := NB1124_1114.out
      have hnc178 := NB1114_1124.out
      have hnb179 := NB1124_1158.out
      have hnc179 := NB1158_1124.out
      obtain ⟨hcz180_0, hcz180_1, hcz180_2, hfz180_0, hfz180_1, hfz180_2⟩ := cz3 BK1124.out
      go_wp2_with (first | ((with_reducible refine gate_callee (f := 28) rfl ?_); refine goesM (N := (some 111)) #[.agg #[.int .i64 t1118, .int .i64 t1119, .slice Ao46 t1142.length co46], .int .i64 1] Try.func28 ?_; (with_reducible refine (laws_heldBoard.calls kj120 t1118 t1119 _ _ t1142 1 t1160 _ ?side1 ?side2 A167.out).mono ?_); (case side1 => repeat (first | exact (Kd.R_reads' HO_1125002.out).2.2 | (with_reducible refine Kd.C_alloc ?_ _) | (with_reducible refine Kd.C_drewN ?_ _) | (with_reducible refine Kd.C_drew ?_))); (case side2 => exact (Kd.R_reads' HO_1125002.out).2.1); rintro e w181 ⟨rfl, hb⟩; refine ⟨_, rfl, ?_⟩; refine E10 (Kd.R_below (PR HO_1109002.out) hb) (Kd.R_below (PR HO_1115002.out) hb) (Kd.R_below (PR HO_1125002.out) hb) (Kd.R_below (PR HO_1159002.out) hb) (bB BK1092.out hb) (bB BK1108.out hb) (bB BK1114.out hb) (bB BK1124.out hb) (bB BK1158.out hb) (below_step (BL HB.out) hb) ?_; clear HO_1109002 HO_1115002 HO_1125002 HO_1159002 BK1092 BK1108 BK1114 BK1124 BK1158 HB; intro HO_1109002 HO_1115002 HO_1125002 HO_1159002 BK1092 BK1108 BK1114 BK1124 BK1158 HB; (try clear hb); (try clear hb2); (try clear hk); (try clear hi)))
      go_ret
      exact ⟨RF, BL HB.out⟩
    replace c71 := Bool.eq_false_iff.mpr c71
    subst c71
    have H1 : (some false) = some true := by rw [if_neg (show ¬ (false = true) by decide)] at H; exact H
    exact absurd H1 (by simp)
  replace c68 := Bool.eq_false_iff.mpr c68
  subst c68
  have H1 : (some false) = some true := by rw [if_neg (show ¬ (false = true) by decide)] at H; exact H
  exact absurd H1 (by simp)
end Go.Proofs.Ytakihdabbpconaa.P
