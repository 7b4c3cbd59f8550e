-- PRINTED by print.py (a twelfth state) out of the translation. Not trusted: Lean checks it.
import Derived.Test.YtakihdabbpconaaPx0
import Derived.Test.YtakihdabbpconaaPx2
import Derived.Test.YtakihdabbpconaaPx3
import Derived.Test.YtakihdabbpconaaPx4
import Derived.Test.YtakihdabbpconaaPx5
import Derived.Test.YtakihdabbpconaaPx6
import Derived.Test.YtakihdabbpconaaPx7
import Derived.Test.YtakihdabbpconaaPx9
import Derived.Test.YtakihdabbpconaaPx12
import Derived.Test.YtakihdabbpconaaPx13
namespace Go.Proofs.Ytakihdabbpconaa.P
open Go.RowKit Go.Proofs.YtakihdabbpconaaW.PrintWords Go.Proofs.YtakihdabbpconaaW.PrintLast Go.Proofs.YtakihdabbpconaaW.PrintMore
attribute [local go_sem] max2_int min2_int max_two min_two max_three min_three max_four min_four   -- for this text's walks alone
set_option linter.unusedVariables false
set_option linter.unusedSimpArgs false

/-! ### spec_saIn: function 70 -/
def spec_saIn.l0 : Nat → Int → List Int → Int → Int → Int → Int → List (S73) → Option (Int × Int × (List (S73)))
  | 0, _, _, _, _, _, _, _ => none
  | k + 1, x1, x5, x9, x10, x874000, x874001, x874002 => if x10 < x9 then (if 0 ≤ (IntKind.u64.wrap (x10)) then (if x5.length < 17592186044416 then (spec_saIn.l0 k x1 (x5 ++ [Go.bits .and .i64 (shr .i64 x1 (IntKind.u64.wrap (x10))) 1]) x9 (wrap64 (x10 + 1)) x874000 x874001 x874002) else (none)) else (none)) else ((spec_saWith.f k x874000 x874001 x874002 x5).bind fun bt881 => (some (bt881.1, bt881.2.1, bt881.2.2)))
def spec_saIn.f (k : Nat) (a0_0 : Int) (a0_1 : Int) (l0_2 : List (S73)) (a1 : Int) : Option (Int × Int × (List (S73))) := (spec_saUnits.f k a0_0 a0_1 l0_2).bind fun t875 => (spec_saIn.l0 k a1 ([] : List Int) (t875.length : Int) 0 a0_0 a0_1 l0_2)
theorem spec_saIn.mono_l : ∀ k, (∀ y0 y1 y2 y3 y4 y5 y6, LeO (spec_saIn.l0 k y0 y1 y2 y3 y4 y5 y6) (spec_saIn.l0 (k + 1) y0 y1 y2 y3 y4 y5 y6))
  | 0 => fun _ _ _ _ _ _ _ r h => by simp [spec_saIn.l0] at h
  | k + 1 => by
    have ih0 := spec_saIn.mono_l k
    intros
    first | unfold spec_saIn.l0
    repeat' first | (with_reducible first | apply ih0 | apply spec_saUnits.mono | apply spec_saWith.mono | exact LeO.refl _ | exact LeO.none _ | refine LeO.ite ?_ ?_ | refine LeO.bind ?_ (fun _ => ?_)) | apply ih0 | apply spec_saUnits.mono | apply spec_saWith.mono | exact LeO.none _ | refine LeO.ite ?_ ?_ | refine LeO.bind ?_ (fun _ => ?_)
theorem spec_saIn.mono : ∀ a0 a1 a2 a3 k, LeO (spec_saIn.f k a0 a1 a2 a3) (spec_saIn.f (k + 1) a0 a1 a2 a3) := by
  intro a0 a1 a2 a3 k
  have ih0 := spec_saIn.mono_l k
  unfold spec_saIn.f
  repeat' first | (with_reducible first | apply ih0 | apply spec_saUnits.mono | apply spec_saWith.mono | exact LeO.refl _ | exact LeO.none _ | refine LeO.ite ?_ ?_ | refine LeO.bind ?_ (fun _ => ?_)) | apply ih0 | apply spec_saUnits.mono | apply spec_saWith.mono | exact LeO.none _ | refine LeO.ite ?_ ?_ | refine LeO.bind ?_ (fun _ => ?_)
set_option maxHeartbeats 8000000 in
set_option maxRecDepth 100000 in
theorem spec_saIn.calls (k : Nat) (a0_0 : Int) (a0_1 : Int) (A0_2 : Option Addr) (c0_2 : Nat) (l0_2 : List (S73)) (a1 : Int) (r1 : Int) (r2 : Int) (r3 : List (S73)) (w : World) (hr0_2 : Kd.C k73 w A0_2 l0_2.length l0_2) (hc0_2 : l0_2.length ≤ c0_2) (h : spec_saIn.f k a0_0 a0_1 l0_2 a1 = some (r1, r2, r3)) :
    Calls Try.prog 70 #[.agg #[.int .i64 a0_0, .int .i64 a0_1, .slice A0_2 l0_2.length c0_2], .int .i64 a1] w fun e w' => ∃ v2_ : Value, e = .returned (.agg #[.int .i64 r1, .int .i64 r2, v2_]) ∧ Kd.R k73 73 w' w.heap.size (fun _ => True) v2_ r3 ∧ Below w.heap.size w w' := by
  have hu30 := Try.underlying30
  have HR0_2 := Aside0.mk hr0_2
  have HC0_2 := Aside0.mk hc0_2
  clear hr0_2 hc0_2
  have HB := Aside0.mk (Below.refl w.heap.size w)
  have H := h
  clear h
  unfold spec_saIn.f at H
  replace H := bindA H; obtain ⟨t875, A3, H⟩ := H
  have H' := Aside0.mk H
  clear H
  go_enter Try.func70, Try.ntmps70
  go_wp2_with (first | ((with_reducible refine gate_dst (N := 2) rfl ?_); refine boxE (N := 2) (cs := #[.int .i64 a0_0, .int .i64 a0_1, .slice A0_2 l0_2.length c0_2]) (t := 30) ?_; intro gb873 hg w4 hbox hb; refine E4b HB.out hg hbox hb ?_; clear HB; intro HB BK873 GW873 GE873; clear hb hbox hg) | ((with_reducible refine gate_dst (N := 4) rfl ?_); refine boxE (N := 4) (cs := #[.int .i64 0, .int .i64 0, .slice none 0 0]) (t := 30) ?_; intro gb874 hg w5 hbox hb; refine E7 (bB BK873.out hb) (below_step (BL HB.out) hb) (hbox) (gwM hg (below_size (BL HB.out)) : w.heap.size ≤ gb874) (gwM hg (below_size (BL HB.out)) : w.heap.size ≤ gb874) ((nB BK873.out hg : gb873 ≠ gb874)) ((nC BK873.out hg : gb874 ≠ gb873)) ?_; clear BK873 HB; intro BK873 HB BK874 GW874 GE874 NB873_874 NB874_873; clear hb hbox hg; have hnb6 := NB873_874.out; have hnc6 := NB874_873.out; obtain ⟨hcz7_0, hcz7_1, hcz7_2, hfz7_0, hfz7_1, hfz7_2⟩ := cz3 BK873.out) | ((with_reducible refine gate_callee (f := 59) rfl ?_); refine goesM (N := (some 8)) #[.agg #[.int .i64 a0_0, .int .i64 a0_1, .slice A0_2 l0_2.length c0_2]] Try.func59 ?_; (with_reducible refine (spec_saUnits.calls k a0_0 a0_1 _ _ l0_2 t875 _ ?side1 ?side2 A3.out).mono ?_); (case side1 => exact CB (Kd.C_below HR0_2.out HB.out)); (case side2 => exact HC0_2.out); rintro e w8 ⟨v876, rfl, ho0, hb⟩; refine ⟨_, rfl, ?_⟩; refine E4 (Kd.S_lower ho0 (below_size (BL HB.out))) (bB BK873.out hb) (bB BK874.out hb) (below_step (BL HB.out) hb) ?_; clear BK873 BK874 HB; intro HO877 BK873 BK874 HB; (try clear hb); (try clear hb2); (try clear hk); (try clear hi); (try clear ho0); obtain ⟨Ao9, co9, eo9⟩ := Kd.S_slice HO877.out; subst eo9))
  go_loopg [5, 10] k (fun kq v5 v10 w' => ∃ (x5_1 : List Int) (x10_1 : Int), v10 = .int .i64 x10_1 ∧ Aside0 (spec_saIn.l0 kq a1 x5_1 (t875.length : Int) x10_1 a0_0 a0_1 l0_2 = some (r1, r2, r3)) ∧ Aside0 (kq ≤ k) ∧ Aside0 (Kd.R (Kd.int .i64) 3 w' w.heap.size (fun _ => True) v5 x5_1) ∧ Aside0 (w'.heap[gb873]? = some (.cells #[.int .i64 a0_0, .int .i64 a0_1, (.slice A0_2 l0_2.length c0_2)] 30 (0, 0))) ∧ Aside0 (w'.heap[gb874]? = some (.cells #[.int .i64 0, .int .i64 0, (.slice none 0 0)] 30 (0, 0))) ∧ Aside0 (Below w.heap.size w w'))
  case atStart => exact ⟨(([] : List Int)), (0), RG, H', ⟨Nat.le_refl _⟩, ⟨by first | exact Kd.R_nil _ _ _ _ _ | exact Kd.N_nil _ _ _ _ _ | exact Kd.V_nil _ _ _ _ _ | exact Kd.Q_nil _ _ _ _ _ | exact Kd.S_nil _ _ _ _ _⟩, ⟨PB BK873.out⟩, ⟨PB BK874.out⟩, ⟨BL HB.out⟩⟩
  clear H'
  try clear hcz7_0; try clear hcz7_1; try clear hcz7_2; try clear hfz7_0; try clear hfz7_1; try clear hfz7_2
  obtain ⟨x5_1, x10_1, rfl, HA, HK1, HO_5, BK873, BK874, HB⟩ := hrel
  cases gk with
  | zero => exact absurd HA.out (by simp [spec_saIn.l0])
  | succ k1 => ?_
  have H := HA.out
  clear HA
  simp only [spec_saIn.l0] at H
  replace H := ifB H; rcases H with ⟨c10b0, H⟩ | ⟨c10b0, H⟩
  · obtain ⟨ji11, hji11⟩ : ∃ j_ : Int, (IntKind.u64.wrap (x10_1)) = j_ := ⟨_, rfl⟩
    replace H : (if 0 ≤ (ji11) then (if x5_1.length < 17592186044416 then (spec_saIn.l0 k1 a1 (x5_1 ++ [Go.bits .and .i64 (shr .i64 a1 (ji11)) 1]) (t875.length : Int) (wrap64 (x10_1 + 1)) a0_0 a0_1 l0_2) else (none)) else (none)) = some (r1, r2, r3) := by first | (rw [hji11] at H; exact H) | (simp only [hji11] at H ⊢; exact H)
    replace H := ifP H; obtain ⟨c12, H⟩ := H
    have c12b0 := eq_true c12
    have c12b1 := decide_eq_true c12
    clear c12
    obtain ⟨ji13, hji13⟩ : ∃ j_ : Int, (shr .i64 a1 (ji11)) = j_ := ⟨_, rfl⟩
    replace H : (if x5_1.length < 17592186044416 then (spec_saIn.l0 k1 a1 (x5_1 ++ [Go.bits .and .i64 (ji13) 1]) (t875.length : Int) (wrap64 (x10_1 + 1)) a0_0 a0_1 l0_2) else (none)) = some (r1, r2, r3) := by first | (rw [hji13] at H; exact H) | (simp only [hji13] at H ⊢; exact H)
    have hji13_ : (a1 / 2 ^ min (ji11).toNat 64) = ji13 := hji13
    have hji13z : (ji11) ≤ 64 → (a1 / 2 ^ (ji11).toNat) = ji13 := shr_small hji13
    replace H := ifP H; obtain ⟨c14, H⟩ := H
    have LMc14 := Aside0.mk c14
    clear c14
    generalize hy878 : ((x5_1 ++ [Go.bits .and .i64 (ji13) 1]) : List Int) = y878 at H
    have Ny878 := Aside0.mk hy878.symm; clear hy878
    have H' := Aside0.mk H
    clear H
    go_wp2_with (first | ((with_reducible refine gate_builtin (b := .append) (xs := #[.tmp 13, .tmp 19]) rfl ?_); at_builtin; refine Kd.R_append (Kd.int .i64) (w0 := w) w.heap.size rfl (.tmp 13) (.tmp 19) 36 3 (.int .i64 0) 8 rfl Try.underlying36 info3 rfl (by decide) (by omega) u5 x5_1 (Go.bits .and .i64 (ji13) 1) [.int .i64 (Go.bits .and .i64 (ji13) 1)] (fun _ => True) (fun _ => False) rfl rfl ?aP (fun _ hk => hk.elim) ?aF ?aO ?aB ?aS ?aL ?_; (case aP => exact rfl); (case aB => exact (BL HB.out)); (case aF => exact (fun _ _ => trivial)); (case aO => exact (PR HO_5.out)); (case aS => exact (below_size (BL HB.out))); (case aL => have := LMc14.out; omega); intro v879 w15 ho hb hg hat; rw [← Ny878.out] at ho; refine E4 (bG BK873.out hg (Kd.R_ne HO_5.out BK873.out (by decide))) (bG BK874.out hg (Kd.R_ne HO_5.out BK874.out (by decide))) (hb) (ho) ?_; clear BK873 BK874 HB HO_5; intro BK873 BK874 HB HO880; clear ho hb hg hat))
    go_roundg k1
    case measure => have := HK1.out; omega
    case rel => exact ⟨(y878), (wrap64 (x10_1 + 1)), RG, H', ⟨by have := HK1.out; omega⟩, ⟨PR HO880.out⟩, ⟨PB BK873.out⟩, ⟨PB BK874.out⟩, ⟨BL HB.out⟩⟩
  replace H := bindA H; obtain ⟨⟨t881, t882, t883⟩, A16, H⟩ := H
  dsimp only at H
  simp only [Option.some.injEq, Prod.mk.injEq] at H
  obtain ⟨rfl, rfl, rfl⟩ := H
  have hnb17 := NB873_874.out
  have hnc17 := NB874_873.out
  obtain ⟨hcz18_0, hcz18_1, hcz18_2, hfz18_0, hfz18_1, hfz18_2⟩ := cz3 BK873.out
  obtain ⟨Ao19, co19, eo19⟩ := Kd.R_slice HO_5.out
  subst eo19
  go_wp2_with (first | ((with_reducible refine gate_callee (f := 68) rfl ?_); refine goesM (N := (some 24)) #[.agg #[.int .i64 a0_0, .int .i64 a0_1, .slice A0_2 l0_2.length c0_2], .slice Ao19 x5_1.length co19] Try.func68 ?_; (with_reducible refine (spec_saWith.calls k1 a0_0 a0_1 _ _ l0_2 _ _ x5_1 t881 t882 t883 _ ?side1 ?side2 ?side3 ?side4 A16.out).mono ?_); (case side1 => exact CB (Kd.C_below HR0_2.out HB.out)); (case side2 => exact HC0_2.out); (case side3 => repeat (first | exact (Kd.R_reads' HO_5.out).2.2 | (with_reducible refine Kd.C_alloc ?_ _) | (with_reducible refine Kd.C_drewN ?_ _) | (with_reducible refine Kd.C_drew ?_))); (case side4 => exact (Kd.R_reads' HO_5.out).2.1); rintro e w20 ⟨v884, rfl, ho0, hb⟩; refine ⟨_, rfl, ?_⟩; refine E5 (Kd.R_below (PR HO_5.out) hb) (Kd.R_lower ho0 (below_size (BL HB.out))) (bB BK873.out hb) (bB BK874.out hb) (below_step (BL HB.out) hb) ?_; clear HO_5 BK873 BK874 HB; intro HO_5 HO885 BK873 BK874 HB; (try clear hb); (try clear hb2); (try clear hk); (try clear hi); (try clear ho0); obtain ⟨hcz21_0, hcz21_1, hcz21_2, hfz21_0, hfz21_1, hfz21_2⟩ := cz3 BK874.out; obtain ⟨Ao22, co22, eo22⟩ := Kd.R_slice HO885.out; subst eo22))
  refine bodyPost_ret (results_cell_row rfl _ _ gb874 30 #[.int .i64 t881, .int .i64 t882, .slice Ao22 t883.length co22] (0, 0) _ rfl (by (with_reducible repeat (first | refine blk_drewN ?_ _ | refine blk_drew ?_ | refine blk_alloc ?_ _)); refine blk_put (cs := #[.int .i64 t881, .int .i64 t882, .slice none 0 0]) ?_ 2 _ rfl; (with_reducible repeat (first | refine blk_drewN ?_ _ | refine blk_drew ?_ | refine blk_alloc ?_ _)); refine blk_put (cs := #[.int .i64 t881, .int .i64 0, .slice none 0 0]) ?_ 1 _ rfl; (with_reducible repeat (first | refine blk_drewN ?_ _ | refine blk_drew ?_ | refine blk_alloc ?_ _)); refine blk_put (cs := #[.int .i64 0, .int .i64 0, .slice none 0 0]) ?_ 0 _ rfl; (with_reducible repeat (first | refine blk_drewN ?_ _ | refine blk_drew ?_ | refine blk_alloc ?_ _)); exact BK874.out) Try.underlying30 rfl (by kernel_rfl)) rfl ?_
  exact ⟨_, RF, by (with_reducible repeat (first | apply Kd.R_alloc | apply Kd.R_drewN | apply Kd.R_drew)); exact Kd.R_mono (Kd.R_far (p := ⟨gb874, 2, none⟩) (Kd.R_far (p := ⟨gb874, 1, none⟩) (Kd.R_far (p := ⟨gb874, 0, none⟩) (Kd.R_types HO885.out BK874.out (by decide)) (fun _ hk => hk.2) (.int .i64 t881)) (fun _ hk => hk.2) (.int .i64 t882)) (fun _ hk => hk.2) (.slice Ao22 t883.length co22)) (fun _ hk => trivial), BL HB.out⟩
/-! ### spec_BoardInState: function 38 -/
def spec_BoardInState.f (k : Nat) (a0_0 : Int) (a0_1 : Int) (l0_2 : List (S73)) (a1 : Int) : Option (Int × Int × (List (S73)) × Bool) := (spec_saSmall.f k a0_0 a0_1 l0_2).bind fun t888 => (if t888 = true then ((spec_saUnits.f k a0_0 a0_1 l0_2).bind fun t889 => (if 0 ≤ (IntKind.u64.wrap ((t889.length : Int))) then ((spec_l1In.f a1 0 (wrap64 ((shl .i64 1 (IntKind.u64.wrap ((t889.length : Int)))) - 1))).bind fun t892 => (if t892 = true then ((spec_saIn.f k a0_0 a0_1 l0_2 a1).bind fun bt893 => (some (bt893.1, bt893.2.1, bt893.2.2, true))) else (some (0, 0, ([] : List (S73)), false)))) else (none))) else (some (0, 0, ([] : List (S73)), false)))
theorem spec_BoardInState.mono : ∀ a0 a1 a2 a3 k, LeO (spec_BoardInState.f k a0 a1 a2 a3) (spec_BoardInState.f (k + 1) a0 a1 a2 a3) := by
  intro a0 a1 a2 a3 k
  unfold spec_BoardInState.f
  repeat' first
      | (with_reducible exact spec_saIn.mono _ _ _ _ _)
      | (with_reducible exact spec_saSmall.mono _ _ _ _)
      | (with_reducible exact spec_saUnits.mono _ _ _ _)
      | (with_reducible exact LeO.refl _)
      | (with_reducible exact LeO.none _)
      | (with_reducible refine LeO.ite ?_ ?_)
      | (with_reducible refine LeO.bind ?_ (fun _ => ?_))
      | exact spec_saIn.mono _ _ _ _ _
      | exact spec_saSmall.mono _ _ _ _
      | exact spec_saUnits.mono _ _ _ _
      | exact LeO.none _
      | refine LeO.ite ?_ ?_
      | refine LeO.bind ?_ (fun _ => ?_)
set_option maxHeartbeats 8000000 in
set_option maxRecDepth 100000 in
theorem spec_BoardInState.calls (k : Nat) (a0_0 : Int) (a0_1 : Int) (A0_2 : Option Addr) (c0_2 : Nat) (l0_2 : List (S73)) (a1 : Int) (r1 : Int) (r2 : Int) (r3 : List (S73)) (r4 : Bool) (w : World) (hr0_2 : Kd.C k73 w A0_2 l0_2.length l0_2) (hc0_2 : l0_2.length ≤ c0_2) (h : spec_BoardInState.f k a0_0 a0_1 l0_2 a1 = some (r1, r2, r3, r4)) :
    Calls Try.prog 38 #[.agg #[.int .i64 a0_0, .int .i64 a0_1, .slice A0_2 l0_2.length c0_2], .int .i64 a1] w fun e w' => ∃ v2_ : Value, e = .returned (.tuple #[.agg #[.int .i64 r1, .int .i64 r2, v2_], .bool r4]) ∧ Kd.R k73 73 w' w.heap.size (fun _ => True) v2_ r3 ∧ Below w.heap.size w w' := by
  have hu30 := Try.underlying30
  have HR0_2 := Aside0.mk hr0_2
  have HC0_2 := Aside0.mk hc0_2
  clear hr0_2 hc0_2
  have HB := Aside0.mk (Below.refl w.heap.size w)
  have H := h
  clear h
  unfold spec_BoardInState.f at H
  replace H := bindA H; obtain ⟨t888, A3, H⟩ := H
  replace H := ifX H; rcases H with ⟨rfl, H⟩ | ⟨rfl, H⟩
  · replace H := bindA H; obtain ⟨t889, A5, H⟩ := H
    obtain ⟨ji6, hji6⟩ : ∃ j_ : Int, (IntKind.u64.wrap ((t889.length : Int))) = j_ := ⟨_, rfl⟩
    replace H : (if 0 ≤ (ji6) then ((spec_l1In.f a1 0 (wrap64 ((shl .i64 1 (ji6)) - 1))).bind fun t892 => (if t892 = true then ((spec_saIn.f k a0_0 a0_1 l0_2 a1).bind fun bt893 => (some (bt893.1, bt893.2.1, bt893.2.2, true))) else (some (0, 0, ([] : List (S73)), false)))) else (none)) = some (r1, r2, r3, r4) := by first | (rw [hji6] at H; exact H) | (simp only [hji6] at H ⊢; exact H)
    (try rw [hji6] at A3)
    (try rw [hji6] at A5)
    replace H := ifP H; obtain ⟨c7, H⟩ := H
    have c7b0 := eq_true c7
    have c7b1 := decide_eq_true c7
    clear c7
    obtain ⟨ji8, hji8⟩ : ∃ j_ : Int, (shl .i64 1 (ji6)) = j_ := ⟨_, rfl⟩
    replace H : ((spec_l1In.f a1 0 (wrap64 ((ji8) - 1))).bind fun t892 => (if t892 = true then ((spec_saIn.f k a0_0 a0_1 l0_2 a1).bind fun bt893 => (some (bt893.1, bt893.2.1, bt893.2.2, true))) else (some (0, 0, ([] : List (S73)), false)))) = some (r1, r2, r3, r4) := by first | (rw [hji8] at H; exact H) | (simp only [hji8] at H ⊢; exact H)
    (try rw [hji8] at A3)
    (try rw [hji8] at A5)
    have hji8_ : (IntKind.i64.wrap (1 * 2 ^ min (ji6).toNat 64)) = ji8 := hji8
    have hji8z : (ji6) ≤ 64 → (IntKind.i64.wrap (1 * 2 ^ (ji6).toNat)) = ji8 := shl_small hji8
    have hji8u : (IntKind.i64.wrap (2 ^ min (ji6).toNat 64)) = ji8 := by have h_ := hji8_; rw [Int.one_mul] at h_; exact h_
    have hji8v : (ji6) ≤ 64 → (IntKind.i64.wrap (2 ^ (ji6).toNat)) = ji8 := fun hle_ => by have h_ := hji8z hle_; rw [Int.one_mul] at h_; exact h_
    have hji8y : (wrap64 (1 * 2 ^ min (ji6).toNat 64)) = ji8 := (i64_w _).symm.trans hji8_
    have hji8x : (ji6) ≤ 64 → (wrap64 (1 * 2 ^ (ji6).toNat)) = ji8 := fun h_ => (i64_w _).symm.trans (hji8z h_)
    replace H := bindA H; obtain ⟨t892, A9, H⟩ := H
    replace H := ifX H; rcases H with ⟨rfl, H⟩ | ⟨rfl, H⟩
    · replace H := bindA H; obtain ⟨⟨t893, t894, t895⟩, A11, H⟩ := H
      dsimp only at H
      simp only [Option.some.injEq, Prod.mk.injEq] at H
      obtain ⟨rfl, rfl, rfl, rfl⟩ := H
      go_enter Try.func38, Try.ntmps38
      go_wp2_with (first | ((with_reducible refine gate_dst (N := 2) rfl ?_); (try (refine gate_guard (by rfl) ?_; dsimp only)); refine boxE (N := 2) (cs := #[.int .i64 a0_0, .int .i64 a0_1, .slice A0_2 l0_2.length c0_2]) (t := 30) ?_; intro gb886 hg w12 hbox hb; refine E4b HB.out hg hbox hb ?_; clear HB; intro HB BK886 GW886 GE886; clear hb hbox hg) | ((with_reducible refine gate_dst (N := 4) rfl ?_); (try (refine gate_guard (by rfl) ?_; dsimp only)); refine boxE (N := 4) (cs := #[.int .i64 0, .int .i64 0, .slice none 0 0]) (t := 30) ?_; intro gb887 hg w13 hbox hb; refine E7 (bB BK886.out hb) (below_step (BL HB.out) hb) (hbox) (gwM hg (below_size (BL HB.out)) : w.heap.size ≤ gb887) (gwM hg (below_size (BL HB.out)) : w.heap.size ≤ gb887) ((nB BK886.out hg : gb886 ≠ gb887)) ((nC BK886.out hg : gb887 ≠ gb886)) ?_; clear BK886 HB; intro BK886 HB BK887 GW887 GE887 NB886_887 NB887_886; clear hb hbox hg; have hnb14 := NB886_887.out; have hnc14 := NB887_886.out; obtain ⟨hcz15_0, hcz15_1, hcz15_2, hfz15_0, hfz15_1, hfz15_2⟩ := cz3 BK886.out) | ((with_reducible refine gate_callee (f := 54) rfl ?_); refine goesM (N := (some 7)) #[.agg #[.int .i64 a0_0, .int .i64 a0_1, .slice A0_2 l0_2.length c0_2]] Try.func54 ?_; (with_reducible refine (spec_saSmall.calls k a0_0 a0_1 _ _ l0_2 true _ ?side1 ?side2 A3.out).mono ?_); (case side1 => exact CB (Kd.C_below HR0_2.out HB.out)); (case side2 => exact HC0_2.out); rintro e w16 ⟨rfl, hb⟩; refine ⟨_, rfl, ?_⟩; refine E3 (bB BK886.out hb) (bB BK887.out hb) (below_step (BL HB.out) hb) ?_; clear BK886 BK887 HB; intro BK886 BK887 HB; (try clear hb); (try clear hb2); (try clear hk); (try clear hi); obtain ⟨hcz17_0, hcz17_1, hcz17_2, hfz17_0, hfz17_1, hfz17_2⟩ := cz3 BK886.out) | (go_at_call 59; (with_reducible refine (spec_saUnits.calls k a0_0 a0_1 _ _ l0_2 t889 _ ?side1 ?side2 A5.out).mono ?_); (case side1 => exact CB (Kd.C_below HR0_2.out HB.out)); (case side2 => exact HC0_2.out); rintro e w18 ⟨v890, rfl, ho0, hb⟩; refine E4 (Kd.S_lower ho0 (below_size (BL HB.out))) (bB BK886.out hb) (bB BK887.out hb) (below_step (BL HB.out) hb) ?_; clear BK886 BK887 HB; intro HO891 BK886 BK887 HB; (try clear hb); (try clear hb2); (try clear hk); (try clear hi); (try clear ho0); obtain ⟨Ao19, co19, eo19⟩ := Kd.S_slice HO891.out; subst eo19) | (go_at_call 58; (with_reducible refine (spec_l1In.calls a1 0 (wrap64 ((ji8) - 1)) true _ A9.out).mono ?_); rintro e w' ⟨rfl, ⟨nd, rfl⟩⟩; (try (rw [drewN_self w18]; generalize hq_ : World.drewN w18 _ = w18; have n0_ : Aside0 (Kd.S (Kd.slice 3 (Kd.int .i64)) 36 w18 w.heap.size (fun _ => True) (.slice Ao19 t889.length co19) t889) := ⟨by rw [← hq_]; exact (PS HO891.out)⟩; have n1_ : Aside0 (w18.heap[gb886]? = some (.cells #[.int .i64 a0_0, .int .i64 a0_1, .slice A0_2 l0_2.length c0_2] 30 (0, 0))) := ⟨by rw [← hq_]; exact (PB BK886.out)⟩; have n2_ : Aside0 (w18.heap[gb887]? = some (.cells #[.int .i64 0, .int .i64 0, .slice none 0 0] 30 (0, 0))) := ⟨by rw [← hq_]; exact (PB BK887.out)⟩; have n3_ : Aside0 (Below w.heap.size w w18) := ⟨by rw [← hq_]; exact (BL HB.out)⟩; clear HO891 BK886 BK887 HB hq_; have HO891 := n0_; have BK886 := n1_; have BK887 := n2_; have HB := n3_; clear n0_ n1_ n2_ n3_)); obtain ⟨hcz20_0, hcz20_1, hcz20_2, hfz20_0, hfz20_1, hfz20_2⟩ := cz3 BK886.out) | ((with_reducible refine gate_callee (f := 70) rfl ?_); refine goesM (N := (some 23)) #[.agg #[.int .i64 a0_0, .int .i64 a0_1, .slice A0_2 l0_2.length c0_2], .int .i64 a1] Try.func70 ?_; (with_reducible refine (spec_saIn.calls k a0_0 a0_1 _ _ l0_2 a1 t893 t894 t895 _ ?side1 ?side2 A11.out).mono ?_); (case side1 => exact CB (Kd.C_below HR0_2.out HB.out)); (case side2 => exact HC0_2.out); rintro e w21 ⟨v896, rfl, ho0, hb⟩; refine ⟨_, rfl, ?_⟩; refine E5 (Kd.S_below (PS HO891.out) hb) (Kd.R_lower ho0 (below_size (BL HB.out))) (bB BK886.out hb) (bB BK887.out hb) (below_step (BL HB.out) hb) ?_; clear HO891 BK886 BK887 HB; intro HO891 HO897 BK886 BK887 HB; (try clear hb); (try clear hb2); (try clear hk); (try clear hi); (try clear ho0); obtain ⟨hcz22_0, hcz22_1, hcz22_2, hfz22_0, hfz22_1, hfz22_2⟩ := cz3 BK887.out; obtain ⟨Ao23, co23, eo23⟩ := Kd.R_slice HO897.out; subst eo23))
      refine bodyPost_ret (results_ct rfl _ _ gb887 30 #[.int .i64 t893, .int .i64 t894, .slice Ao23 t895.length co23] (0, 0) _ rfl (by (with_reducible repeat (first | refine blk_drewN ?_ _ | refine blk_drew ?_ | refine blk_alloc ?_ _)); refine blk_put (cs := #[.int .i64 t893, .int .i64 t894, .slice none 0 0]) ?_ 2 _ rfl; (with_reducible repeat (first | refine blk_drewN ?_ _ | refine blk_drew ?_ | refine blk_alloc ?_ _)); refine blk_put (cs := #[.int .i64 t893, .int .i64 0, .slice none 0 0]) ?_ 1 _ rfl; (with_reducible repeat (first | refine blk_drewN ?_ _ | refine blk_drew ?_ | refine blk_alloc ?_ _)); refine blk_put (cs := #[.int .i64 0, .int .i64 0, .slice none 0 0]) ?_ 0 _ rfl; (with_reducible repeat (first | refine blk_drewN ?_ _ | refine blk_drew ?_ | refine blk_alloc ?_ _)); exact BK887.out) Try.underlying30 rfl (by kernel_rfl)) rfl ?_
      exact ⟨_, by first | rfl | (simp [errW_none, errW_some] <;> rfl) | (simp only [← hji6, ← hji8]; first | rfl | (simp [errW_none, errW_some] <;> rfl)) | (simp [*, errW_none, errW_some] <;> rfl), by (with_reducible repeat (first | apply Kd.R_alloc | apply Kd.R_drewN | apply Kd.R_drew)); exact Kd.R_mono (Kd.R_far (p := ⟨gb887, 2, none⟩) (Kd.R_far (p := ⟨gb887, 1, none⟩) (Kd.R_far (p := ⟨gb887, 0, none⟩) (Kd.R_types HO897.out BK887.out (by decide)) (fun _ hk => hk.2) (.int .i64 t893)) (fun _ hk => hk.2) (.int .i64 t894)) (fun _ hk => hk.2) (.slice Ao23 t895.length co23)) (fun _ hk => trivial), BL HB.out⟩
    simp only [Option.some.injEq, Prod.mk.injEq] at H
    obtain ⟨rfl, rfl, rfl, rfl⟩ := H
    go_enter Try.func38, Try.ntmps38
    go_wp2_with (first | ((with_reducible refine gate_dst (N := 2) rfl ?_); (try (refine gate_guard (by rfl) ?_; dsimp only)); refine boxE (N := 2) (cs := #[.int .i64 a0_0, .int .i64 a0_1, .slice A0_2 l0_2.length c0_2]) (t := 30) ?_; intro gb886 hg w24 hbox hb; refine E4b HB.out hg hbox hb ?_; clear HB; intro HB BK886 GW886 GE886; clear hb hbox hg) | ((with_reducible refine gate_dst (N := 4) rfl ?_); (try (refine gate_guard (by rfl) ?_; dsimp only)); refine boxE (N := 4) (cs := #[.int .i64 0, .int .i64 0, .slice none 0 0]) (t := 30) ?_; intro gb887 hg w25 hbox hb; refine E7 (bB BK886.out hb) (below_step (BL HB.out) hb) (hbox) (gwM hg (below_size (BL HB.out)) : w.heap.size ≤ gb887) (gwM hg (below_size (BL HB.out)) : w.heap.size ≤ gb887) ((nB BK886.out hg : gb886 ≠ gb887)) ((nC BK886.out hg : gb887 ≠ gb886)) ?_; clear BK886 HB; intro BK886 HB BK887 GW887 GE887 NB886_887 NB887_886; clear hb hbox hg; have hnb26 := NB886_887.out; have hnc26 := NB887_886.out; obtain ⟨hcz27_0, hcz27_1, hcz27_2, hfz27_0, hfz27_1, hfz27_2⟩ := cz3 BK886.out) | ((with_reducible refine gate_callee (f := 54) rfl ?_); refine goesM (N := (some 7)) #[.agg #[.int .i64 a0_0, .int .i64 a0_1, .slice A0_2 l0_2.length c0_2]] Try.func54 ?_; (with_reducible refine (spec_saSmall.calls k a0_0 a0_1 _ _ l0_2 true _ ?side1 ?side2 A3.out).mono ?_); (case side1 => exact CB (Kd.C_below HR0_2.out HB.out)); (case side2 => exact HC0_2.out); rintro e w28 ⟨rfl, hb⟩; refine ⟨_, rfl, ?_⟩; refine E3 (bB BK886.out hb) (bB BK887.out hb) (below_step (BL HB.out) hb) ?_; clear BK886 BK887 HB; intro BK886 BK887 HB; (try clear hb); (try clear hb2); (try clear hk); (try clear hi); obtain ⟨hcz29_0, hcz29_1, hcz29_2, hfz29_0, hfz29_1, hfz29_2⟩ := cz3 BK886.out) | (go_at_call 59; (with_reducible refine (spec_saUnits.calls k a0_0 a0_1 _ _ l0_2 t889 _ ?side1 ?side2 A5.out).mono ?_); (case side1 => exact CB (Kd.C_below HR0_2.out HB.out)); (case side2 => exact HC0_2.out); rintro e w30 ⟨v890, rfl, ho0, hb⟩; refine E4 (Kd.S_lower ho0 (below_size (BL HB.out))) (bB BK886.out hb) (bB BK887.out hb) (below_step (BL HB.out) hb) ?_; clear BK886 BK887 HB; intro HO891 BK886 BK887 HB; (try clear hb); (try clear hb2); (try clear hk); (try clear hi); (try clear ho0); obtain ⟨Ao31, co31, eo31⟩ := Kd.S_slice HO891.out; subst eo31) | (go_at_call 58; (with_reducible refine (spec_l1In.calls a1 0 (wrap64 ((ji8) - 1)) false _ A9.out).mono ?_); rintro e w' ⟨rfl, ⟨nd, rfl⟩⟩; (try (rw [drewN_self w30]; generalize hq_ : World.drewN w30 _ = w30; have n0_ : Aside0 (Kd.S (Kd.slice 3 (Kd.int .i64)) 36 w30 w.heap.size (fun _ => True) (.slice Ao31 t889.length co31) t889) := ⟨by rw [← hq_]; exact (PS HO891.out)⟩; have n1_ : Aside0 (w30.heap[gb886]? = some (.cells #[.int .i64 a0_0, .int .i64 a0_1, .slice A0_2 l0_2.length c0_2] 30 (0, 0))) := ⟨by rw [← hq_]; exact (PB BK886.out)⟩; have n2_ : Aside0 (w30.heap[gb887]? = some (.cells #[.int .i64 0, .int .i64 0, .slice none 0 0] 30 (0, 0))) := ⟨by rw [← hq_]; exact (PB BK887.out)⟩; have n3_ : Aside0 (Below w.heap.size w w30) := ⟨by rw [← hq_]; exact (BL HB.out)⟩; clear HO891 BK886 BK887 HB hq_; have HO891 := n0_; have BK886 := n1_; have BK887 := n2_; have HB := n3_; clear n0_ n1_ n2_ n3_)); obtain ⟨hcz32_0, hcz32_1, hcz32_2, hfz32_0, hfz32_1, hfz32_2⟩ := cz3 BK887.out))
    refine bodyPost_ret (results_ct rfl _ _ gb887 30 #[.int .i64 0, .int .i64 0, .slice none 0 0] (0, 0) _ rfl (by (with_reducible repeat (first | refine blk_drewN ?_ _ | refine blk_drew ?_ | refine blk_alloc ?_ _)); refine blk_put (cs := #[.int .i64 0, .int .i64 0, .slice none 0 0]) ?_ 2 _ rfl; (with_reducible repeat (first | refine blk_drewN ?_ _ | refine blk_drew ?_ | refine blk_alloc ?_ _)); refine blk_put (cs := #[.int .i64 0, .int .i64 0, .slice none 0 0]) ?_ 1 _ rfl; (with_reducible repeat (first | refine blk_drewN ?_ _ | refine blk_drew ?_ | refine blk_alloc ?_ _)); refine blk_put (cs := #[.int .i64 0, .int .i64 0, .slice none 0 0]) ?_ 0 _ rfl; (with_reducible repeat (first | refine blk_drewN ?_ _ | refine blk_drew ?_ | refine blk_alloc ?_ _)); exact BK887.out) Try.underlying30 rfl (by kernel_rfl)) rfl ?_
    exact ⟨_, by first | rfl | (simp [errW_none, errW_some] <;> rfl) | (simp only [← hji6, ← hji8]; first | rfl | (simp [errW_none, errW_some] <;> rfl)) | (simp [*, errW_none, errW_some] <;> rfl), by first | exact Kd.R_nil _ _ _ _ _ | exact Kd.N_nil _ _ _ _ _ | exact Kd.V_nil _ _ _ _ _ | exact Kd.Q_nil _ _ _ _ _ | exact Kd.S_nil _ _ _ _ _, BL HB.out⟩
  simp only [Option.some.injEq, Prod.mk.injEq] at H
  obtain ⟨rfl, rfl, rfl, rfl⟩ := H
  go_enter Try.func38, Try.ntmps38
  go_wp2_with (first | ((with_reducible refine gate_dst (N := 2) rfl ?_); (try (refine gate_guard (by rfl) ?_; dsimp only)); refine boxE (N := 2) (cs := #[.int .i64 a0_0, .int .i64 a0_1, .slice A0_2 l0_2.length c0_2]) (t := 30) ?_; intro gb886 hg w33 hbox hb; refine E4b HB.out hg hbox hb ?_; clear HB; intro HB BK886 GW886 GE886; clear hb hbox hg) | ((with_reducible refine gate_dst (N := 4) rfl ?_); (try (refine gate_guard (by rfl) ?_; dsimp only)); refine boxE (N := 4) (cs := #[.int .i64 0, .int .i64 0, .slice none 0 0]) (t := 30) ?_; intro gb887 hg w34 hbox hb; refine E7 (bB BK886.out hb) (below_step (BL HB.out) hb) (hbox) (gwM hg (below_size (BL HB.out)) : w.heap.size ≤ gb887) (gwM hg (below_size (BL HB.out)) : w.heap.size ≤ gb887) ((nB BK886.out hg : gb886 ≠ gb887)) ((nC BK886.out hg : gb887 ≠ gb886)) ?_; clear BK886 HB; intro BK886 HB BK887 GW887 GE887 NB886_887 NB887_886; clear hb hbox hg; have hnb35 := NB886_887.out; have hnc35 := NB887_886.out; obtain ⟨hcz36_0, hcz36_1, hcz36_2, hfz36_0, hfz36_1, hfz36_2⟩ := cz3 BK886.out) | ((with_reducible refine gate_callee (f := 54) rfl ?_); refine goesM (N := (some 7)) #[.agg #[.int .i64 a0_0, .int .i64 a0_1, .slice A0_2 l0_2.length c0_2]] Try.func54 ?_; (with_reducible refine (spec_saSmall.calls k a0_0 a0_1 _ _ l0_2 false _ ?side1 ?side2 A3.out).mono ?_); (case side1 => exact CB (Kd.C_below HR0_2.out HB.out)); (case side2 => exact HC0_2.out); rintro e w37 ⟨rfl, hb⟩; refine ⟨_, rfl, ?_⟩; refine E3 (bB BK886.out hb) (bB BK887.out hb) (below_step (BL HB.out) hb) ?_; clear BK886 BK887 HB; intro BK886 BK887 HB; (try clear hb); (try clear hb2); (try clear hk); (try clear hi); obtain ⟨hcz38_0, hcz38_1, hcz38_2, hfz38_0, hfz38_1, hfz38_2⟩ := cz3 BK887.out))
  refine bodyPost_ret (results_ct rfl _ _ gb887 30 #[.int .i64 0, .int .i64 0, .slice none 0 0] (0, 0) _ rfl (by (with_reducible repeat (first | refine blk_drewN ?_ _ | refine blk_drew ?_ | refine blk_alloc ?_ _)); refine blk_put (cs := #[.int .i64 0, .int .i64 0, .slice none 0 0]) ?_ 2 _ rfl; (with_reducible repeat (first | refine blk_drewN ?_ _ | refine blk_drew ?_ | refine blk_alloc ?_ _)); refine blk_put (cs := #[.int .i64 0, .int .i64 0, .slice none 0 0]) ?_ 1 _ rfl; (with_reducible repeat (first | refine blk_drewN ?_ _ | refine blk_drew ?_ | refine blk_alloc ?_ _)); refine blk_put (cs := #[.int .i64 0, .int .i64 0, .slice none 0 0]) ?_ 0 _ rfl; (with_reducible repeat (first | refine blk_drewN ?_ _ | refine blk_drew ?_ | refine blk_alloc ?_ _)); exact BK887.out) Try.underlying30 rfl (by kernel_rfl)) rfl ?_
  exact ⟨_, RF, by first | exact Kd.R_nil _ _ _ _ _ | exact Kd.N_nil _ _ _ _ _ | exact Kd.V_nil _ _ _ _ _ | exact Kd.Q_nil _ _ _ _ _ | exact Kd.S_nil _ _ _ _ _, BL HB.out⟩

/-! ### impl_bitList: function 71 -/
def impl_bitList.l0 : Nat → Int → List Int → Int → Int → Option (List Int)
  | 0, _, _, _, _ => none
  | k + 1, x0, x5, x10, x11 => if x11 < x10 then (if 0 ≤ x11 then (if x11 < (x5.length : Int) then (impl_bitList.l0 k x0 (x5.set (x11 : Int).toNat (Go.bits .and .i64 (shr .i64 x0 x11) 1)) x10 (wrap64 (x11 + 1))) else (none)) else (none)) else (some x5)
def impl_bitList.f (k : Nat) (a0 : Int) (a1 : Int) : Option (List Int) := if 0 ≤ a1 then (if (a1 : Int).toNat ≤ 35184372088832 then ((some (List.replicate (a1 : Int).toNat 0 : List Int)).bind fun y898 => (impl_bitList.l0 k a0 y898 (y898.length : Int) 0)) else (none)) else (none)
theorem impl_bitList.mono_l : ∀ k, (∀ y0 y1 y2 y3, LeO (impl_bitList.l0 k y0 y1 y2 y3) (impl_bitList.l0 (k + 1) y0 y1 y2 y3))
  | 0 => fun _ _ _ _ r h => by simp [impl_bitList.l0] at h
  | k + 1 => by
    have ih0 := impl_bitList.mono_l k
    intros
    first | unfold impl_bitList.l0
    repeat' first | (with_reducible first | apply ih0 | exact LeO.refl _ | exact LeO.none _ | refine LeO.ite ?_ ?_ | refine LeO.bind ?_ (fun _ => ?_)) | apply ih0 | exact LeO.none _ | refine LeO.ite ?_ ?_ | refine LeO.bind ?_ (fun _ => ?_)
theorem impl_bitList.mono : ∀ a0 a1 k, LeO (impl_bitList.f k a0 a1) (impl_bitList.f (k + 1) a0 a1) := by
  intro a0 a1 k
  have ih0 := impl_bitList.mono_l k
  unfold impl_bitList.f
  repeat' first | (with_reducible first | apply ih0 | exact LeO.refl _ | exact LeO.none _ | refine LeO.ite ?_ ?_ | refine LeO.bind ?_ (fun _ => ?_)) | apply ih0 | exact LeO.none _ | refine LeO.ite ?_ ?_ | refine LeO.bind ?_ (fun _ => ?_)
set_option maxHeartbeats 8000000 in
set_option maxRecDepth 100000 in
theorem impl_bitList.calls (k : Nat) (a0 : Int) (a1 : Int) (r : List Int) (w : World) (h : impl_bitList.f k a0 a1 = some r) :
    Calls Try.prog 71 #[.int .i64 a0, .int .i64 a1] w fun e w' => ∃ v0_ : Value, e = .returned (v0_) ∧ Kd.R (Kd.int .i64) 3 w' w.heap.size (fun _ => True) v0_ r ∧ Below w.heap.size w w' := by
  have HB := Aside0.mk (Below.refl w.heap.size w)
  have H := h
  clear h
  unfold impl_bitList.f at H
  replace H := ifP H; obtain ⟨c3, H⟩ := H
  have c3b0 := eq_true c3
  have c3b1 := decide_eq_true c3
  clear c3
  replace H := ifP H; obtain ⟨c4, H⟩ := H
  have c4b0 := eq_true c4
  have c4b1 := decide_eq_true c4
  clear c4
  replace H := nameB H; obtain ⟨y898, Ny898, H⟩ := H
  have H' := Aside0.mk H
  clear H
  go_enter Try.func71, Try.ntmps71
  go_wp2_with (first | ((with_reducible refine gate_dst (N := 8) rfl ?_); refine Kd.R_make (Kd.int .i64) _ 3 rfl (N := 8) rfl 36 _ _ rfl a1 rfl rfl Try.underlying36 (.int .i64 0) 8 info3 rfl (by decide) (by omega) 0 (ok := fun _ => True) (okp := fun _ => True) rfl (fun _ hk => hk) trivial (OD) (Nat.le_trans (Nat.mul_le_mul_right _ (OD : a1.toNat ≤ 35184372088832)) (by omega)) (Below.refl _ _) (Nat.le_refl _) ?_; intro v899 w5 ho6 hb hg_ hnew_; clear hg_ hnew_; (first | rw [← Ny898.out] at ho6 | (simp only [Int.reduceToNat] at ho6; rw [← Ny898.out] at ho6)); refine E2 (Kd.R_lower ho6 (below_size (BL HB.out))) (below_step (BL HB.out) hb) ?_; clear HB; intro HO900 HB; clear hb ho6; obtain ⟨Ao7, co7, eo7⟩ := Kd.R_slice HO900.out; subst eo7))
  go_loopg [11] k (fun kq v11 w' => ∃ (x5_1 : List Int) (x11_1 : Int), v11 = .int .i64 x11_1 ∧ Aside0 (impl_bitList.l0 kq a0 x5_1 (y898.length : Int) x11_1 = some r) ∧ Aside0 (kq ≤ k) ∧ Aside0 (Kd.R (Kd.int .i64) 3 w' w.heap.size (fun _ => True) (.slice Ao7 y898.length co7) x5_1) ∧ Aside0 (Below w.heap.size w w'))
  case atStart => exact ⟨(y898), (0), RG, H', ⟨Nat.le_refl _⟩, ⟨PR HO900.out⟩, ⟨BL HB.out⟩⟩
  clear H'
  try clear c3b0; try clear c3b1; try clear c4b0; try clear c4b1
  obtain ⟨x5_1, x11_1, rfl, HA, HK1, HO_5, HB⟩ := hrel
  have hl5_1 := (Kd.R_reads' HO_5.out).1
  rw [hl5_1] at HO_5
  (try simp only [hl5_1])
  cases gk with
  | zero => exact absurd HA.out (by simp [impl_bitList.l0])
  | succ k1 => ?_
  have H := HA.out
  clear HA
  simp only [impl_bitList.l0] at H
  replace H := ifB H; rcases H with ⟨c8b0, H⟩ | ⟨c8b0, H⟩
  · replace H := ifP H; obtain ⟨c9, H⟩ := H
    have c9b0 := eq_true c9
    have c9b1 := decide_eq_true c9
    clear c9
    obtain ⟨ji10, hji10⟩ : ∃ j_ : Int, (shr .i64 a0 x11_1) = j_ := ⟨_, rfl⟩
    replace H : (if x11_1 < (x5_1.length : Int) then (impl_bitList.l0 k1 a0 (x5_1.set (x11_1 : Int).toNat (Go.bits .and .i64 (ji10) 1)) (y898.length : Int) (wrap64 (x11_1 + 1))) else (none)) = some r := by first | (rw [hji10] at H; exact H) | (simp only [hji10] at H ⊢; exact H)
    have hji10_ : (a0 / 2 ^ min x11_1.toNat 64) = ji10 := hji10
    have hji10z : x11_1 ≤ 64 → (a0 / 2 ^ x11_1.toNat) = ji10 := shr_small hji10
    replace H := ifN H; obtain ⟨c11b0, H⟩ := H
    generalize hy901 : ((x5_1.set (x11_1 : Int).toNat (Go.bits .and .i64 (ji10) 1)) : List Int) = y901 at H
    have Ny901 := Aside0.mk hy901.symm; clear hy901
    have H' := Aside0.mk H
    clear H
    have p12 : 0 ≤ (x11_1 : Int) := OD
    have q12 : (x11_1 : Int) < ((x5_1.length : Int) : Int) := OD
    obtain ⟨go12, co12, eo12, gb12, gl12, cl12, HG12⟩ := Kd.R_form HO_5.out (by omega)
    (first | cases eo12 | (injection eo12 with ea_ en_ ec_; (first | subst ea_ | (injection ea_ with ea_; subst ea_)); subst ec_; clear en_))
    have GB12 := Aside0.mk gb12
    have GG12 := Aside0.mk HG12
    clear gb12 gl12 HG12
    obtain ⟨hx12_0, hf12_0⟩ := Kd.R_celln 0 HO_5.out (x11_1 : Int) p12 q12
    replace p12 := eq_true p12
    replace q12 := eq_true q12
    have HP13 := Kd.R_putg HO_5.out (x11_1 : Int) (Go.bits .and .i64 (ji10) 1)
    go_wp2_with (first | ((with_reducible refine gate_store (t := 3) (p := 20) rfl ?_); refine storeE (t := 3) (p := 20) (w1 := (wr.setCell ⟨go12, (x11_1 : Int).toNat, none⟩ (.int .i64 (Go.bits .and .i64 (ji10) 1)))) ?_; intro w14 hw; have hg : wr.grownBy w14 (some go12) := (by rw [hw]; exact HP13.2); have hp_ : Kd.R (Kd.int .i64) 3 w14 w.heap.size (fun _ => True) (.slice (some ⟨go12, 0, none⟩) x5_1.length co7) y901 := (by rw [hw, Ny901.out]; exact HP13.1); clear HP13; refine E2 (hp_) ((by rw [hw]; exact below_set (HB.out) GB12.out : Below w.heap.size w w14)) ?_; clear HO_5 HB; intro HO_5 HB; clear hg hw hp_))
    (try simp only [← hl5_1])
    go_roundg k1
    case measure => have := HK1.out; omega
    case rel => exact ⟨(y901), (wrap64 (x11_1 + 1)), RG, H', ⟨by have := HK1.out; omega⟩, ⟨PR1 HO_5.out hl5_1⟩, ⟨BL HB.out⟩⟩
  (try simp only [hl5_1] at c8b0)
  obtain rfl := Option.some.inj H
  go_wp2
  go_ret
  exact ⟨_, RF, by (with_reducible repeat (first | apply Kd.R_alloc | apply Kd.R_drewN | apply Kd.R_drew)); exact HO_5.out, BL HB.out⟩
/-! ### impl_BoardInState: function 39 -/
def impl_BoardInState.j0 : Nat → Int → List (List Int) → Bool → Int → Int → List (S73) → Option (Int × Int × (List (S73)) × Bool)
  | 0, _, _, _, _, _, _ => none
  | k + 1, x1, x6, x27, x903000, x903001, x903002 => if x27 = true then (some (0, 0, ([] : List (S73)), false)) else ((impl_copyBoard.f x903000 x903001 x903002).bind fun bt908 => ((impl_bitList.f k x1 (x6.length : Int)).bind fun t914 => ((impl_setBits.f k bt908.1 bt908.2.1 bt908.2.2 x6 t914).bind fun t917 => (some (bt908.1, bt908.2.1, t917, true)))))
def impl_BoardInState.f (k : Nat) (a0_0 : Int) (a0_1 : Int) (l0_2 : List (S73)) (a1 : Int) : Option (Int × Int × (List (S73)) × Bool) := (impl_IsBoard.f k a0_0 a0_1 l0_2).bind fun t904 => (if t904 = true then ((impl_unitsOf.f k a0_0 a0_1 l0_2).bind fun t905 => (if (t905.length : Int) > 16 then (impl_BoardInState.j0 k a1 t905 true a0_0 a0_1 l0_2) else (if a1 < 0 then (impl_BoardInState.j0 k a1 t905 true a0_0 a0_1 l0_2) else (impl_BoardInState.j0 k a1 t905 (decide (a1 ≥ (shl .i64 1 (t905.length : Int)))) a0_0 a0_1 l0_2)))) else (some (0, 0, ([] : List (S73)), false)))
theorem impl_BoardInState.mono_l : ∀ k, (∀ y0 y1 y2 y3 y4 y5, LeO (impl_BoardInState.j0 k y0 y1 y2 y3 y4 y5) (impl_BoardInState.j0 (k + 1) y0 y1 y2 y3 y4 y5))
  | 0 => fun _ _ _ _ _ _ r h => by simp [impl_BoardInState.j0] at h
  | k + 1 => by
    have ih0 := impl_BoardInState.mono_l k
    intros
    first | unfold impl_BoardInState.j0
    repeat' first | (with_reducible first | apply ih0 | apply impl_IsBoard.mono | apply impl_bitList.mono | apply impl_setBits.mono | apply impl_unitsOf.mono | exact LeO.refl _ | exact LeO.none _ | refine LeO.ite ?_ ?_ | refine LeO.bind ?_ (fun _ => ?_)) | apply ih0 | apply impl_IsBoard.mono | apply impl_bitList.mono | apply impl_setBits.mono | apply impl_unitsOf.mono | exact LeO.none _ | refine LeO.ite ?_ ?_ | refine LeO.bind ?_ (fun _ => ?_)
theorem impl_BoardInState.mono : ∀ a0 a1 a2 a3 k, LeO (impl_BoardInState.f k a0 a1 a2 a3) (impl_BoardInState.f (k + 1) a0 a1 a2 a3) := by
  intro a0 a1 a2 a3 k
  have ih0 := impl_BoardInState.mono_l k
  unfold impl_BoardInState.f
  repeat' first | (with_reducible first | apply ih0 | apply impl_IsBoard.mono | apply impl_bitList.mono | apply impl_setBits.mono | apply impl_unitsOf.mono | exact LeO.refl _ | exact LeO.none _ | refine LeO.ite ?_ ?_ | refine LeO.bind ?_ (fun _ => ?_)) | apply ih0 | apply impl_IsBoard.mono | apply impl_bitList.mono | apply impl_setBits.mono | apply impl_unitsOf.mono | exact LeO.none _ | refine LeO.ite ?_ ?_ | refine LeO.bind ?_ (fun _ => ?_)
set_option maxHeartbeats 8000000 in
set_option maxRecDepth 100000 in
theorem impl_BoardInState.calls (k : Nat) (a0_0 : Int) (a0_1 : Int) (A0_2 : Option Addr) (c0_2 : Nat) (l0_2 : List (S73)) (a1 : Int) (r1 : Int) (r2 : Int) (r3 : List (S73)) (r4 : Bool) (w : World) (hr0_2 : Kd.C k73 w A0_2 l0_2.length l0_2) (hc0_2 : l0_2.length ≤ c0_2) (h : impl_BoardInState.f k a0_0 a0_1 l0_2 a1 = some (r1, r2, r3, r4)) :
    Calls Try.prog 39 #[.agg #[.int .i64 a0_0, .int .i64 a0_1, .slice A0_2 l0_2.length c0_2], .int .i64 a1] w fun e w' => ∃ v2_ : Value, e = .returned (.tuple #[.agg #[.int .i64 r1, .int .i64 r2, v2_], .bool r4]) ∧ Kd.R k73 73 w' w.heap.size (fun _ => True) v2_ r3 ∧ Below w.heap.size w w' := by
  have hu30 := Try.underlying30
  have HR0_2 := Aside0.mk hr0_2
  have HC0_2 := Aside0.mk hc0_2
  clear hr0_2 hc0_2
  have HB := Aside0.mk (Below.refl w.heap.size w)
  have H := h
  clear h
  unfold impl_BoardInState.f at H
  replace H := bindA H; obtain ⟨t904, A3, H⟩ := H
  replace H := ifX H; rcases H with ⟨rfl, H⟩ | ⟨rfl, H⟩
  · replace H := bindA H; obtain ⟨t905, A5, H⟩ := H
    have HC6 := Aside0.mk H
    clear H
    go_enter Try.func39, Try.ntmps39
    go_upto_region 4 with (first | ((with_reducible refine gate_dst (N := 2) rfl ?_); (try (refine gate_guard (by rfl) ?_; dsimp only)); refine boxE (N := 2) (cs := #[.int .i64 a0_0, .int .i64 a0_1, .slice A0_2 l0_2.length c0_2]) (t := 30) ?_; intro gb902 hg w7 hbox hb; refine E4b HB.out hg hbox hb ?_; clear HB; intro HB BK902 GW902 GE902; clear hb hbox hg) | ((with_reducible refine gate_dst (N := 4) rfl ?_); (try (refine gate_guard (by rfl) ?_; dsimp only)); refine boxE (N := 4) (cs := #[.int .i64 0, .int .i64 0, .slice none 0 0]) (t := 30) ?_; intro gb903 hg w8 hbox hb; refine E7 (bB BK902.out hb) (below_step (BL HB.out) hb) (hbox) (gwM hg (below_size (BL HB.out)) : w.heap.size ≤ gb903) (gwM hg (below_size (BL HB.out)) : w.heap.size ≤ gb903) ((nB BK902.out hg : gb902 ≠ gb903)) ((nC BK902.out hg : gb903 ≠ gb902)) ?_; clear BK902 HB; intro BK902 HB BK903 GW903 GE903 NB902_903 NB903_902; clear hb hbox hg; have hnb9 := NB902_903.out; have hnc9 := NB903_902.out; obtain ⟨hcz10_0, hcz10_1, hcz10_2, hfz10_0, hfz10_1, hfz10_2⟩ := cz3 BK902.out) | ((with_reducible refine gate_callee (f := 50) rfl ?_); refine goesM (N := (some 9)) #[.agg #[.int .i64 a0_0, .int .i64 a0_1, .slice A0_2 l0_2.length c0_2]] Try.func50 ?_; (with_reducible refine (impl_IsBoard.calls k a0_0 a0_1 _ _ l0_2 true _ ?side1 ?side2 A3.out).mono ?_); (case side1 => exact CB (Kd.C_below HR0_2.out HB.out)); (case side2 => exact HC0_2.out); rintro e w11 ⟨rfl, hb⟩; refine ⟨_, rfl, ?_⟩; refine E3 (bB BK902.out hb) (bB BK903.out hb) (below_step (BL HB.out) hb) ?_; clear BK902 BK903 HB; intro BK902 BK903 HB; (try clear hb); (try clear hb2); (try clear hk); (try clear hi); obtain ⟨hcz12_0, hcz12_1, hcz12_2, hfz12_0, hfz12_1, hfz12_2⟩ := cz3 BK902.out) | ((with_reducible refine gate_callee (f := 62) rfl ?_); refine goesM (N := (some 13)) #[.agg #[.int .i64 a0_0, .int .i64 a0_1, .slice A0_2 l0_2.length c0_2]] Try.func62 ?_; (with_reducible refine (impl_unitsOf.calls k a0_0 a0_1 _ _ l0_2 t905 _ ?side1 ?side2 A5.out).mono ?_); (case side1 => exact CB (Kd.C_below HR0_2.out HB.out)); (case side2 => exact HC0_2.out); rintro e w13 ⟨v906, rfl, ho0, hb⟩; refine ⟨_, rfl, ?_⟩; refine E4 (Kd.S_lower ho0 (below_size (BL HB.out))) (bB BK902.out hb) (bB BK903.out hb) (below_step (BL HB.out) hb) ?_; clear BK902 BK903 HB; intro HO907 BK902 BK903 HB; (try clear hb); (try clear hb2); (try clear hk); (try clear hi); (try clear ho0)))
    (try simp only [Act.put, List.setIfInBounds_toArray, List.set_cons_zero, List.set_cons_succ])
    go_cut [27] (fun v27 wc => ∃ (kq : Nat) (x27_5 : Bool), v27 = .bool x27_5 ∧ Aside0 (impl_BoardInState.j0 kq a1 t905 x27_5 a0_0 a0_1 l0_2 = some (r1, r2, r3, r4)) ∧ Aside0 (kq ≤ k) ∧ Aside0 (Kd.S (Kd.slice 3 (Kd.int .i64)) 36 wc w.heap.size (fun _ => True) v906 t905) ∧ Aside0 (wc.heap[gb902]? = some (.cells #[.int .i64 a0_0, .int .i64 a0_1, (.slice A0_2 l0_2.length c0_2)] 30 (0, 0))) ∧ Aside0 (wc.heap[gb903]? = some (.cells #[.int .i64 0, .int .i64 0, (.slice none 0 0)] 30 (0, 0))) ∧ Aside0 (Below w.heap.size w wc))
    case first =>
      have H := HC6.out
      clear HC6
      replace H := ifQ H; rcases H with ⟨c14, H⟩ | ⟨c14, H⟩
      · have c14b0 : decide (16 < (t905.length : Int)) = true := decide_eq_true c14
        have c14b1 : decide (16 < t905.length) = true := decide_eq_true (by omega)
        clear c14
        (first | rw [c14b0] | (simp only [i64_w, i32_w]; rw [c14b0]) | skip)
        have H' := Aside0.mk H
        clear H
        obtain ⟨Ao15, co15, eo15⟩ := Kd.S_slice HO907.out
        subst eo15
        go_wp2
        go_meet
        case rel => exact ⟨_, (true), RG, H', ⟨by first | omega | exact Nat.le_refl _⟩, ⟨PS HO907.out⟩, ⟨PB BK902.out⟩, ⟨PB BK903.out⟩, ⟨BL HB.out⟩⟩
      have c14b0 : decide (16 < (t905.length : Int)) = false := decide_eq_false c14
      have c14b1 : decide (16 < t905.length) = false := decide_eq_false (by omega)
      clear c14
      (first | rw [c14b0] | (simp only [i64_w, i32_w]; rw [c14b0]) | skip)
      replace H := ifB H; rcases H with ⟨c16b0, H⟩ | ⟨c16b0, H⟩
      · have H' := Aside0.mk H
        clear H
        obtain ⟨Ao17, co17, eo17⟩ := Kd.S_slice HO907.out
        subst eo17
        go_wp2
        go_meet
        case rel => exact ⟨_, (true), RG, H', ⟨by first | omega | exact Nat.le_refl _⟩, ⟨PS HO907.out⟩, ⟨PB BK902.out⟩, ⟨PB BK903.out⟩, ⟨BL HB.out⟩⟩
      obtain ⟨ji18, hji18⟩ : ∃ j_ : Int, (shl .i64 1 (t905.length : Int)) = j_ := ⟨_, rfl⟩
      replace H : (impl_BoardInState.j0 k a1 t905 (decide (a1 ≥ (ji18))) a0_0 a0_1 l0_2) = some (r1, r2, r3, r4) := by first | (rw [hji18] at H; exact H) | (simp only [hji18] at H ⊢; exact H)
      have hji18_ : (IntKind.i64.wrap (1 * 2 ^ min (t905.length : Int).toNat 64)) = ji18 := hji18
      have hji18z : (t905.length : Int) ≤ 64 → (IntKind.i64.wrap (1 * 2 ^ (t905.length : Int).toNat)) = ji18 := shl_small hji18
      have hji18p : (IntKind.i64.wrap (1 * 2 ^ min t905.length 64)) = ji18 := hji18_
      have hji18q : (t905.length : Int) ≤ 64 → (IntKind.i64.wrap (1 * 2 ^ t905.length)) = ji18 := hji18z
      have hji18r : (IntKind.i64.wrap (2 ^ min t905.length 64)) = ji18 := by have h_ := hji18p; rw [Int.one_mul] at h_; exact h_
      have hji18s : (t905.length : Int) ≤ 64 → (IntKind.i64.wrap (2 ^ t905.length)) = ji18 := fun hle_ => by have h_ := hji18q hle_; rw [Int.one_mul] at h_; exact h_
      have hji18u : (IntKind.i64.wrap (2 ^ min (t905.length : Int).toNat 64)) = ji18 := by have h_ := hji18_; rw [Int.one_mul] at h_; exact h_
      have hji18v : (t905.length : Int) ≤ 64 → (IntKind.i64.wrap (2 ^ (t905.length : Int).toNat)) = ji18 := fun hle_ => by have h_ := hji18z hle_; rw [Int.one_mul] at h_; exact h_
      have hji18y : (wrap64 (1 * 2 ^ min (t905.length : Int).toNat 64)) = ji18 := (i64_w _).symm.trans hji18_
      have hji18x : (t905.length : Int) ≤ 64 → (wrap64 (1 * 2 ^ (t905.length : Int).toNat)) = ji18 := fun h_ => (i64_w _).symm.trans (hji18z h_)
      have H' := Aside0.mk H
      clear H
      obtain ⟨Ao19, co19, eo19⟩ := Kd.S_slice HO907.out
      subst eo19
      go_wp2
      go_meet
      case rel => exact ⟨_, (decide (a1 ≥ (ji18))), (by first | rfl | (simp; done) | (simp only [← hji18] <;> (first | rfl | simp)) | (simp [*]; done)), H', ⟨by first | omega | exact Nat.le_refl _⟩, ⟨PS HO907.out⟩, ⟨PB BK902.out⟩, ⟨PB BK903.out⟩, ⟨BL HB.out⟩⟩
    clear HC6
    try clear hcz10_0; try clear hcz10_1; try clear hcz10_2; try clear hcz12_0; try clear hcz12_1; try clear hcz12_2; try clear hfz10_0; try clear hfz10_1; try clear hfz10_2; try clear hfz12_0; try clear hfz12_1; try clear hfz12_2
    obtain ⟨kq, x27_5, rfl, HA, HJ5, HO_6, BK902, BK903, HB⟩ := hcut
    cases kq with
    | zero => exact absurd HA.out (by simp [impl_BoardInState.j0])
    | succ kj5 => ?_
    have H := HA.out
    clear HA
    simp only [impl_BoardInState.j0] at H
    replace H := ifX H; rcases H with ⟨rfl, H⟩ | ⟨rfl, H⟩
    · simp only [Option.some.injEq, Prod.mk.injEq] at H
      obtain ⟨rfl, rfl, rfl, rfl⟩ := H
      have hnb21 := NB903_902.out
      have hnc21 := NB902_903.out
      obtain ⟨hcz22_0, hcz22_1, hcz22_2, hfz22_0, hfz22_1, hfz22_2⟩ := cz3 BK903.out
      go_wp2
      refine bodyPost_ret (results_ct rfl _ _ gb903 30 #[.int .i64 0, .int .i64 0, .slice none 0 0] (0, 0) _ rfl (by (with_reducible repeat (first | refine blk_drewN ?_ _ | refine blk_drew ?_ | refine blk_alloc ?_ _)); refine blk_put (cs := #[.int .i64 0, .int .i64 0, .slice none 0 0]) ?_ 2 _ rfl; (with_reducible repeat (first | refine blk_drewN ?_ _ | refine blk_drew ?_ | refine blk_alloc ?_ _)); refine blk_put (cs := #[.int .i64 0, .int .i64 0, .slice none 0 0]) ?_ 1 _ rfl; (with_reducible repeat (first | refine blk_drewN ?_ _ | refine blk_drew ?_ | refine blk_alloc ?_ _)); refine blk_put (cs := #[.int .i64 0, .int .i64 0, .slice none 0 0]) ?_ 0 _ rfl; (with_reducible repeat (first | refine blk_drewN ?_ _ | refine blk_drew ?_ | refine blk_alloc ?_ _)); exact BK903.out) Try.underlying30 rfl (by kernel_rfl)) rfl ?_
      exact ⟨_, RF, by first | exact Kd.R_nil _ _ _ _ _ | exact Kd.N_nil _ _ _ _ _ | exact Kd.V_nil _ _ _ _ _ | exact Kd.Q_nil _ _ _ _ _ | exact Kd.S_nil _ _ _ _ _, BL HB.out⟩
    replace H := bindA H; obtain ⟨⟨t908, t909, t910⟩, A23, H⟩ := H
    dsimp only at H
    replace H := bindA H; obtain ⟨t914, A24, H⟩ := H
    replace H := bindA H; obtain ⟨t917, A25, H⟩ := H
    simp only [Option.some.injEq, Prod.mk.injEq] at H
    obtain ⟨rfl, rfl, rfl, rfl⟩ := H
    have hnb26 := NB902_903.out
    have hnc26 := NB903_902.out
    obtain ⟨hcz27_0, hcz27_1, hcz27_2, hfz27_0, hfz27_1, hfz27_2⟩ := cz3 BK902.out
    try go_wp2_with (first | ((with_reducible refine gate_callee (f := 63) rfl ?_); refine goesM (N := (some 30)) #[.agg #[.int .i64 a0_0, .int .i64 a0_1, .slice A0_2 l0_2.length c0_2]] Try.func63 ?_; (with_reducible refine (impl_copyBoard.calls a0_0 a0_1 _ _ l0_2 t908 t909 t910 _ ?side1 ?side2 A23.out).mono ?_); (case side1 => exact CB (Kd.C_below HR0_2.out HB.out)); (case side2 => exact HC0_2.out); rintro e w28 ⟨v911, rfl, ho0, hb⟩; refine ⟨_, rfl, ?_⟩; refine E5 (Kd.S_below (PS HO_6.out) hb) (Kd.R_lower ho0 (below_size (BL HB.out))) (bB BK902.out hb) (bB BK903.out hb) (below_step (BL HB.out) hb) ?_; clear HO_6 BK902 BK903 HB; intro HO_6 HO912 BK902 BK903 HB; (try clear hb); (try clear hb2); (try clear hk); (try clear hi); (try clear ho0)) | ((with_reducible refine gate_dst (N := 7) rfl ?_); (try (refine gate_guard (by rfl) ?_; dsimp only)); refine boxE (N := 7) (cs := #[.int .i64 0, .int .i64 0, .slice none 0 0]) (t := 30) ?_; intro gb913 hg w29 hbox hb; refine E12 (Kd.S_below (PS HO_6.out) hb) (Kd.R_below (PR HO912.out) hb) (bB BK902.out hb) (bB BK903.out hb) (below_step (BL HB.out) hb) (hbox) (gwM hg (below_size (BL HB.out)) : w.heap.size ≤ gb913) (gwM hg (below_size (BL HB.out)) : w.heap.size ≤ gb913) ((nB BK902.out hg : gb902 ≠ gb913)) ((nC BK902.out hg : gb913 ≠ gb902)) ((nB BK903.out hg : gb903 ≠ gb913)) ((nC BK903.out hg : gb913 ≠ gb903)) ?_; clear HO_6 HO912 BK902 BK903 HB; intro HO_6 HO912 BK902 BK903 HB BK913 GW913 GE913 NB902_913 NB913_902 NB903_913 NB913_903; clear hb hbox hg; have hnb30 := NB913_902.out; have hnc30 := NB902_913.out; have hnb31 := NB913_903.out; have hnc31 := NB903_913.out; obtain ⟨hcz32_0, hcz32_1, hcz32_2, hfz32_0, hfz32_1, hfz32_2⟩ := cz3 BK913.out; obtain ⟨Ao33, co33, eo33⟩ := Kd.R_slice HO912.out; subst eo33))
    have n0_ : Aside0 (Kd.S (Kd.slice 3 (Kd.int .i64)) 36 (((w29.setCell ⟨gb913, 0, none⟩ (.int .i64 t908)).setCell ⟨gb913, 1, none⟩ (.int .i64 t909)).setCell ⟨gb913, 2, none⟩ (.slice Ao33 t910.length co33)) w.heap.size (fun _ => True) v906 t905) := ⟨by (with_reducible repeat (first | apply Kd.S_alloc | apply Kd.S_drewN | apply Kd.S_drew)); exact Kd.S_mono (Kd.S_far (p := ⟨gb913, 2, none⟩) (Kd.S_far (p := ⟨gb913, 1, none⟩) (Kd.S_far (p := ⟨gb913, 0, none⟩) (Kd.S_types HO_6.out BK913.out (by decide)) (fun _ hk => hk.2) (.int .i64 t908)) (fun _ hk => hk.2) (.int .i64 t909)) (fun _ hk => hk.2) (.slice Ao33 t910.length co33)) (fun _ hk => trivial)⟩
    have n1_ : Aside0 (Kd.R k73 73 (((w29.setCell ⟨gb913, 0, none⟩ (.int .i64 t908)).setCell ⟨gb913, 1, none⟩ (.int .i64 t909)).setCell ⟨gb913, 2, none⟩ (.slice Ao33 t910.length co33)) w.heap.size (fun _ => True) (.slice Ao33 t910.length co33) t910) := ⟨by (with_reducible repeat (first | apply Kd.R_alloc | apply Kd.R_drewN | apply Kd.R_drew)); exact Kd.R_mono (Kd.R_far (p := ⟨gb913, 2, none⟩) (Kd.R_far (p := ⟨gb913, 1, none⟩) (Kd.R_far (p := ⟨gb913, 0, none⟩) (Kd.R_types HO912.out BK913.out (by decide)) (fun _ hk => hk.2) (.int .i64 t908)) (fun _ hk => hk.2) (.int .i64 t909)) (fun _ hk => hk.2) (.slice Ao33 t910.length co33)) (fun _ hk => trivial)⟩
    have n2_ : Aside0 ((((w29.setCell ⟨gb913, 0, none⟩ (.int .i64 t908)).setCell ⟨gb913, 1, none⟩ (.int .i64 t909)).setCell ⟨gb913, 2, none⟩ (.slice Ao33 t910.length co33)).heap[gb902]? = some (.cells #[.int .i64 a0_0, .int .i64 a0_1, .slice A0_2 l0_2.length c0_2] 30 (0, 0))) := ⟨by (with_reducible repeat (first | refine blk_drewN ?_ _ | refine blk_drew ?_ | refine blk_alloc ?_ _)); refine blk_far ?_ NB902_913.out _; (with_reducible repeat (first | refine blk_drewN ?_ _ | refine blk_drew ?_ | refine blk_alloc ?_ _)); refine blk_far ?_ NB902_913.out _; (with_reducible repeat (first | refine blk_drewN ?_ _ | refine blk_drew ?_ | refine blk_alloc ?_ _)); refine blk_far ?_ NB902_913.out _; (with_reducible repeat (first | refine blk_drewN ?_ _ | refine blk_drew ?_ | refine blk_alloc ?_ _)); exact BK902.out⟩
    have n3_ : Aside0 ((((w29.setCell ⟨gb913, 0, none⟩ (.int .i64 t908)).setCell ⟨gb913, 1, none⟩ (.int .i64 t909)).setCell ⟨gb913, 2, none⟩ (.slice Ao33 t910.length co33)).heap[gb903]? = some (.cells #[.int .i64 0, .int .i64 0, .slice none 0 0] 30 (0, 0))) := ⟨by (with_reducible repeat (first | refine blk_drewN ?_ _ | refine blk_drew ?_ | refine blk_alloc ?_ _)); refine blk_far ?_ NB903_913.out _; (with_reducible repeat (first | refine blk_drewN ?_ _ | refine blk_drew ?_ | refine blk_alloc ?_ _)); refine blk_far ?_ NB903_913.out _; (with_reducible repeat (first | refine blk_drewN ?_ _ | refine blk_drew ?_ | refine blk_alloc ?_ _)); refine blk_far ?_ NB903_913.out _; (with_reducible repeat (first | refine blk_drewN ?_ _ | refine blk_drew ?_ | refine blk_alloc ?_ _)); exact BK903.out⟩
    have n4_ : Aside0 ((((w29.setCell ⟨gb913, 0, none⟩ (.int .i64 t908)).setCell ⟨gb913, 1, none⟩ (.int .i64 t909)).setCell ⟨gb913, 2, none⟩ (.slice Ao33 t910.length co33)).heap[gb913]? = some (.cells #[.int .i64 t908, .int .i64 t909, .slice Ao33 t910.length co33] 30 (0, 0))) := ⟨by (with_reducible repeat (first | refine blk_drewN ?_ _ | refine blk_drew ?_ | refine blk_alloc ?_ _)); refine blk_put (cs := #[.int .i64 t908, .int .i64 t909, .slice none 0 0]) ?_ 2 _ rfl; (with_reducible repeat (first | refine blk_drewN ?_ _ | refine blk_drew ?_ | refine blk_alloc ?_ _)); refine blk_put (cs := #[.int .i64 t908, .int .i64 0, .slice none 0 0]) ?_ 1 _ rfl; (with_reducible repeat (first | refine blk_drewN ?_ _ | refine blk_drew ?_ | refine blk_alloc ?_ _)); refine blk_put (cs := #[.int .i64 0, .int .i64 0, .slice none 0 0]) ?_ 0 _ rfl; (with_reducible repeat (first | refine blk_drewN ?_ _ | refine blk_drew ?_ | refine blk_alloc ?_ _)); exact BK913.out⟩
    have n5_ : Aside0 (Below w.heap.size w (((w29.setCell ⟨gb913, 0, none⟩ (.int .i64 t908)).setCell ⟨gb913, 1, none⟩ (.int .i64 t909)).setCell ⟨gb913, 2, none⟩ (.slice Ao33 t910.length co33))) := ⟨BL HB.out⟩
    (try clear HO_6)
    (try clear HO912)
    (try clear BK902)
    (try clear BK903)
    (try clear BK913)
    (try clear HB)
    generalize (((w29.setCell ⟨gb913, 0, none⟩ (.int .i64 t908)).setCell ⟨gb913, 1, none⟩ (.int .i64 t909)).setCell ⟨gb913, 2, none⟩ (.slice Ao33 t910.length co33)) = w34 at n0_ n1_ n2_ n3_ n4_ n5_ ⊢
    have HO_6 := n0_
    have HO912 := n1_
    have BK902 := n2_
    have BK903 := n3_
    have BK913 := n4_
    have HB := n5_
    clear n0_ n1_ n2_ n3_ n4_ n5_
    refine E6 (Kd.S_drew HO_6.out) (Kd.R_drew HO912.out) (blk_drew BK902.out) (blk_drew BK903.out) (blk_drew BK913.out) (below_drew1 HB.out) ?_
    clear HO_6 HO912 BK902 BK903 BK913 HB
    intro HO_6 HO912 BK902 BK903 BK913 HB
    obtain ⟨Ao36, co36, eo36⟩ := Kd.S_slice HO_6.out
    (first | subst eo36 | (injection eo36 with f1_ f2_ f3_; have f4_ := f1_.symm; have f5_ := f3_.symm; clear f1_ f2_ f3_; subst f4_; subst f5_))
    refine start_ (n := 7) (S := fun w' => w'.cell? ⟨gb913, 0, none⟩ = some (.int .i64 t908) ∧ w'.cell? ⟨gb913, 1, none⟩ = some (.int .i64 t909) ∧ w'.cell? ⟨gb913, 2, none⟩ = some (.slice Ao33 t910.length co33)) (ds := []) #[false, false, false, false, false, false, false] (by kernel_rfl) rfl rfl ⟨(blk_cell BK913.out 0).trans rfl, (blk_cell BK913.out 1).trans rfl, (blk_cell BK913.out 2).trans rfl⟩ (fun hHeld => ?_)
    generalize w34.drew = w35 at HO_6 HO912 BK902 BK903 BK913 HB hHeld ⊢
    refine pure_ (i := 1) (N := some 32) (v := ?_) (a' := ?_) #[false, true, false, false, false, false, false] rfl rfl (by kernel_rfl) (fun _ _ _ h => h) (Or.inl ⟨by rfl, ?_⟩) ?_ ?_
    rotate_left
    · intro w'
      go_simp
      with_reducible rfl
    rotate_left
    · simp only [Act.put, List.setIfInBounds_toArray, List.set_cons_zero, List.set_cons_succ, i64_w, i32_w]
      rfl
    refine pure_ (i := 2) (N := some 33) (v := ?_) (a' := ?_) #[false, true, true, false, false, false, false] rfl rfl (by kernel_rfl) (fun _ _ _ h => h) (Or.inl ⟨by rfl, ?_⟩) ?_ ?_
    rotate_left
    · intro w'
      go_simp
      with_reducible rfl
    rotate_left
    · simp only [Act.put, List.setIfInBounds_toArray, List.set_cons_zero, List.set_cons_succ, i64_w, i32_w]
      rfl
    refine pure_ (i := 3) (N := some 34) (v := ?_) (a' := ?_) #[false, true, true, true, false, false, false] rfl rfl (by kernel_rfl) (fun _ _ _ h => h) (Or.inl ⟨by rfl, ?_⟩) ?_ ?_
    rotate_left
    · intro w'
      go_simp
      with_reducible rfl
    rotate_left
    · simp only [Act.put, List.setIfInBounds_toArray, List.set_cons_zero, List.set_cons_succ, i64_w, i32_w]
      rfl
    refine pure_ (i := 4) (N := some 35) (v := ?_) (a' := ?_) #[false, true, true, true, true, false, false] rfl rfl (by kernel_rfl) (fun _ _ _ h => h) (Or.inl ⟨by rfl, ?_⟩) ?_ ?_
    rotate_left
    · intro w'
      go_simp
      with_reducible rfl
    rotate_left
    · simp only [Act.put, List.setIfInBounds_toArray, List.set_cons_zero, List.set_cons_succ, i64_w, i32_w]
      rfl
    refine take_ (i := 0) (N := some 31) (v := ?_) (a' := ?_) #[true, true, true, true, true, false, false] rfl rfl (by kernel_rfl) (fun _ _ _ h => h) (Or.inl ⟨by rfl, ?_⟩) hHeld ?_ ?_
    rotate_left
    · rintro w' ⟨s0, s1, s2⟩
      go_simp
      with_reducible rfl
    rotate_left
    · simp only [Act.put, List.setIfInBounds_toArray, List.set_cons_zero, List.set_cons_succ, i64_w, i32_w]
      rfl
    refine one_ (i := 5) (N := some 36) #[true, true, true, true, true, true, false] rfl rfl (by kernel_rfl) (by decide) (fun K hK => ?_)
    refine goes_ Try.func71 (by kernel_rfl) rfl #[.int .i64 a1, .int .i64 (t905.length : Int)] (by rfl) rfl rfl (by (try simp only [List.map_toArray, List.map_cons, List.map_nil]); first | done | rfl | (simp only [List.length_drop, List.length_take]; rfl)) ?_
    with_reducible refine (impl_bitList.calls kj5 a1 (t905.length : Int) t914 _ A24.out).mono ?_
    rintro e w37 ⟨v915, rfl, ho0, hb⟩
    refine ⟨_, rfl, ?_⟩
    refine E7 (Kd.S_elder' (PS HO_6.out) (Kd.R_base ho0) hb) (Kd.R_below (PR HO912.out) hb) (Kd.R_lower ho0 (below_size (BL HB.out))) (bB BK902.out hb) (bB BK903.out hb) (bB BK913.out hb) (below_step (BL HB.out) hb) ?_
    clear HO_6 HO912 BK902 BK903 BK913 HB
    intro HO_6 HO912 HO916 BK902 BK903 BK913 HB
    (try clear hb)
    (try clear hb2)
    (try clear hk)
    (try clear hi)
    (try clear ho0)
    obtain ⟨Ao38, co38, eo38⟩ := Kd.R_slice HO916.out
    (first | subst eo38 | (injection eo38 with f1_ f2_ f3_; have f4_ := f1_.symm; have f5_ := f3_.symm; clear f1_ f2_ f3_; subst f4_; subst f5_))
    refine hK.out _ _ ⟨(blk_cell BK913.out 0).trans rfl, (blk_cell BK913.out 1).trans rfl, (blk_cell BK913.out 2).trans rfl⟩ (fun hHeld => ?_)
    clear hK K
    refine norm_ (a' := ?_) ?_ ?_
    rotate_left
    · show Act.put _ (some 36) _ = _
      simp only [Act.put, List.setIfInBounds_toArray, List.set_cons_zero, List.set_cons_succ, i64_w, i32_w]
      rfl
    refine one_ (i := 6) (N := some 37) #[true, true, true, true, true, true, true] rfl rfl (by kernel_rfl) (by decide) (fun K hK => ?_)
    refine goes_ Try.func69 (by kernel_rfl) rfl #[.agg #[.int .i64 t908, .int .i64 t909, .slice Ao33 t910.length co33], .slice Ao36 t905.length co36, .slice Ao38 t914.length co38] (by rfl) rfl rfl (by (try simp only [List.map_toArray, List.map_cons, List.map_nil]); first | done | rfl | (simp only [List.length_drop, List.length_take]; rfl)) ?_
    with_reducible refine (impl_setBits.calls kj5 t908 t909 (fun k_ => some k_ = (.slice Ao33 t910.length co33 : Value).ownBlock) (.slice Ao33 t910.length co33) t910 _ _ t905 _ _ t914 t917 w _ ?side1 ?side2 ?side3 ?side4 ?side5 ?side6 A25.out).mono ?_
    (case side1 => repeat (first | (with_reducible first | exact HB.out | apply below_alloc | apply pw_below_drewN | apply below_drew1 | refine below_set ?_ GE902.out | refine below_set ?_ GE903.out | refine below_set ?_ GE913.out) | exact HB.out))
    (case side2 => exact Kd.R_tight rfl HO912.out)
    (case side3 => exact Kd.C_kept_own ((Kd.S_R (Kd.S_apart' HO_6.out (Kd.R_typed HO912.out) (by decide)))) (fun k_ hk_ hs_ => (hk_.2) hs_))
    (case side4 => exact (Kd.S_reads' HO_6.out).2.1)
    (case side5 => exact Kd.C_kept_own ((Kd.R_apart' HO916.out (Kd.R_typed HO912.out) (by decide))) (fun k_ hk_ hs_ => (hk_.2) hs_))
    (case side6 => exact (Kd.R_reads' HO916.out).2.1)
    rintro e w39 ⟨rfl, hy0, hb, hkp⟩
    refine ⟨_, rfl, ?_⟩
    refine E7 (Kd.S_mono (ok' := fun k_ => some k_ ≠ (.slice Ao38 t914.length co38 : Value).ownBlock) (Kd.S_keptB ((Kd.S_apart' HO_6.out (Kd.R_typed HO912.out) (by decide))) hkp (fun k_ hk_ hs_ => (hk_.2) hs_)) (fun k_ hk_ => hk_.1.1.2)) (blk_kept (PB BK902.out) hkp (fun hs_ => (fun e_ => (Kd.R_ne HO912.out BK902.out (by decide)) e_) hs_)) (blk_kept (PB BK903.out) hkp (fun hs_ => (fun e_ => (Kd.R_ne HO912.out BK903.out (by decide)) e_) hs_)) (Kd.R_reok rfl hy0 (fun k_ e_ => HO912.out.1 k_ e_)) (blk_kept (PB BK913.out) hkp (fun hs_ => (fun e_ => (Kd.R_ne HO912.out BK913.out (by decide)) e_) hs_)) (Kd.R_mono (ok' := fun k_ => True) (Kd.R_keptB ((Kd.R_apart' HO916.out (Kd.R_typed HO912.out) (by decide))) hkp (fun k_ hk_ hs_ => (hk_.2) hs_)) (fun k_ hk_ => trivial)) (hb) ?_
    clear HO_6 BK902 BK903 HO912 BK913 HO916 HB
    intro HO_6 BK902 BK903 HO912 BK913 HO916 HB
    (try clear hb)
    (try clear hkp)
    (try clear hy0)
    refine hK.out _ _ ⟨(blk_cell BK913.out 0).trans rfl, (blk_cell BK913.out 1).trans rfl, (blk_cell BK913.out 2).trans rfl⟩ (fun hHeld => ?_)
    clear hK K
    refine norm_ (a' := ?_) ?_ ?_
    rotate_left
    · show Act.put _ (some 37) _ = _
      simp only [Act.put, List.setIfInBounds_toArray, List.set_cons_zero, List.set_cons_succ, i64_w, i32_w]
      rfl
    refine done_ (by kernel_rfl) ?_
    obtain ⟨hcz40_0, hcz40_1, hcz40_2, hfz40_0, hfz40_1, hfz40_2⟩ := cz3 BK913.out
    obtain ⟨hcz41_0, hcz41_1, hcz41_2, hfz41_0, hfz41_1, hfz41_2⟩ := cz3 BK903.out
    try go_wp2
    refine bodyPost_ret (results_ct rfl _ _ gb903 30 #[.int .i64 t908, .int .i64 t909, .slice Ao33 t910.length co33] (0, 0) _ rfl (by (with_reducible repeat (first | refine blk_drewN ?_ _ | refine blk_drew ?_ | refine blk_alloc ?_ _)); refine blk_put (cs := #[.int .i64 t908, .int .i64 t909, .slice none 0 0]) ?_ 2 _ rfl; (with_reducible repeat (first | refine blk_drewN ?_ _ | refine blk_drew ?_ | refine blk_alloc ?_ _)); refine blk_put (cs := #[.int .i64 t908, .int .i64 0, .slice none 0 0]) ?_ 1 _ rfl; (with_reducible repeat (first | refine blk_drewN ?_ _ | refine blk_drew ?_ | refine blk_alloc ?_ _)); refine blk_put (cs := #[.int .i64 0, .int .i64 0, .slice none 0 0]) ?_ 0 _ rfl; (with_reducible repeat (first | refine blk_drewN ?_ _ | refine blk_drew ?_ | refine blk_alloc ?_ _)); exact BK903.out) Try.underlying30 rfl (by kernel_rfl)) rfl ?_
    exact ⟨_, RF, by (with_reducible repeat (first | apply Kd.R_alloc | apply Kd.R_drewN | apply Kd.R_drew)); exact Kd.R_mono (Kd.R_far (p := ⟨gb903, 2, none⟩) (Kd.R_far (p := ⟨gb903, 1, none⟩) (Kd.R_far (p := ⟨gb903, 0, none⟩) (Kd.R_types HO912.out BK903.out (by decide)) (fun _ hk => hk.2) (.int .i64 t908)) (fun _ hk => hk.2) (.int .i64 t909)) (fun _ hk => hk.2) (.slice Ao33 t910.length co33)) (fun _ hk => trivial), BL HB.out⟩
  simp only [Option.some.injEq, Prod.mk.injEq] at H
  obtain ⟨rfl, rfl, rfl, rfl⟩ := H
  go_enter Try.func39, Try.ntmps39
  go_wp2_with (first | ((with_reducible refine gate_dst (N := 2) rfl ?_); (try (refine gate_guard (by rfl) ?_; dsimp only)); refine boxE (N := 2) (cs := #[.int .i64 a0_0, .int .i64 a0_1, .slice A0_2 l0_2.length c0_2]) (t := 30) ?_; intro gb902 hg w42 hbox hb; refine E4b HB.out hg hbox hb ?_; clear HB; intro HB BK902 GW902 GE902; clear hb hbox hg) | ((with_reducible refine gate_dst (N := 4) rfl ?_); (try (refine gate_guard (by rfl) ?_; dsimp only)); refine boxE (N := 4) (cs := #[.int .i64 0, .int .i64 0, .slice none 0 0]) (t := 30) ?_; intro gb903 hg w43 hbox hb; refine E7 (bB BK902.out hb) (below_step (BL HB.out) hb) (hbox) (gwM hg (below_size (BL HB.out)) : w.heap.size ≤ gb903) (gwM hg (below_size (BL HB.out)) : w.heap.size ≤ gb903) ((nB BK902.out hg : gb902 ≠ gb903)) ((nC BK902.out hg : gb903 ≠ gb902)) ?_; clear BK902 HB; intro BK902 HB BK903 GW903 GE903 NB902_903 NB903_902; clear hb hbox hg; have hnb44 := NB902_903.out; have hnc44 := NB903_902.out; obtain ⟨hcz45_0, hcz45_1, hcz45_2, hfz45_0, hfz45_1, hfz45_2⟩ := cz3 BK902.out) | ((with_reducible refine gate_callee (f := 50) rfl ?_); refine goesM (N := (some 9)) #[.agg #[.int .i64 a0_0, .int .i64 a0_1, .slice A0_2 l0_2.length c0_2]] Try.func50 ?_; (with_reducible refine (impl_IsBoard.calls k a0_0 a0_1 _ _ l0_2 false _ ?side1 ?side2 A3.out).mono ?_); (case side1 => exact CB (Kd.C_below HR0_2.out HB.out)); (case side2 => exact HC0_2.out); rintro e w46 ⟨rfl, hb⟩; refine ⟨_, rfl, ?_⟩; refine E3 (bB BK902.out hb) (bB BK903.out hb) (below_step (BL HB.out) hb) ?_; clear BK902 BK903 HB; intro BK902 BK903 HB; (try clear hb); (try clear hb2); (try clear hk); (try clear hi); obtain ⟨hcz47_0, hcz47_1, hcz47_2, hfz47_0, hfz47_1, hfz47_2⟩ := cz3 BK903.out))
  refine bodyPost_ret (results_ct rfl _ _ gb903 30 #[.int .i64 0, .int .i64 0, .slice none 0 0] (0, 0) _ rfl (by (with_reducible repeat (first | refine blk_drewN ?_ _ | refine blk_drew ?_ | refine blk_alloc ?_ _)); refine blk_put (cs := #[.int .i64 0, .int .i64 0, .slice none 0 0]) ?_ 2 _ rfl; (with_reducible repeat (first | refine blk_drewN ?_ _ | refine blk_drew ?_ | refine blk_alloc ?_ _)); refine blk_put (cs := #[.int .i64 0, .int .i64 0, .slice none 0 0]) ?_ 1 _ rfl; (with_reducible repeat (first | refine blk_drewN ?_ _ | refine blk_drew ?_ | refine blk_alloc ?_ _)); refine blk_put (cs := #[.int .i64 0, .int .i64 0, .slice none 0 0]) ?_ 0 _ rfl; (with_reducible repeat (first | refine blk_drewN ?_ _ | refine blk_drew ?_ | refine blk_alloc ?_ _)); exact BK903.out) Try.underlying30 rfl (by kernel_rfl)) rfl ?_
  exact ⟨_, RF, by first | exact Kd.R_nil _ _ _ _ _ | exact Kd.N_nil _ _ _ _ _ | exact Kd.V_nil _ _ _ _ _ | exact Kd.Q_nil _ _ _ _ _ | exact Kd.S_nil _ _ _ _ _, BL HB.out⟩

/-! ### laws_FnExactBoardInState: function 10 -/
mutual
def laws_FnExactBoardInState.j0 : Nat → Int → Bool → Bool → Bool → Int → Int → List (S84) → Int → Int → List (S73) → Int → Int → List (S73) → Int → Int → List (S73) → Option (Bool)
  | 0, _, _, _, _, _, _, _, _, _, _, _, _, _, _, _, _ => none
  | k + 1, x1, x7, x10, x44, x919000, x919001, x919002, x932000, x932001, x932002, x938000, x938001, x938002, x945000, x945001, x945002 => if x44 = true then (some false) else ((laws_toBoard.f k x919000 x919001 x919002).bind fun bt946 => ((laws_eqBoard.f k x938000 x938001 x938002 bt946.1 bt946.2.1 bt946.2.2).bind fun t951 => (if t951 = true then ((laws_markBoard.f k x938000 x938001 x938002 1).bind fun bt952 => (if bt952.1 < 0 then (laws_FnExactBoardInState.j1 k x1 x7 true x919000 x919001 x919002 x932000 x932001 x932002 x945000 x945001 x945002) else ((laws_eqBoard.f k x945000 x945001 x945002 x932000 x932001 x932002).bind fun t954 => (if t954 = true then (laws_FnExactBoardInState.j1 k x1 x7 (x10 != x7) x919000 x919001 x919002 x932000 x932001 x932002 x945000 x945001 x945002) else (laws_FnExactBoardInState.j1 k x1 x7 true x919000 x919001 x919002 x932000 x932001 x932002 x945000 x945001 x945002))))) else (some false))))
def laws_FnExactBoardInState.j1 : Nat → Int → Bool → Bool → Int → Int → List (S84) → Int → Int → List (S73) → Int → Int → List (S73) → Option (Bool)
  | 0, _, _, _, _, _, _, _, _, _, _, _, _ => none
  | k + 1, x1, x7, x65, x919000, x919001, x919002, x932000, x932001, x932002, x945000, x945001, x945002 => if x65 = true then (some false) else ((laws_markBoard.f k x945000 x945001 x945002 1).bind fun bt955 => ((laws_heldBoard.f k x945000 x945001 bt955.2 1).bind fun t957 => (if t957 < 0 then (some false) else (if t957 = bt955.1 then ((laws_toBoard.f k x919000 x919001 x919002).bind fun bt958 => ((impl_BoardInState.f k bt958.1 bt958.2.1 bt958.2.2 x1).bind fun bt963 => ((laws_eqBoard.f k bt963.1 bt963.2.1 bt963.2.2.1 x932000 x932001 x932002).bind fun t970 => (if t970 = true then (laws_FnExactBoardInState.j2 k bt955.1 (bt963.2.2.2 != x7) x945000 x945001 bt955.2) else (laws_FnExactBoardInState.j2 k bt955.1 true x945000 x945001 bt955.2))))) else (some false)))))
def laws_FnExactBoardInState.j2 : Nat → Int → Bool → Int → Int → List (S73) → Option (Bool)
  | 0, _, _, _, _, _ => none
  | k + 1, x12, x92, x945000, x945001, x945002 => if x92 = true then (some false) else ((laws_heldBoard.f k x945000 x945001 x945002 1).bind fun t971 => (if t971 < 0 then (some false) else (if t971 = x12 then (some true) else (some false))))
end
def laws_FnExactBoardInState.f (k : Nat) (a0_0 : Int) (a0_1 : Int) (l0_2 : List (S84)) (a1 : Int) : Option (Bool) := (laws_szBoard.f a0_0 a0_1 l0_2 1048576).bind fun t919 => (if t919 < 0 then (some true) else ((laws_toBoard.f k a0_0 a0_1 l0_2).bind fun bt920 => ((spec_BoardInState.f k bt920.1 bt920.2.1 bt920.2.2 a1).bind fun bt925 => ((laws_toBoard.f k a0_0 a0_1 l0_2).bind fun bt932 => ((impl_BoardInState.f k bt932.1 bt932.2.1 bt932.2.2 a1).bind fun bt938 => ((laws_eqBoard.f k bt938.1 bt938.2.1 bt938.2.2.1 bt925.1 bt925.2.1 bt925.2.2.1).bind fun t945 => (if t945 = true then (laws_FnExactBoardInState.j0 k a1 bt925.2.2.2 bt938.2.2.2 (bt938.2.2.2 != bt925.2.2.2) a0_0 a0_1 l0_2 bt925.1 bt925.2.1 bt925.2.2.1 bt932.1 bt932.2.1 bt932.2.2 bt938.1 bt938.2.1 bt938.2.2.1) else (laws_FnExactBoardInState.j0 k a1 bt925.2.2.2 bt938.2.2.2 true a0_0 a0_1 l0_2 bt925.1 bt925.2.1 bt925.2.2.1 bt932.1 bt932.2.1 bt932.2.2 bt938.1 bt938.2.1 bt938.2.2.1))))))))
theorem laws_FnExactBoardInState.mono_l : ∀ k, (∀ y0 y1 y2 y3 y4 y5 y6 y7 y8 y9 y10 y11 y12 y13 y14 y15, LeO (laws_FnExactBoardInState.j0 k y0 y1 y2 y3 y4 y5 y6 y7 y8 y9 y10 y11 y12 y13 y14 y15) (laws_FnExactBoardInState.j0 (k + 1) y0 y1 y2 y3 y4 y5 y6 y7 y8 y9 y10 y11 y12 y13 y14 y15)) ∧ (∀ y0 y1 y2 y3 y4 y5 y6 y7 y8 y9 y10 y11, LeO (laws_FnExactBoardInState.j1 k y0 y1 y2 y3 y4 y5 y6 y7 y8 y9 y10 y11) (laws_FnExactBoardInState.j1 (k + 1) y0 y1 y2 y3 y4 y5 y6 y7 y8 y9 y10 y11)) ∧ (∀ y0 y1 y2 y3 y4, LeO (laws_FnExactBoardInState.j2 k y0 y1 y2 y3 y4) (laws_FnExactBoardInState.j2 (k + 1) y0 y1 y2 y3 y4))
  | 0 => by refine ⟨?_, ?_, ?_⟩ <;> (intros; intro r h; first | (simp [laws_FnExactBoardInState.j0] at h; done) | (simp [laws_FnExactBoardInState.j1] at h; done) | (simp [laws_FnExactBoardInState.j2] at h; done))
  | k + 1 => by
    obtain ⟨ih0, ih1, ih2⟩ := laws_FnExactBoardInState.mono_l k
    refine ⟨?_, ?_, ?_⟩ <;> (
      intros
      first | unfold laws_FnExactBoardInState.j0 | unfold laws_FnExactBoardInState.j1 | unfold laws_FnExactBoardInState.j2
      repeat' first | (with_reducible first | apply ih0 | apply ih1 | apply ih2 | apply impl_BoardInState.mono | apply laws_eqBoard.mono | apply laws_heldBoard.mono | apply laws_markBoard.mono | apply laws_toBoard.mono | apply spec_BoardInState.mono | exact LeO.refl _ | exact LeO.none _ | refine LeO.ite ?_ ?_ | refine LeO.bind ?_ (fun _ => ?_)) | apply ih0 | apply ih1 | apply ih2 | apply impl_BoardInState.mono | apply laws_eqBoard.mono | apply laws_heldBoard.mono | apply laws_markBoard.mono | apply laws_toBoard.mono | apply spec_BoardInState.mono | exact LeO.none _ | refine LeO.ite ?_ ?_ | refine LeO.bind ?_ (fun _ => ?_))
theorem laws_FnExactBoardInState.mono : ∀ a0 a1 a2 a3 k, LeO (laws_FnExactBoardInState.f k a0 a1 a2 a3) (laws_FnExactBoardInState.f (k + 1) a0 a1 a2 a3) := by
  intro a0 a1 a2 a3 k
  obtain ⟨ih0, ih1, ih2⟩ := laws_FnExactBoardInState.mono_l k
  unfold laws_FnExactBoardInState.f
  repeat' first | (with_reducible first | apply ih0 | apply ih1 | apply ih2 | apply impl_BoardInState.mono | apply laws_eqBoard.mono | apply laws_heldBoard.mono | apply laws_markBoard.mono | apply laws_toBoard.mono | apply spec_BoardInState.mono | exact LeO.refl _ | exact LeO.none _ | refine LeO.ite ?_ ?_ | refine LeO.bind ?_ (fun _ => ?_)) | apply ih0 | apply ih1 | apply ih2 | apply impl_BoardInState.mono | apply laws_eqBoard.mono | apply laws_heldBoard.mono | apply laws_markBoard.mono | apply laws_toBoard.mono | apply spec_BoardInState.mono | exact LeO.none _ | refine LeO.ite ?_ ?_ | refine LeO.bind ?_ (fun _ => ?_)
set_option maxHeartbeats 8000000 in
set_option maxRecDepth 100000 in
theorem laws_FnExactBoardInState.calls (k : Nat) (a0_0 : Int) (a0_1 : Int) (A0_2 : Option Addr) (c0_2 : Nat) (l0_2 : List (S84)) (a1 : Int) (w : World) (hr0_2 : Kd.C k84 w A0_2 l0_2.length l0_2) (hc0_2 : l0_2.length ≤ c0_2) (h : laws_FnExactBoardInState.f k a0_0 a0_1 l0_2 a1 = some true) :
    Calls Try.prog 10 #[.agg #[.int .i64 a0_0, .int .i64 a0_1, .slice A0_2 l0_2.length c0_2], .int .i64 a1] w fun e w' => e = .returned (.bool true) ∧ Below w.heap.size w w' := by
  have hu24 := Try.underlying24
  have hu30 := Try.underlying30
  have HR0_2 := Aside0.mk hr0_2
  have HC0_2 := Aside0.mk hc0_2
  clear hr0_2 hc0_2
  have HB := Aside0.mk (Below.refl w.heap.size w)
  have H := h
  clear h
  unfold laws_FnExactBoardInState.f at H
  replace H := bindA H; obtain ⟨t919, A3, H⟩ := H
  replace H := ifB H; rcases H with ⟨c4b0, H⟩ | ⟨c4b0, H⟩
  · first | (obtain rfl := Option.some.inj H) | clear H
    go_enter Try.func10, Try.ntmps10
    go_wp2_with (first | ((with_reducible refine gate_dst (N := 2) rfl ?_); refine boxE (N := 2) (cs := #[.int .i64 a0_0, .int .i64 a0_1, .slice A0_2 l0_2.length c0_2]) (t := 24) ?_; intro gb918 hg w5 hbox hb; refine E4b HB.out hg hbox hb ?_; clear HB; intro HB BK918 GW918 GE918; clear hb hbox hg; obtain ⟨hcz6_0, hcz6_1, hcz6_2, hfz6_0, hfz6_1, hfz6_2⟩ := cz3 BK918.out) | ((with_reducible refine gate_callee (f := 13) rfl ?_); refine goesM (N := (some 18)) #[.agg #[.int .i64 a0_0, .int .i64 a0_1, .slice A0_2 l0_2.length c0_2], .int .i64 1048576] Try.func13 ?_; (with_reducible refine (laws_szBoard.calls a0_0 a0_1 _ _ l0_2 1048576 t919 _ ?side1 ?side2 A3.out).mono ?_); (case side1 => exact CB (Kd.C_below HR0_2.out HB.out)); (case side2 => exact HC0_2.out); rintro e w7 ⟨rfl, hb⟩; refine ⟨_, rfl, ?_⟩; refine E2 (bB BK918.out hb) (below_step (BL HB.out) hb) ?_; clear BK918 HB; intro BK918 HB; (try clear hb); (try clear hb2); (try clear hk); (try clear hi)))
    go_ret
    exact ⟨RF, BL HB.out⟩
  replace H := bindA H; obtain ⟨⟨t920, t921, t922⟩, A8, H⟩ := H
  dsimp only at H
  replace H := bindA H; obtain ⟨⟨t925, t926, t927, t930⟩, A9, H⟩ := H
  dsimp only at H
  replace H := bindA H; obtain ⟨⟨t932, t933, t934⟩, A10, H⟩ := H
  dsimp only at H
  replace H := bindA H; obtain ⟨⟨t938, t939, t940, t943⟩, A11, H⟩ := H
  dsimp only at H
  have HC12 := Aside0.mk H
  clear H
  go_enter Try.func10, Try.ntmps10
  go_upto_region 8 with (first | ((with_reducible refine gate_dst (N := 2) rfl ?_); refine boxE (N := 2) (cs := #[.int .i64 a0_0, .int .i64 a0_1, .slice A0_2 l0_2.length c0_2]) (t := 24) ?_; intro gb918 hg w13 hbox hb; refine E4b HB.out hg hbox hb ?_; clear HB; intro HB BK918 GW918 GE918; clear hb hbox hg; obtain ⟨hcz14_0, hcz14_1, hcz14_2, hfz14_0, hfz14_1, hfz14_2⟩ := cz3 BK918.out) | ((with_reducible refine gate_callee (f := 13) rfl ?_); refine goesM (N := (some 18)) #[.agg #[.int .i64 a0_0, .int .i64 a0_1, .slice A0_2 l0_2.length c0_2], .int .i64 1048576] Try.func13 ?_; (with_reducible refine (laws_szBoard.calls a0_0 a0_1 _ _ l0_2 1048576 t919 _ ?side1 ?side2 A3.out).mono ?_); (case side1 => exact CB (Kd.C_below HR0_2.out HB.out)); (case side2 => exact HC0_2.out); rintro e w15 ⟨rfl, hb⟩; refine ⟨_, rfl, ?_⟩; refine E2 (bB BK918.out hb) (below_step (BL HB.out) hb) ?_; clear BK918 HB; intro BK918 HB; (try clear hb); (try clear hb2); (try clear hk); (try clear hi); obtain ⟨hcz16_0, hcz16_1, hcz16_2, hfz16_0, hfz16_1, hfz16_2⟩ := cz3 BK918.out) | ((with_reducible refine gate_callee (f := 15) rfl ?_); refine goesM (N := (some 23)) #[.agg #[.int .i64 a0_0, .int .i64 a0_1, .slice A0_2 l0_2.length c0_2]] Try.func15 ?_; (with_reducible refine (laws_toBoard.calls k a0_0 a0_1 _ _ l0_2 t920 t921 t922 _ ?side1 ?side2 A8.out).mono ?_); (case side1 => exact CB (Kd.C_below HR0_2.out HB.out)); (case side2 => exact HC0_2.out); rintro e w17 ⟨v923, rfl, ho0, hb⟩; refine ⟨_, rfl, ?_⟩; refine E3 (Kd.R_lower ho0 (below_size (BL HB.out))) (bB BK918.out hb) (below_step (BL HB.out) hb) ?_; clear BK918 HB; intro HO924 BK918 HB; (try clear hb); (try clear hb2); (try clear hk); (try clear hi); (try clear ho0); obtain ⟨Ao18, co18, eo18⟩ := Kd.R_slice HO924.out; subst eo18) | ((with_reducible refine gate_callee (f := 38) rfl ?_); refine goesM (N := (some 25)) #[.agg #[.int .i64 t920, .int .i64 t921, .slice Ao18 t922.length co18], .int .i64 a1] Try.func38 ?_; (with_reducible refine (spec_BoardInState.calls k t920 t921 _ _ t922 a1 t925 t926 t927 t930 _ ?side1 ?side2 A9.out).mono ?_); (case side1 => repeat (first | exact (Kd.R_reads' HO924.out).2.2 | (with_reducible refine Kd.C_alloc ?_ _) | (with_reducible refine Kd.C_drewN ?_ _) | (with_reducible refine Kd.C_drew ?_))); (case side2 => exact (Kd.R_reads' HO924.out).2.1); rintro e w19 ⟨v928, rfl, ho0, hb⟩; refine ⟨_, rfl, ?_⟩; refine E4 (Kd.R_elder' (PR HO924.out) (Kd.R_base ho0) hb) (Kd.R_lower (Kd.R_new' ho0 (Kd.R_lt (PR HO924.out))) (below_size (BL HB.out))) (bB BK918.out hb) (below_step (BL HB.out) hb) ?_; clear HO924 BK918 HB; intro HO924 HO929 BK918 HB; (try clear hb); (try clear hb2); (try clear hk); (try clear hi); (try clear ho0)) | ((with_reducible refine gate_dst (N := 6) rfl ?_); refine boxE (N := 6) (cs := #[.int .i64 0, .int .i64 0, .slice none 0 0]) (t := 30) ?_; intro gb931 hg w20 hbox hb; refine E9 (Kd.R_below (PR HO924.out) hb) (Kd.R_below (PR HO929.out) hb) (bB BK918.out hb) (below_step (BL HB.out) hb) (hbox) (gwM hg (below_size (BL HB.out)) : w.heap.size ≤ gb931) (gwM hg (below_size (BL HB.out)) : w.heap.size ≤ gb931) ((nB BK918.out hg : gb918 ≠ gb931)) ((nC BK918.out hg : gb931 ≠ gb918)) ?_; clear HO924 HO929 BK918 HB; intro HO924 HO929 BK918 HB BK931 GW931 GE931 NB918_931 NB931_918; clear hb hbox hg; have hnb21 := NB931_918.out; have hnc21 := NB918_931.out; obtain ⟨hcz22_0, hcz22_1, hcz22_2, hfz22_0, hfz22_1, hfz22_2⟩ := cz3 BK931.out; obtain ⟨Ao23, co23, eo23⟩ := Kd.R_slice HO929.out; subst eo23; obtain ⟨hcz24_0, hcz24_1, hcz24_2, hfz24_0, hfz24_1, hfz24_2⟩ := cz3 BK918.out) | ((with_reducible refine gate_callee (f := 15) rfl ?_); refine goesM (N := (some 29)) #[.agg #[.int .i64 a0_0, .int .i64 a0_1, .slice A0_2 l0_2.length c0_2]] Try.func15 ?_; (with_reducible refine (laws_toBoard.calls k a0_0 a0_1 _ _ l0_2 t932 t933 t934 _ ?side1 ?side2 A10.out).mono ?_); (case side1 => exact Kd.C_below HR0_2.out (BL HB.out)); (case side2 => exact HC0_2.out); rintro e w25 ⟨v935, rfl, ho0, hb⟩; refine ⟨_, rfl, ?_⟩; refine E6 (Kd.R_elder' (by (with_reducible repeat (first | apply Kd.R_alloc | apply Kd.R_drewN | apply Kd.R_drew)); exact (Kd.R_mono (Kd.R_far (p := ⟨gb931, 2, none⟩) (Kd.R_far (p := ⟨gb931, 1, none⟩) (Kd.R_far (p := ⟨gb931, 0, none⟩) (Kd.R_types HO924.out BK931.out (by decide)) (fun _ hk => hk.2) (.int .i64 t925)) (fun _ hk => hk.2) (.int .i64 t926)) (fun _ hk => hk.2) (.slice Ao23 t927.length co23)) (fun _ h_ => h_.1))) (Kd.R_base ho0) hb) (Kd.R_elder' (by (with_reducible repeat (first | apply Kd.R_alloc | apply Kd.R_drewN | apply Kd.R_drew)); exact (Kd.R_mono (Kd.R_far (p := ⟨gb931, 2, none⟩) (Kd.R_far (p := ⟨gb931, 1, none⟩) (Kd.R_far (p := ⟨gb931, 0, none⟩) (Kd.R_types HO929.out BK931.out (by decide)) (fun _ hk => hk.2) (.int .i64 t925)) (fun _ hk => hk.2) (.int .i64 t926)) (fun _ hk => hk.2) (.slice Ao23 t927.length co23)) (fun _ h_ => h_.1))) (Kd.R_base ho0) hb) (Kd.R_lower (Kd.R_new' (Kd.R_new' ho0 (Kd.R_lt (by (with_reducible repeat (first | apply Kd.R_alloc | apply Kd.R_drewN | apply Kd.R_drew)); exact (Kd.R_mono (Kd.R_far (p := ⟨gb931, 2, none⟩) (Kd.R_far (p := ⟨gb931, 1, none⟩) (Kd.R_far (p := ⟨gb931, 0, none⟩) (Kd.R_types HO924.out BK931.out (by decide)) (fun _ hk => hk.2) (.int .i64 t925)) (fun _ hk => hk.2) (.int .i64 t926)) (fun _ hk => hk.2) (.slice Ao23 t927.length co23)) (fun _ h_ => h_.1))))) (Kd.R_lt (by (with_reducible repeat (first | apply Kd.R_alloc | apply Kd.R_drewN | apply Kd.R_drew)); exact (Kd.R_mono (Kd.R_far (p := ⟨gb931, 2, none⟩) (Kd.R_far (p := ⟨gb931, 1, none⟩) (Kd.R_far (p := ⟨gb931, 0, none⟩) (Kd.R_types HO929.out BK931.out (by decide)) (fun _ hk => hk.2) (.int .i64 t925)) (fun _ hk => hk.2) (.int .i64 t926)) (fun _ hk => hk.2) (.slice Ao23 t927.length co23)) (fun _ h_ => h_.1))))) (below_size (BL HB.out))) (blk_below (g := gb918) (o := .cells #[.int .i64 a0_0, .int .i64 a0_1, .slice A0_2 l0_2.length c0_2] 24 (0, 0)) (by (with_reducible repeat (first | refine blk_drewN ?_ _ | refine blk_drew ?_ | refine blk_alloc ?_ _)); refine blk_far ?_ NB918_931.out _; (with_reducible repeat (first | refine blk_drewN ?_ _ | refine blk_drew ?_ | refine blk_alloc ?_ _)); refine blk_far ?_ NB918_931.out _; (with_reducible repeat (first | refine blk_drewN ?_ _ | refine blk_drew ?_ | refine blk_alloc ?_ _)); refine blk_far ?_ NB918_931.out _; (with_reducible repeat (first | refine blk_drewN ?_ _ | refine blk_drew ?_ | refine blk_alloc ?_ _)); exact BK918.out) hb) (blk_below (g := gb931) (o := .cells #[.int .i64 t925, .int .i64 t926, .slice Ao23 t927.length co23] 30 (0, 0)) (by (with_reducible repeat (first | refine blk_drewN ?_ _ | refine blk_drew ?_ | refine blk_alloc ?_ _)); refine blk_put (cs := #[.int .i64 t925, .int .i64 t926, .slice none 0 0]) ?_ 2 _ rfl; (with_reducible repeat (first | refine blk_drewN ?_ _ | refine blk_drew ?_ | refine blk_alloc ?_ _)); refine blk_put (cs := #[.int .i64 t925, .int .i64 0, .slice none 0 0]) ?_ 1 _ rfl; (with_reducible repeat (first | refine blk_drewN ?_ _ | refine blk_drew ?_ | refine blk_alloc ?_ _)); refine blk_put (cs := #[.int .i64 0, .int .i64 0, .slice none 0 0]) ?_ 0 _ rfl; (with_reducible repeat (first | refine blk_drewN ?_ _ | refine blk_drew ?_ | refine blk_alloc ?_ _)); exact BK931.out) hb) (below_step (BL HB.out) hb) ?_; clear HO924 HO929 BK918 BK931 HB; intro HO924 HO929 HO936 BK918 BK931 HB; (try clear hb); (try clear hb2); (try clear hk); (try clear hi); (try clear ho0)) | ((with_reducible refine gate_dst (N := 8) rfl ?_); refine boxE (N := 8) (cs := #[.int .i64 0, .int .i64 0, .slice none 0 0]) (t := 30) ?_; intro gb937 hg w26 hbox hb; refine E13 (Kd.R_below (PR HO924.out) hb) (Kd.R_below (PR HO929.out) hb) (Kd.R_below (PR HO936.out) hb) (bB BK918.out hb) (bB BK931.out hb) (below_step (BL HB.out) hb) (hbox) (gwM hg (below_size (BL HB.out)) : w.heap.size ≤ gb937) (gwM hg (below_size (BL HB.out)) : w.heap.size ≤ gb937) ((nB BK918.out hg : gb918 ≠ gb937)) ((nC BK918.out hg : gb937 ≠ gb918)) ((nB BK931.out hg : gb931 ≠ gb937)) ((nC BK931.out hg : gb937 ≠ gb931)) ?_; clear HO924 HO929 HO936 BK918 BK931 HB; intro HO924 HO929 HO936 BK918 BK931 HB BK937 GW937 GE937 NB918_937 NB937_918 NB931_937 NB937_931; clear hb hbox hg; have hnb27 := NB937_918.out; have hnc27 := NB918_937.out; have hnb28 := NB937_931.out; have hnc28 := NB931_937.out; obtain ⟨hcz29_0, hcz29_1, hcz29_2, hfz29_0, hfz29_1, hfz29_2⟩ := cz3 BK937.out; obtain ⟨Ao30, co30, eo30⟩ := Kd.R_slice HO936.out; subst eo30) | ((with_reducible refine gate_callee (f := 39) rfl ?_); refine goesM (N := (some 33)) #[.agg #[.int .i64 t932, .int .i64 t933, .slice Ao30 t934.length co30], .int .i64 a1] Try.func39 ?_; (with_reducible refine (impl_BoardInState.calls k t932 t933 _ _ t934 a1 t938 t939 t940 t943 _ ?side1 ?side2 A11.out).mono ?_); (case side1 => refine (Kd.R_reads' (e := 73) (base := w.heap.size) (ok := fun k_ => ((True ∧ some k_ ≠ (.slice Ao18 t922.length co18 : Value).ownBlock) ∧ some k_ ≠ (.slice Ao23 t927.length co23 : Value).ownBlock)) (n := t934.length) (c := co30) ?_).2.2; exact (by (with_reducible repeat (first | apply Kd.R_alloc | apply Kd.R_drewN | apply Kd.R_drew)); exact (Kd.R_mono (Kd.R_far (p := ⟨gb937, 2, none⟩) (Kd.R_far (p := ⟨gb937, 1, none⟩) (Kd.R_far (p := ⟨gb937, 0, none⟩) (Kd.R_types HO936.out BK937.out (by decide)) (fun _ hk => hk.2) (.int .i64 t932)) (fun _ hk => hk.2) (.int .i64 t933)) (fun _ hk => hk.2) (.slice Ao30 t934.length co30)) (fun _ h_ => h_.1)))); (case side2 => exact (Kd.R_reads' HO936.out).2.1); rintro e w31 ⟨v941, rfl, ho0, hb⟩; refine ⟨_, rfl, ?_⟩; refine E8 (Kd.R_elder' (by (with_reducible repeat (first | apply Kd.R_alloc | apply Kd.R_drewN | apply Kd.R_drew)); exact (Kd.R_mono (Kd.R_far (p := ⟨gb937, 2, none⟩) (Kd.R_far (p := ⟨gb937, 1, none⟩) (Kd.R_far (p := ⟨gb937, 0, none⟩) (Kd.R_types HO924.out BK937.out (by decide)) (fun _ hk => hk.2) (.int .i64 t932)) (fun _ hk => hk.2) (.int .i64 t933)) (fun _ hk => hk.2) (.slice Ao30 t934.length co30)) (fun _ h_ => h_.1))) (Kd.R_base ho0) hb) (Kd.R_elder' (by (with_reducible repeat (first | apply Kd.R_alloc | apply Kd.R_drewN | apply Kd.R_drew)); exact (Kd.R_mono (Kd.R_far (p := ⟨gb937, 2, none⟩) (Kd.R_far (p := ⟨gb937, 1, none⟩) (Kd.R_far (p := ⟨gb937, 0, none⟩) (Kd.R_types HO929.out BK937.out (by decide)) (fun _ hk => hk.2) (.int .i64 t932)) (fun _ hk => hk.2) (.int .i64 t933)) (fun _ hk => hk.2) (.slice Ao30 t934.length co30)) (fun _ h_ => h_.1))) (Kd.R_base ho0) hb) (Kd.R_elder' (by (with_reducible repeat (first | apply Kd.R_alloc | apply Kd.R_drewN | apply Kd.R_drew)); exact (Kd.R_mono (Kd.R_far (p := ⟨gb937, 2, none⟩) (Kd.R_far (p := ⟨gb937, 1, none⟩) (Kd.R_far (p := ⟨gb937, 0, none⟩) (Kd.R_types HO936.out BK937.out (by decide)) (fun _ hk => hk.2) (.int .i64 t932)) (fun _ hk => hk.2) (.int .i64 t933)) (fun _ hk => hk.2) (.slice Ao30 t934.length co30)) (fun _ h_ => h_.1))) (Kd.R_base ho0) hb) (Kd.R_lower (Kd.R_new' (Kd.R_new' (Kd.R_new' ho0 (Kd.R_lt (by (with_reducible repeat (first | apply Kd.R_alloc | apply Kd.R_drewN | apply Kd.R_drew)); exact (Kd.R_mono (Kd.R_far (p := ⟨gb937, 2, none⟩) (Kd.R_far (p := ⟨gb937, 1, none⟩) (Kd.R_far (p := ⟨gb937, 0, none⟩) (Kd.R_types HO924.out BK937.out (by decide)) (fun _ hk => hk.2) (.int .i64 t932)) (fun _ hk => hk.2) (.int .i64 t933)) (fun _ hk => hk.2) (.slice Ao30 t934.length co30)) (fun _ h_ => h_.1))))) (Kd.R_lt (by (with_reducible repeat (first | apply Kd.R_alloc | apply Kd.R_drewN | apply Kd.R_drew)); exact (Kd.R_mono (Kd.R_far (p := ⟨gb937, 2, none⟩) (Kd.R_far (p := ⟨gb937, 1, none⟩) (Kd.R_far (p := ⟨gb937, 0, none⟩) (Kd.R_types HO929.out BK937.out (by decide)) (fun _ hk => hk.2) (.int .i64 t932)) (fun _ hk => hk.2) (.int .i64 t933)) (fun _ hk => hk.2) (.slice Ao30 t934.length co30)) (fun _ h_ => h_.1))))) (Kd.R_lt (by (with_reducible repeat (first | apply Kd.R_alloc | apply Kd.R_drewN | apply Kd.R_drew)); exact (Kd.R_mono (Kd.R_far (p := ⟨gb937, 2, none⟩) (Kd.R_far (p := ⟨gb937, 1, none⟩) (Kd.R_far (p := ⟨gb937, 0, none⟩) (Kd.R_types HO936.out BK937.out (by decide)) (fun _ hk => hk.2) (.int .i64 t932)) (fun _ hk => hk.2) (.int .i64 t933)) (fun _ hk => hk.2) (.slice Ao30 t934.length co30)) (fun _ h_ => h_.1))))) (below_size (BL HB.out))) (blk_below (g := gb918) (o := .cells #[.int .i64 a0_0, .int .i64 a0_1, .slice A0_2 l0_2.length c0_2] 24 (0, 0)) (by (with_reducible repeat (first | refine blk_drewN ?_ _ | refine blk_drew ?_ | refine blk_alloc ?_ _)); refine blk_far ?_ NB918_937.out _; (with_reducible repeat (first | refine blk_drewN ?_ _ | refine blk_drew ?_ | refine blk_alloc ?_ _)); refine blk_far ?_ NB918_937.out _; (with_reducible repeat (first | refine blk_drewN ?_ _ | refine blk_drew ?_ | refine blk_alloc ?_ _)); refine blk_far ?_ NB918_937.out _; (with_reducible repeat (first | refine blk_drewN ?_ _ | refine blk_drew ?_ | refine blk_alloc ?_ _)); exact BK918.out) hb) (blk_below (g := gb931) (o := .cells #[.int .i64 t925, .int .i64 t926, .slice Ao23 t927.length co23] 30 (0, 0)) (by (with_reducible repeat (first | refine blk_drewN ?_ _ | refine blk_drew ?_ | refine blk_alloc ?_ _)); refine blk_far ?_ NB931_937.out _; (with_reducible repeat (first | refine blk_drewN ?_ _ | refine blk_drew ?_ | refine blk_alloc ?_ _)); refine blk_far ?_ NB931_937.out _; (with_reducible repeat (first | refine blk_drewN ?_ _ | refine blk_drew ?_ | refine blk_alloc ?_ _)); refine blk_far ?_ NB931_937.out _; (with_reducible repeat (first | refine blk_drewN ?_ _ | refine blk_drew ?_ | refine blk_alloc ?_ _)); exact BK931.out) hb) (blk_below (g := gb937) (o := .cells #[.int .i64 t932, .int .i64 t933, .slice Ao30 t934.length co30] 30 (0, 0)) (by (with_reducible repeat (first | refine blk_drewN ?_ _ | refine blk_drew ?_ | refine blk_alloc ?_ _)); refine blk_put (cs := #[.int .i64 t932, .int .i64 t933, .slice none 0 0]) ?_ 2 _ rfl; (with_reducible repeat (first | refine blk_drewN ?_ _ | refine blk_drew ?_ | refine blk_alloc ?_ _)); refine blk_put (cs := #[.int .i64 t932, .int .i64 0, .slice none 0 0]) ?_ 1 _ rfl; (with_reducible repeat (first | refine blk_drewN ?_ _ | refine blk_drew ?_ | refine blk_alloc ?_ _)); refine blk_put (cs := #[.int .i64 0, .int .i64 0, .slice none 0 0]) ?_ 0 _ rfl; (with_reducible repeat (first | refine blk_drewN ?_ _ | refine blk_drew ?_ | refine blk_alloc ?_ _)); exact BK937.out) hb) (below_step (BL HB.out) hb) ?_; clear HO924 HO929 HO936 BK918 BK931 BK937 HB; intro HO924 HO929 HO936 HO942 BK918 BK931 BK937 HB; (try clear hb); (try clear hb2); (try clear hk); (try clear hi); (try clear ho0)) | ((with_reducible refine gate_dst (N := 9) rfl ?_); refine boxE (N := 9) (cs := #[.int .i64 0, .int .i64 0, .slice none 0 0]) (t := 30) ?_; intro gb944 hg w32 hbox hb; refine E17 (Kd.R_below (PR HO924.out) hb) (Kd.R_below (PR HO929.out) hb) (Kd.R_below (PR HO936.out) hb) (Kd.R_below (PR HO942.out) hb) (bB BK918.out hb) (bB BK931.out hb) (bB BK937.out hb) (below_step (BL HB.out) hb) (hbox) (gwM hg (below_size (BL HB.out)) : w.heap.size ≤ gb944) (gwM hg (below_size (BL HB.out)) : w.heap.size ≤ gb944) ((nB BK918.out hg : gb918 ≠ gb944)) ((nC BK918.out hg : gb944 ≠ gb918)) ((nB BK931.out hg : gb931 ≠ gb944)) ((nC BK931.out hg : gb944 ≠ gb931)) ((nB BK937.out hg : gb937 ≠ gb944)) ((nC BK937.out hg : gb944 ≠ gb937)) ?_; clear HO924 HO929 HO936 HO942 BK918 BK931 BK937 HB; intro HO924 HO929 HO936 HO942 BK918 BK931 BK937 HB BK944 GW944 GE944 NB918_944 NB944_918 NB931_944 NB944_931 NB937_944 NB944_937; clear hb hbox hg; have hnb33 := NB944_918.out; have hnc33 := NB918_944.out; have hnb34 := NB944_931.out; have hnc34 := NB931_944.out; have hnb35 := NB944_937.out; have hnc35 := NB937_944.out; obtain ⟨hcz36_0, hcz36_1, hcz36_2, hfz36_0, hfz36_1, hfz36_2⟩ := cz3 BK944.out; obtain ⟨Ao37, co37, eo37⟩ := Kd.R_slice HO942.out; subst eo37))
  (try simp only [Act.put, List.setIfInBounds_toArray, List.set_cons_zero, List.set_cons_succ])
  go_cut [44] (fun v44 wc => ∃ (kq : Nat) (x44_11 : Bool), v44 = .bool x44_11 ∧ Aside0 (laws_FnExactBoardInState.j0 kq a1 t930 t943 x44_11 a0_0 a0_1 l0_2 t925 t926 t927 t932 t933 t934 t938 t939 t940 = some true) ∧ Aside0 (kq ≤ k) ∧ Aside0 (Kd.R k73 73 wc w.heap.size (fun k_ => some k_ ≠ ((.slice Ao30 t934.length co30) : Value).ownBlock ∧ some k_ ≠ ((.slice Ao37 t940.length co37) : Value).ownBlock) (.slice Ao23 t927.length co23) t927) ∧ Aside0 (Kd.R k73 73 wc w.heap.size (fun k_ => some k_ ≠ ((.slice Ao23 t927.length co23) : Value).ownBlock ∧ some k_ ≠ ((.slice Ao37 t940.length co37) : Value).ownBlock) (.slice Ao30 t934.length co30) t934) ∧ Aside0 (Kd.R k73 73 wc w.heap.size (fun k_ => some k_ ≠ ((.slice Ao23 t927.length co23) : Value).ownBlock ∧ some k_ ≠ ((.slice Ao30 t934.length co30) : Value).ownBlock) (.slice Ao37 t940.length co37) t940) ∧ Aside0 (wc.heap[gb918]? = some (.cells #[.int .i64 a0_0, .int .i64 a0_1, (.slice A0_2 l0_2.length c0_2)] 24 (0, 0))) ∧ Aside0 (wc.heap[gb931]? = some (.cells #[.int .i64 t925, .int .i64 t926, (.slice Ao23 t927.length co23)] 30 (0, 0))) ∧ Aside0 (wc.heap[gb937]? = some (.cells #[.int .i64 t932, .int .i64 t933, (.slice Ao30 t934.length co30)] 30 (0, 0))) ∧ Aside0 (wc.heap[gb944]? = some (.cells #[.int .i64 t938, .int .i64 t939, (.slice Ao37 t940.length co37)] 30 (0, 0))) ∧ Aside0 (Below w.heap.size w wc))
  case first =>
    have H := HC12.out
    clear HC12
    replace H := bindA H; obtain ⟨t945, A38, H⟩ := H
    by_cases c39 : t945 = true
    · subst c39
      have H1 : (laws_FnExactBoardInState.j0 k a1 t930 t943 (t943 != t930) a0_0 a0_1 l0_2 t925 t926 t927 t932 t933 t934 t938 t939 t940) = some true := by rw [if_pos rfl] at H; exact H
      clear H
      have H := H1
      clear H1
      have H' := Aside0.mk H
      clear H
      have hnb40 := NB944_918.out
      have hnc40 := NB918_944.out
      have hnb41 := NB944_931.out
      have hnc41 := NB931_944.out
      have hnb42 := NB944_937.out
      have hnc42 := NB937_944.out
      obtain ⟨hcz43_0, hcz43_1, hcz43_2, hfz43_0, hfz43_1, hfz43_2⟩ := cz3 BK944.out
      have hnb44 := NB931_918.out
      have hnc44 := NB918_931.out
      have hnb45 := NB931_937.out
      have hnc45 := NB937_931.out
      obtain ⟨hcz46_0, hcz46_1, hcz46_2, hfz46_0, hfz46_1, hfz46_2⟩ := cz3 BK931.out
      go_wp2_with (first | ((with_reducible refine gate_callee (f := 17) rfl ?_); refine goesM (N := (some 38)) #[.agg #[.int .i64 t938, .int .i64 t939, .slice Ao37 t940.length co37], .agg #[.int .i64 t925, .int .i64 t926, .slice Ao23 t927.length co23]] Try.func17 ?_; (with_reducible refine (laws_eqBoard.calls k t938 t939 _ _ t940 t925 t926 _ _ t927 true _ ?side1 ?side2 ?side3 ?side4 A38.out).mono ?_); (case side1 => refine (Kd.R_reads' (e := 73) (base := w.heap.size) (ok := fun k_ => (((True ∧ some k_ ≠ (.slice Ao18 t922.length co18 : Value).ownBlock) ∧ some k_ ≠ (.slice Ao23 t927.length co23 : Value).ownBlock) ∧ some k_ ≠ (.slice Ao30 t934.length co30 : Value).ownBlock)) (n := t940.length) (c := co37) ?_).2.2; exact (by (with_reducible repeat (first | apply Kd.R_alloc | apply Kd.R_drewN | apply Kd.R_drew)); exact (Kd.R_mono (Kd.R_far (p := ⟨gb944, 2, none⟩) (Kd.R_far (p := ⟨gb944, 1, none⟩) (Kd.R_far (p := ⟨gb944, 0, none⟩) (Kd.R_types HO942.out BK944.out (by decide)) (fun _ hk => hk.2) (.int .i64 t938)) (fun _ hk => hk.2) (.int .i64 t939)) (fun _ hk => hk.2) (.slice Ao37 t940.length co37)) (fun _ h_ => h_.1)))); (case side2 => exact (Kd.R_reads' HO942.out).2.1); (case side3 => refine (Kd.R_reads' (e := 73) (base := w.heap.size) (ok := fun k_ => (((True ∧ some k_ ≠ (.slice Ao18 t922.length co18 : Value).ownBlock) ∧ some k_ ≠ (.slice Ao30 t934.length co30 : Value).ownBlock) ∧ some k_ ≠ (.slice Ao37 t940.length co37 : Value).ownBlock)) (n := t927.length) (c := co23) ?_).2.2; exact (by (with_reducible repeat (first | apply Kd.R_alloc | apply Kd.R_drewN | apply Kd.R_drew)); exact (Kd.R_mono (Kd.R_far (p := ⟨gb944, 2, none⟩) (Kd.R_far (p := ⟨gb944, 1, none⟩) (Kd.R_far (p := ⟨gb944, 0, none⟩) (Kd.R_types HO929.out BK944.out (by decide)) (fun _ hk => hk.2) (.int .i64 t938)) (fun _ hk => hk.2) (.int .i64 t939)) (fun _ hk => hk.2) (.slice Ao37 t940.length co37)) (fun _ h_ => h_.1)))); (case side4 => exact (Kd.R_reads' HO929.out).2.1); rintro e w47 ⟨rfl, hb⟩; refine ⟨_, rfl, ?_⟩; refine E9 (Kd.R_below (by (with_reducible repeat (first | apply Kd.R_alloc | apply Kd.R_drewN | apply Kd.R_drew)); exact (Kd.R_mono (Kd.R_far (p := ⟨gb944, 2, none⟩) (Kd.R_far (p := ⟨gb944, 1, none⟩) (Kd.R_far (p := ⟨gb944, 0, none⟩) (Kd.R_types HO924.out BK944.out (by decide)) (fun _ hk => hk.2) (.int .i64 t938)) (fun _ hk => hk.2) (.int .i64 t939)) (fun _ hk => hk.2) (.slice Ao37 t940.length co37)) (fun _ h_ => h_.1))) hb) (Kd.R_below (by (with_reducible repeat (first | apply Kd.R_alloc | apply Kd.R_drewN | apply Kd.R_drew)); exact (Kd.R_mono (Kd.R_far (p := ⟨gb944, 2, none⟩) (Kd.R_far (p := ⟨gb944, 1, none⟩) (Kd.R_far (p := ⟨gb944, 0, none⟩) (Kd.R_types HO929.out BK944.out (by decide)) (fun _ hk => hk.2) (.int .i64 t938)) (fun _ hk => hk.2) (.int .i64 t939)) (fun _ hk => hk.2) (.slice Ao37 t940.length co37)) (fun _ h_ => h_.1))) hb) (Kd.R_below (by (with_reducible repeat (first | apply Kd.R_alloc | apply Kd.R_drewN | apply Kd.R_drew)); exact (Kd.R_mono (Kd.R_far (p := ⟨gb944, 2, none⟩) (Kd.R_far (p := ⟨gb944, 1, none⟩) (Kd.R_far (p := ⟨gb944, 0, none⟩) (Kd.R_types HO936.out BK944.out (by decide)) (fun _ hk => hk.2) (.int .i64 t938)) (fun _ hk => hk.2) (.int .i64 t939)) (fun _ hk => hk.2) (.slice Ao37 t940.length co37)) (fun _ h_ => h_.1))) hb) (Kd.R_below (by (with_reducible repeat (first | apply Kd.R_alloc | apply Kd.R_drewN | apply Kd.R_drew)); exact (Kd.R_mono (Kd.R_far (p := ⟨gb944, 2, none⟩) (Kd.R_far (p := ⟨gb944, 1, none⟩) (Kd.R_far (p := ⟨gb944, 0, none⟩) (Kd.R_types HO942.out BK944.out (by decide)) (fun _ hk => hk.2) (.int .i64 t938)) (fun _ hk => hk.2) (.int .i64 t939)) (fun _ hk => hk.2) (.slice Ao37 t940.length co37)) (fun _ h_ => h_.1))) hb) (blk_below (g := gb918) (o := .cells #[.int .i64 a0_0, .int .i64 a0_1, .slice A0_2 l0_2.length c0_2] 24 (0, 0)) (by (with_reducible repeat (first | refine blk_drewN ?_ _ | refine blk_drew ?_ | refine blk_alloc ?_ _)); refine blk_far ?_ NB918_944.out _; (with_reducible repeat (first | refine blk_drewN ?_ _ | refine blk_drew ?_ | refine blk_alloc ?_ _)); refine blk_far ?_ NB918_944.out _; (with_reducible repeat (first | refine blk_drewN ?_ _ | refine blk_drew ?_ | refine blk_alloc ?_ _)); refine blk_far ?_ NB918_944.out _; (with_reducible repeat (first | refine blk_drewN ?_ _ | refine blk_drew ?_ | refine blk_alloc ?_ _)); exact BK918.out) hb) (blk_below (g := gb931) (o := .cells #[.int .i64 t925, .int .i64 t926, .slice Ao23 t927.length co23] 30 (0, 0)) (by (with_reducible repeat (first | refine blk_drewN ?_ _ | refine blk_drew ?_ | refine blk_alloc ?_ _)); refine blk_far ?_ NB931_944.out _; (with_reducible repeat (first | refine blk_drewN ?_ _ | refine blk_drew ?_ | refine blk_alloc ?_ _)); refine blk_far ?_ NB931_944.out _; (with_reducible repeat (first | refine blk_drewN ?_ _ | refine blk_drew ?_ | refine blk_alloc ?_ _)); refine blk_far ?_ NB931_944.out _; (with_reducible repeat (first | refine blk_drewN ?_ _ | refine blk_drew ?_ | refine blk_alloc ?_ _)); exact BK931.out) hb) (blk_below (g := gb937) (o := .cells #[.int .i64 t932, .int .i64 t933, .slice Ao30 t934.length co30] 30 (0, 0)) (by (with_reducible repeat (first | refine blk_drewN ?_ _ | refine blk_drew ?_ | refine blk_alloc ?_ _)); refine blk_far ?_ NB937_944.out _; (with_reducible repeat (first | refine blk_drewN ?_ _ | refine blk_drew ?_ | refine blk_alloc ?_ _)); refine blk_far ?_ NB937_944.out _; (with_reducible repeat (first | refine blk_drewN ?_ _ | refine blk_drew ?_ | refine blk_alloc ?_ _)); refine blk_far ?_ NB937_944.out _; (with_reducible repeat (first | refine blk_drewN ?_ _ | refine blk_drew ?_ | refine blk_alloc ?_ _)); exact BK937.out) hb) (blk_below (g := gb944) (o := .cells #[.int .i64 t938, .int .i64 t939, .slice Ao37 t940.length co37] 30 (0, 0)) (by (with_reducible repeat (first | refine blk_drewN ?_ _ | refine blk_drew ?_ | refine blk_alloc ?_ _)); refine blk_put (cs := #[.int .i64 t938, .int .i64 t939, .slice none 0 0]) ?_ 2 _ rfl; (with_reducible repeat (first | refine blk_drewN ?_ _ | refine blk_drew ?_ | refine blk_alloc ?_ _)); refine blk_put (cs := #[.int .i64 t938, .int .i64 0, .slice none 0 0]) ?_ 1 _ rfl; (with_reducible repeat (first | refine blk_drewN ?_ _ | refine blk_drew ?_ | refine blk_alloc ?_ _)); refine blk_put (cs := #[.int .i64 0, .int .i64 0, .slice none 0 0]) ?_ 0 _ rfl; (with_reducible repeat (first | refine blk_drewN ?_ _ | refine blk_drew ?_ | refine blk_alloc ?_ _)); exact BK944.out) hb) (below_step (BL HB.out) hb) ?_; clear HO924 HO929 HO936 HO942 BK918 BK931 BK937 BK944 HB; intro HO924 HO929 HO936 HO942 BK918 BK931 BK937 BK944 HB; (try clear hb); (try clear hb2); (try clear hk); (try clear hi)))
      go_meet
      case rel => exact ⟨_, ((t943 != t930)), RG, H', ⟨by first | omega | exact Nat.le_refl _⟩, ⟨by (with_reducible repeat (first | apply Kd.R_alloc | apply Kd.R_drewN | apply Kd.R_drew)); exact Kd.R_mono HO929.out (fun _ hk => ⟨hk.1.2, hk.2⟩)⟩, ⟨by (with_reducible repeat (first | apply Kd.R_alloc | apply Kd.R_drewN | apply Kd.R_drew)); exact Kd.R_mono HO936.out (fun _ hk => ⟨hk.1.2, hk.2⟩)⟩, ⟨by (with_reducible repeat (first | apply Kd.R_alloc | apply Kd.R_drewN | apply Kd.R_drew)); exact Kd.R_mono HO942.out (fun _ hk => ⟨hk.1.2, hk.2⟩)⟩, ⟨PB BK918.out⟩, ⟨PB BK931.out⟩, ⟨PB BK937.out⟩, ⟨PB BK944.out⟩, ⟨BL HB.out⟩⟩
    replace c39 := Bool.eq_false_iff.mpr c39
    subst c39
    have H1 : (laws_FnExactBoardInState.j0 k a1 t930 t943 true a0_0 a0_1 l0_2 t925 t926 t927 t932 t933 t934 t938 t939 t940) = some true := by rw [if_neg (show ¬ (false = true) by decide)] at H; exact H
    exact absurd H1 (by cases k <;> simp [laws_FnExactBoardInState.j0])
  clear HC12
  try clear c4b0; try clear hcz14_0; try clear hcz14_1; try clear hcz14_2; try clear hcz16_0; try clear hcz16_1; try clear hcz16_2; try clear hcz22_0; try clear hcz22_1; try clear hcz22_2; try clear hcz24_0; try clear hcz24_1; try clear hcz24_2; try clear hcz29_0; try clear hcz29_1; try clear hcz29_2; try clear hcz36_0; try clear hcz36_1; try clear hcz36_2; try clear hfz14_0; try clear hfz14_1; try clear hfz14_2; try clear hfz16_0; try clear hfz16_1; try clear hfz16_2; try clear hfz22_0; try clear hfz22_1; try clear hfz22_2; try clear hfz24_0; try clear hfz24_1; try clear hfz24_2; try clear hfz29_0; try clear hfz29_1; try clear hfz29_2; try clear hfz36_0; try clear hfz36_1; try clear hfz36_2
  obtain ⟨kq, x44_11, rfl, HA, HJ11, HO_932002, HO_938002, HO_945002, BK918, BK931, BK937, BK944, HB⟩ := hcut
  cases kq with
  | zero => exact absurd HA.out (by simp [laws_FnExactBoardInState.j0])
  | succ kj11 => ?_
  have H := HA.out
  clear HA
  simp only [laws_FnExactBoardInState.j0] at H
  by_cases c56 : x44_11 = true
  · subst c56
    have H1 : (some false) = some true := by rw [if_pos rfl] at H; exact H
    exact absurd H1 (by simp)
  replace c56 := Bool.eq_false_iff.mpr c56
  subst c56
  have H1 : ((laws_toBoard.f kj11 a0_0 a0_1 l0_2).bind fun bt946 => ((laws_eqBoard.f kj11 t932 t933 t934 bt946.1 bt946.2.1 bt946.2.2).bind fun t951 => (if t951 = true then ((laws_markBoard.f kj11 t932 t933 t934 1).bind fun bt952 => (if bt952.1 < 0 then (laws_FnExactBoardInState.j1 kj11 a1 t930 true a0_0 a0_1 l0_2 t925 t926 t927 t938 t939 t940) else ((laws_eqBoard.f kj11 t938 t939 t940 t925 t926 t927).bind fun t954 => (if t954 = true then (laws_FnExactBoardInState.j1 kj11 a1 t930 (t943 != t930) a0_0 a0_1 l0_2 t925 t926 t927 t938 t939 t940) else (laws_FnExactBoardInState.j1 kj11 a1 t930 true a0_0 a0_1 l0_2 t925 t926 t927 t938 t939 t940))))) else (some false)))) = some true := by rw [if_neg (show ¬ (false = true) by decide)] at H; exact H
  clear H
  have H := H1
  clear H1
  replace H := bindA H; obtain ⟨⟨t946, t947, t948⟩, A57, H⟩ := H
  dsimp only at H
  replace H := bindA H; obtain ⟨t951, A58, H⟩ := H
  by_cases c59 : t951 = true
  · subst c59
    have H1 : ((laws_markBoard.f kj11 t932 t933 t934 1).bind fun bt952 => (if bt952.1 < 0 then (laws_FnExactBoardInState.j1 kj11 a1 t930 true a0_0 a0_1 l0_2 t925 t926 t927 t938 t939 t940) else ((laws_eqBoard.f kj11 t938 t939 t940 t925 t926 t927).bind fun t954 => (if t954 = true then (laws_FnExactBoardInState.j1 kj11 a1 t930 (t943 != t930) a0_0 a0_1 l0_2 t925 t926 t927 t938 t939 t940) else (laws_FnExactBoardInState.j1 kj11 a1 t930 true a0_0 a0_1 l0_2 t925 t926 t927 t938 t939 t940))))) = some true := by rw [if_pos rfl] at H; exact H
    clear H
    have H := H1
    clear H1
    replace H := bindA H; obtain ⟨⟨t952, t953⟩, A60, H⟩ := H
    dsimp only at H
    have HC61 := Aside0.mk H
    clear H
    try go_wp2
    refine E8 (Kd.R_drew HO_932002.out) (Kd.R_drew HO_938002.out) (Kd.R_drew HO_945002.out) (blk_drew BK918.out) (blk_drew BK931.out) (blk_drew BK937.out) (blk_drew BK944.out) (below_drew1 HB.out) ?_
    clear HO_932002 HO_938002 HO_945002 BK918 BK931 BK937 BK944 HB
    intro HO_932002 HO_938002 HO_945002 BK918 BK931 BK937 BK944 HB
    refine start_ (n := 5) (S := fun w' => w'.cell? ⟨gb937, 0, none⟩ = some (.int .i64 t932) ∧ w'.cell? ⟨gb937, 1, none⟩ = some (.int .i64 t933) ∧ w'.cell? ⟨gb937, 2, none⟩ = some (.slice Ao30 t934.length co30) ∧ w'.cell? ⟨gb918, 0, none⟩ = some (.int .i64 a0_0) ∧ w'.cell? ⟨gb918, 1, none⟩ = some (.int .i64 a0_1) ∧ w'.cell? ⟨gb918, 2, none⟩ = some (.slice A0_2 l0_2.length c0_2)) (ds := []) #[false, false, false, false, false] (by kernel_rfl) rfl rfl ⟨(blk_cell BK937.out 0).trans rfl, (blk_cell BK937.out 1).trans rfl, (blk_cell BK937.out 2).trans rfl, (blk_cell BK918.out 0).trans rfl, (blk_cell BK918.out 1).trans rfl, (blk_cell BK918.out 2).trans rfl⟩ (fun hHeld => ?_)
    generalize wc.drew = w62 at HO_932002 HO_938002 HO_945002 BK918 BK931 BK937 BK944 HB hHeld ⊢
    refine take_ (i := 0) (N := some 45) (v := ?_) (a' := ?_) #[true, false, false, false, false] rfl rfl (by kernel_rfl) (fun _ _ _ h => h) (Or.inl ⟨by rfl, ?_⟩) hHeld ?_ ?_
    rotate_left
    · rintro w' ⟨s0, s1, s2, s3, s4, s5⟩
      go_simp
      with_reducible rfl
    rotate_left
    · simp only [Act.put, List.setIfInBounds_toArray, List.set_cons_zero, List.set_cons_succ, i64_w, i32_w]
      rfl
    refine take_ (i := 1) (N := some 46) (v := ?_) (a' := ?_) #[true, true, false, false, false] rfl rfl (by kernel_rfl) (fun _ _ _ h => h) (Or.inl ⟨by rfl, ?_⟩) hHeld ?_ ?_
    rotate_left
    · rintro w' ⟨s0, s1, s2, s3, s4, s5⟩
      go_simp
      with_reducible rfl
    rotate_left
    · simp only [Act.put, List.setIfInBounds_toArray, List.set_cons_zero, List.set_cons_succ, i64_w, i32_w]
      rfl
    refine one_ (i := 2) (N := some 47) #[true, true, true, false, false] rfl rfl (by kernel_rfl) (by decide) (fun K hK => ?_)
    refine goes_ Try.func15 (by kernel_rfl) rfl #[.agg #[.int .i64 a0_0, .int .i64 a0_1, .slice A0_2 l0_2.length c0_2]] (by rfl) rfl rfl (by (try simp only [List.map_toArray, List.map_cons, List.map_nil]); first | done | rfl | (simp only [List.length_drop, List.length_take]; rfl)) ?_
    with_reducible refine (laws_toBoard.calls kj11 a0_0 a0_1 _ _ l0_2 t946 t947 t948 _ ?side1 ?side2 A57.out).mono ?_
    (case side1 => exact CB (Kd.C_below HR0_2.out HB.out))
    (case side2 => exact HC0_2.out)
    rintro e w63 ⟨v949, rfl, ho0, hb⟩
    refine ⟨_, rfl, ?_⟩
    refine E9 (Kd.R_elder' (PR HO_932002.out) (Kd.R_base ho0) hb) (Kd.R_elder' (PR HO_938002.out) (Kd.R_base ho0) hb) (Kd.R_elder' (PR HO_945002.out) (Kd.R_base ho0) hb) (Kd.R_lower (Kd.R_new' (Kd.R_new' (Kd.R_new' ho0 (Kd.R_lt (PR HO_932002.out))) (Kd.R_lt (PR HO_938002.out))) (Kd.R_lt (PR HO_945002.out))) (below_size (BL HB.out))) (bB BK918.out hb) (bB BK931.out hb) (bB BK937.out hb) (bB BK944.out hb) (below_step (BL HB.out) hb) ?_
    clear HO_932002 HO_938002 HO_945002 BK918 BK931 BK937 BK944 HB
    intro HO_932002 HO_938002 HO_945002 HO950 BK918 BK931 BK937 BK944 HB
    (try clear hb)
    (try clear hb2)
    (try clear hk)
    (try clear hi)
    (try clear ho0)
    obtain ⟨Ao64, co64, eo64⟩ := Kd.R_slice HO950.out
    (first | subst eo64 | (injection eo64 with f1_ f2_ f3_; have f4_ := f1_.symm; have f5_ := f3_.symm; clear f1_ f2_ f3_; subst f4_; subst f5_))
    refine hK.out _ _ ⟨(blk_cell BK937.out 0).trans rfl, (blk_cell BK937.out 1).trans rfl, (blk_cell BK937.out 2).trans rfl, (blk_cell BK918.out 0).trans rfl, (blk_cell BK918.out 1).trans rfl, (blk_cell BK918.out 2).trans rfl⟩ (fun hHeld => ?_)
    clear hK K
    refine norm_ (a' := ?_) ?_ ?_
    rotate_left
    · show Act.put _ (some 47) _ = _
      simp only [Act.put, List.setIfInBounds_toArray, List.set_cons_zero, List.set_cons_succ, i64_w, i32_w]
      rfl
    refine one_ (i := 3) (N := some 48) #[true, true, true, true, false] rfl rfl (by kernel_rfl) (by decide) (fun K hK => ?_)
    refine goes_ Try.func17 (by kernel_rfl) rfl #[.agg #[.int .i64 t932, .int .i64 t933, .slice Ao30 t934.length co30], .agg #[.int .i64 t946, .int .i64 t947, .slice Ao64 t948.length co64]] (by rfl) rfl rfl (by (try simp only [List.map_toArray, List.map_cons, List.map_nil]); first | done | rfl | (simp only [List.length_drop, List.length_take]; rfl)) ?_
    with_reducible refine (laws_eqBoard.calls kj11 t932 t933 _ _ t934 t946 t947 _ _ t948 true _ ?side1 ?side2 ?side3 ?side4 A58.out).mono ?_
    (case side1 => repeat (first | exact (Kd.R_reads' HO_938002.out).2.2 | (with_reducible refine Kd.C_alloc ?_ _) | (with_reducible refine Kd.C_drewN ?_ _) | (with_reducible refine Kd.C_drew ?_)))
    (case side2 => exact (Kd.R_reads' HO_938002.out).2.1)
    (case side3 => repeat (first | exact (Kd.R_reads' HO950.out).2.2 | (with_reducible refine Kd.C_alloc ?_ _) | (with_reducible refine Kd.C_drewN ?_ _) | (with_reducible refine Kd.C_drew ?_)))
    (case side4 => exact (Kd.R_reads' HO950.out).2.1)
    rintro e w65 ⟨rfl, hb⟩
    refine ⟨_, rfl, ?_⟩
    refine E9 (Kd.R_below (PR HO_932002.out) hb) (Kd.R_below (PR HO_938002.out) hb) (Kd.R_below (PR HO_945002.out) hb) (Kd.R_below (PR HO950.out) hb) (bB BK918.out hb) (bB BK931.out hb) (bB BK937.out hb) (bB BK944.out hb) (below_step (BL HB.out) hb) ?_
    clear HO_932002 HO_938002 HO_945002 HO950 BK918 BK931 BK937 BK944 HB
    intro HO_932002 HO_938002 HO_945002 HO950 BK918 BK931 BK937 BK944 HB
    (try clear hb)
    (try clear hb2)
    (try clear hk)
    (try clear hi)
    refine hK.out _ _ ⟨(blk_cell BK937.out 0).trans rfl, (blk_cell BK937.out 1).trans rfl, (blk_cell BK937.out 2).trans rfl, (blk_cell BK918.out 0).trans rfl, (blk_cell BK918.out 1).trans rfl, (blk_cell BK918.out 2).trans rfl⟩ (fun hHeld => ?_)
    clear hK K
    refine norm_ (a' := ?_) ?_ ?_
    rotate_left
    · show Act.put _ (some 48) _ = _
      simp only [Act.put, List.setIfInBounds_toArray, List.set_cons_zero, List.set_cons_succ, i64_w, i32_w]
      rfl
    refine pure_ (i := 4) (N := some 49) (v := ?_) (a' := ?_) #[true, true, true, true, true] rfl rfl (by kernel_rfl) (fun _ _ _ h => h) (Or.inl ⟨by rfl, ?_⟩) ?_ ?_
    rotate_left
    · intro w'
      go_simp
      with_reducible rfl
    rotate_left
    · simp only [Act.put, List.setIfInBounds_toArray, List.set_cons_zero, List.set_cons_succ, i64_w, i32_w]
      rfl
    refine done_ (by kernel_rfl) ?_
    have hnb66 := NB937_918.out
    have hnc66 := NB918_937.out
    have hnb67 := NB937_931.out
    have hnc67 := NB931_937.out
    have hnb68 := NB937_944.out
    have hnc68 := NB944_937.out
    obtain ⟨hcz69_0, hcz69_1, hcz69_2, hfz69_0, hfz69_1, hfz69_2⟩ := cz3 BK937.out
    go_upto_region 14 with (first | ((with_reducible refine gate_callee (f := 23) rfl ?_); refine goesM (N := (some 52)) #[.agg #[.int .i64 t932, .int .i64 t933, .slice Ao30 t934.length co30], .int .i64 1] Try.func23 ?_; (with_reducible refine (laws_markBoard.calls kj11 t932 t933 (fun k_ => some k_ = (.slice Ao30 t934.length co30 : Value).ownBlock) (.slice Ao30 t934.length co30) t934 1 t952 t953 w _ ?side1 ?side2 A60.out).mono ?_); (case side1 => repeat (first | (with_reducible first | exact HB.out | apply below_alloc | apply pw_below_drewN | apply below_drew1 | refine below_set ?_ GE918.out | refine below_set ?_ GE931.out | refine below_set ?_ GE937.out | refine below_set ?_ GE944.out) | exact HB.out)); (case side2 => exact Kd.R_tight rfl HO_938002.out); rintro e w70 ⟨rfl, hy0, hb, hkp⟩; refine ⟨_, rfl, ?_⟩; refine E9 (Kd.R_mono (ok' := fun k_ => some k_ ≠ (.slice Ao30 t934.length co30 : Value).ownBlock ∧ some k_ ≠ (.slice Ao37 t940.length co37 : Value).ownBlock ∧ some k_ ≠ (.slice Ao64 t948.length co64 : Value).ownBlock) (Kd.R_keptB (HO_932002.out) hkp (fun k_ hk_ hs_ => (hk_.1.1) hs_)) (fun k_ hk_ => ⟨hk_.1.1.1, hk_.1.1.2, hk_.1.2⟩)) (Kd.R_reok rfl hy0 (fun k_ e_ => HO_938002.out.1 k_ e_)) (Kd.R_mono (ok' := fun k_ => some k_ ≠ (.slice Ao23 t927.length co23 : Value).ownBlock ∧ some k_ ≠ (.slice Ao30 t934.length co30 : Value).ownBlock ∧ some k_ ≠ (.slice Ao64 t948.length co64 : Value).ownBlock) (Kd.R_keptB (HO_945002.out) hkp (fun k_ hk_ hs_ => (hk_.1.2) hs_)) (fun k_ hk_ => ⟨hk_.1.1.1, hk_.1.1.2, hk_.1.2⟩)) (blk_kept (PB BK918.out) hkp (fun hs_ => (fun e_ => (Kd.R_ne HO_938002.out BK918.out (by decide)) e_) hs_)) (blk_kept (PB BK931.out) hkp (fun hs_ => (fun e_ => (Kd.R_ne HO_938002.out BK931.out (by decide)) e_) hs_)) (blk_kept (PB BK937.out) hkp (fun hs_ => (fun e_ => (Kd.R_ne HO_938002.out BK937.out (by decide)) e_) hs_)) (blk_kept (PB BK944.out) hkp (fun hs_ => (fun e_ => (Kd.R_ne HO_938002.out BK944.out (by decide)) e_) hs_)) (Kd.R_mono (ok' := fun k_ => some k_ ≠ (.slice Ao23 t927.length co23 : Value).ownBlock ∧ some k_ ≠ (.slice Ao30 t934.length co30 : Value).ownBlock ∧ some k_ ≠ (.slice Ao37 t940.length co37 : Value).ownBlock) (Kd.R_keptB (HO950.out) hkp (fun k_ hk_ hs_ => (hk_.1.2) hs_)) (fun k_ hk_ => ⟨hk_.1.1.1.2, hk_.1.1.2, hk_.1.2⟩)) (hb) ?_; clear HO_932002 HO_938002 HO_945002 BK918 BK931 BK937 BK944 HO950 HB; intro HO_932002 HO_938002 HO_945002 BK918 BK931 BK937 BK944 HO950 HB; (try clear hb); (try clear hkp); (try clear hy0)))
    (try simp only [Act.put, List.setIfInBounds_toArray, List.set_cons_zero, List.set_cons_succ])
    go_cut [65] (fun v65 wc => ∃ (kq : Nat) (x65_60 : Bool), v65 = .bool x65_60 ∧ Aside0 (laws_FnExactBoardInState.j1 kq a1 t930 x65_60 a0_0 a0_1 l0_2 t925 t926 t927 t938 t939 t940 = some true) ∧ Aside0 (kq ≤ kj11) ∧ Aside0 (Kd.R k73 73 wc w.heap.size (fun k_ => some k_ ≠ ((.slice Ao30 t934.length co30) : Value).ownBlock ∧ some k_ ≠ ((.slice Ao37 t940.length co37) : Value).ownBlock) (.slice Ao23 t927.length co23) t927) ∧ Aside0 (Kd.R k73 73 wc w.heap.size (fun k_ => some k_ ≠ ((.slice Ao23 t927.length co23) : Value).ownBlock ∧ some k_ ≠ ((.slice Ao37 t940.length co37) : Value).ownBlock) (.slice Ao30 t934.length co30) t953) ∧ Aside0 (Kd.R k73 73 wc w.heap.size (fun k_ => some k_ ≠ ((.slice Ao23 t927.length co23) : Value).ownBlock ∧ some k_ ≠ ((.slice Ao30 t934.length co30) : Value).ownBlock) (.slice Ao37 t940.length co37) t940) ∧ Aside0 (wc.heap[gb918]? = some (.cells #[.int .i64 a0_0, .int .i64 a0_1, (.slice A0_2 l0_2.length c0_2)] 24 (0, 0))) ∧ Aside0 (wc.heap[gb931]? = some (.cells #[.int .i64 t925, .int .i64 t926, (.slice Ao23 t927.length co23)] 30 (0, 0))) ∧ Aside0 (wc.heap[gb937]? = some (.cells #[.int .i64 t932, .int .i64 t933, (.slice Ao30 t934.length co30)] 30 (0, 0))) ∧ Aside0 (wc.heap[gb944]? = some (.cells #[.int .i64 t938, .int .i64 t939, (.slice Ao37 t940.length co37)] 30 (0, 0))) ∧ Aside0 (Below w.heap.size w wc))
    case first =>
      have H := HC61.out
      clear HC61
      replace H := ifQ H; rcases H with ⟨c71, H⟩ | ⟨c71, H⟩
      · exact absurd H (by cases kj11 <;> simp [laws_FnExactBoardInState.j1])
      have c71b0 := decide_eq_false c71
      clear c71
      (first | rw [c71b0] | (simp only [i64_w, i32_w]; rw [c71b0]) | skip)
      replace H := bindA H; obtain ⟨t954, A72, H⟩ := H
      by_cases c73 : t954 = true
      · subst c73
        have H1 : (laws_FnExactBoardInState.j1 kj11 a1 t930 (t943 != t930) a0_0 a0_1 l0_2 t925 t926 t927 t938 t939 t940) = some true := by rw [if_pos rfl] at H; exact H
        clear H
        have H := H1
        clear H1
        have H' := Aside0.mk H
        clear H
        have hnb74 := NB944_918.out
        have hnc74 := NB918_944.out
        have hnb75 := NB944_931.out
        have hnc75 := NB931_944.out
        have hnb76 := NB944_937.out
        have hnc76 := NB937_944.out
        obtain ⟨hcz77_0, hcz77_1, hcz77_2, hfz77_0, hfz77_1, hfz77_2⟩ := cz3 BK944.out
        have hnb78 := NB931_918.out
        have hnc78 := NB918_931.out
        have hnb79 := NB931_937.out
        have hnc79 := NB937_931.out
        obtain ⟨hcz80_0, hcz80_1, hcz80_2, hfz80_0, hfz80_1, hfz80_2⟩ := cz3 BK931.out
        go_wp2_with (first | (go_at_call 17; (with_reducible refine (laws_eqBoard.calls kj11 t938 t939 _ _ t940 t925 t926 _ _ t927 true _ ?side1 ?side2 ?side3 ?side4 A72.out).mono ?_); (case side1 => repeat (first | exact (Kd.R_reads' HO_945002.out).2.2 | (with_reducible refine Kd.C_alloc ?_ _) | (with_reducible refine Kd.C_drewN ?_ _) | (with_reducible refine Kd.C_drew ?_))); (case side2 => exact (Kd.R_reads' HO_945002.out).2.1); (case side3 => repeat (first | exact (Kd.R_reads' HO_932002.out).2.2 | (with_reducible refine Kd.C_alloc ?_ _) | (with_reducible refine Kd.C_drewN ?_ _) | (with_reducible refine Kd.C_drew ?_))); (case side4 => exact (Kd.R_reads' HO_932002.out).2.1); rintro e w81 ⟨rfl, hb⟩; refine E9 (Kd.R_below (PR HO_932002.out) hb) (Kd.R_below (PR HO_938002.out) hb) (Kd.R_below (PR HO_945002.out) hb) (Kd.R_below (PR HO950.out) hb) (bB BK918.out hb) (bB BK931.out hb) (bB BK937.out hb) (bB BK944.out hb) (below_step (BL HB.out) hb) ?_; clear HO_932002 HO_938002 HO_945002 HO950 BK918 BK931 BK937 BK944 HB; intro HO_932002 HO_938002 HO_945002 HO950 BK918 BK931 BK937 BK944 HB; (try clear hb); (try clear hb2); (try clear hk); (try clear hi)))
        go_meet
        case rel => exact ⟨_, ((t943 != t930)), RG, H', ⟨by have := HJ11.out; first | omega | exact Nat.le_refl _⟩, ⟨by (with_reducible repeat (first | apply Kd.R_alloc | apply Kd.R_drewN | apply Kd.R_drew)); exact Kd.R_mono HO_932002.out (fun _ hk => ⟨hk.1, hk.2.1⟩)⟩, ⟨by (with_reducible repeat (first | apply Kd.R_alloc | apply Kd.R_drewN | apply Kd.R_drew)); exact Kd.R_mono HO_938002.out (fun _ hk => ⟨hk.1.1, hk.1.2⟩)⟩, ⟨by (with_reducible repeat (first | apply Kd.R_alloc | apply Kd.R_drewN | apply Kd.R_drew)); exact Kd.R_mono HO_945002.out (fun _ hk => ⟨hk.1, hk.2.1⟩)⟩, ⟨PB BK918.out⟩, ⟨PB BK931.out⟩, ⟨PB BK937.out⟩, ⟨PB BK944.out⟩, ⟨BL HB.out⟩⟩
      replace c73 := Bool.eq_false_iff.mpr c73
      subst c73
      have H1 : (laws_FnExactBoardInState.j1 kj11 a1 t930 true a0_0 a0_1 l0_2 t925 t926 t927 t938 t939 t940) = some true := by rw [if_neg (show ¬ (false = true) by decide)] at H; exact H
      exact absurd H1 (by cases kj11 <;> simp [laws_FnExactBoardInState.j1])
    clear HC61
    try clear c56; try clear c59; try clear hcz69_0; try clear hcz69_1; try clear hcz69_2; try clear hfz69_0; try clear hfz69_1; try clear hfz69_2
    obtain ⟨kq, x65_60, rfl, HA, HJ60, HO_932002, HO_938002, HO_945002, BK918, BK931, BK937, BK944, HB⟩ := hcut
    have hl938002_60 := (Kd.R_reads' HO_938002.out).1
    rw [hl938002_60] at HO_938002
    (try simp only [hl938002_60])
    (try simp only [hl938002_60] at BK918)
    (try simp only [hl938002_60] at BK931)
    (try simp only [hl938002_60] at BK937)
    (try simp only [hl938002_60] at BK944)
    (try simp only [hl938002_60] at HO_932002)
    (try simp only [hl938002_60] at HO_945002)
    cases kq with
    | zero => exact absurd HA.out (by simp [laws_FnExactBoardInState.j1])
    | succ kj60 => ?_
    have H := HA.out
    clear HA
    simp only [laws_FnExactBoardInState.j1] at H
    by_cases c90 : x65_60 = true
    · subst c90
      have H1 : (some false) = some true := by rw [if_pos rfl] at H; exact H
      exact absurd H1 (by simp)
    replace c90 := Bool.eq_false_iff.mpr c90
    subst c90
    have H1 : ((laws_markBoard.f kj60 t938 t939 t940 1).bind fun bt955 => ((laws_heldBoard.f kj60 t938 t939 bt955.2 1).bind fun t957 => (if t957 < 0 then (some false) else (if t957 = bt955.1 then ((laws_toBoard.f kj60 a0_0 a0_1 l0_2).bind fun bt958 => ((impl_BoardInState.f kj60 bt958.1 bt958.2.1 bt958.2.2 a1).bind fun bt963 => ((laws_eqBoard.f kj60 bt963.1 bt963.2.1 bt963.2.2.1 t925 t926 t927).bind fun t970 => (if t970 = true then (laws_FnExactBoardInState.j2 kj60 bt955.1 (bt963.2.2.2 != t930) t938 t939 bt955.2) else (laws_FnExactBoardInState.j2 kj60 bt955.1 true t938 t939 bt955.2))))) else (some false))))) = some true := by rw [if_neg (show ¬ (false = true) by decide)] at H; exact H
    clear H
    have H := H1
    clear H1
    replace H := bindA H; obtain ⟨⟨t955, t956⟩, A91, H⟩ := H
    dsimp only at H
    replace H := bindA H; obtain ⟨t957, A92, H⟩ := H
    replace H := ifQ H; rcases H with ⟨c93, H⟩ | ⟨c93, H⟩
    · exact absurd H (by simp)
    have c93b0 := decide_eq_false c93
    clear c93
    first | replace H := ifP H | replace H := ifPf H
    obtain ⟨c101, H⟩ := H
    have c101b0 := beq_iff_eq.mpr c101
    have c101b1 := bne_eq_false_iff_eq.mpr c101
    clear c101
    replace H := bindA H; obtain ⟨⟨t958, t959, t960⟩, A102, H⟩ := H
    dsimp only at H
    replace H := bindA H; obtain ⟨⟨t963, t964, t965, t968⟩, A103, H⟩ := H
    dsimp only at H
    have HC104 := Aside0.mk H
    clear H
    have hnb105 := NB944_918.out
    have hnc105 := NB918_944.out
    have hnb106 := NB944_931.out
    have hnc106 := NB931_944.out
    have hnb107 := NB944_937.out
    have hnc107 := NB937_944.out
    obtain ⟨hcz108_0, hcz108_1, hcz108_2, hfz108_0, hfz108_1, hfz108_2⟩ := cz3 BK944.out
    go_upto_region 25 with (first | ((with_reducible refine gate_callee (f := 23) rfl ?_); refine goesM (N := (some 68)) #[.agg #[.int .i64 t938, .int .i64 t939, .slice Ao37 t940.length co37], .int .i64 1] Try.func23 ?_; (with_reducible refine (laws_markBoard.calls kj60 t938 t939 (fun k_ => some k_ = (.slice Ao37 t940.length co37 : Value).ownBlock) (.slice Ao37 t940.length co37) t940 1 t955 t956 w _ ?side1 ?side2 A91.out).mono ?_); (case side1 => repeat (first | (with_reducible first | exact HB.out | apply below_alloc | apply pw_below_drewN | apply below_drew1 | refine below_set ?_ GE918.out | refine below_set ?_ GE931.out | refine below_set ?_ GE937.out | refine below_set ?_ GE944.out) | exact HB.out)); (case side2 => exact Kd.R_tight rfl HO_945002.out); rintro e w109 ⟨rfl, hy0, hb, hkp⟩; refine ⟨_, rfl, ?_⟩; refine E8 (Kd.R_mono (ok' := fun k_ => some k_ ≠ (.slice Ao30 t953.length co30 : Value).ownBlock ∧ some k_ ≠ (.slice Ao37 t940.length co37 : Value).ownBlock) (Kd.R_keptB (HO_932002.out) hkp (fun k_ hk_ hs_ => (hk_.2) hs_)) (fun k_ hk_ => ⟨hk_.1.1, hk_.1.2⟩)) (Kd.R_mono (ok' := fun k_ => some k_ ≠ (.slice Ao23 t927.length co23 : Value).ownBlock ∧ some k_ ≠ (.slice Ao37 t940.length co37 : Value).ownBlock) (Kd.R_keptB (HO_938002.out) hkp (fun k_ hk_ hs_ => (hk_.2) hs_)) (fun k_ hk_ => ⟨hk_.1.1, hk_.1.2⟩)) (Kd.R_reok rfl hy0 (fun k_ e_ => HO_945002.out.1 k_ e_)) (blk_kept (PB BK918.out) hkp (fun hs_ => (fun e_ => (Kd.R_ne HO_945002.out BK918.out (by decide)) e_) hs_)) (blk_kept (PB BK931.out) hkp (fun hs_ => (fun e_ => (Kd.R_ne HO_945002.out BK931.out (by decide)) e_) hs_)) (blk_kept (PB BK937.out) hkp (fun hs_ => (fun e_ => (Kd.R_ne HO_945002.out BK937.out (by decide)) e_) hs_)) (blk_kept (PB BK944.out) hkp (fun hs_ => (fun e_ => (Kd.R_ne HO_945002.out BK944.out (by decide)) e_) hs_)) (hb) ?_; clear HO_932002 HO_938002 HO_945002 BK918 BK931 BK937 BK944 HB; intro HO_932002 HO_938002 HO_945002 BK918 BK931 BK937 BK944 HB; (try clear hb); (try clear hkp); (try clear hy0); obtain ⟨hcz110_0, hcz110_1, hcz110_2, hfz110_0, hfz110_1, hfz110_2⟩ := cz3 BK944.out) | ((with_reducible refine gate_callee (f := 28) rfl ?_); refine goesL_ (some 71) rfl rfl Try.func28 (by kernel_rfl) rfl #[.agg #[.int .i64 t938, .int .i64 t939, .slice Ao37 t956.length co37], .int .i64 1] rfl (by (try simp only [List.map_toArray, List.map_cons, List.map_nil]); first | done | (rw [show t956.length = t940.length from (Kd.R_reads' HO_945002.out).1.symm] <;> rfl) | rfl | (simp only [List.length_drop, List.length_take]; rfl)) ?_; (with_reducible refine (laws_heldBoard.calls kj60 t938 t939 _ _ t956 1 t957 _ ?side1 ?side2 A92.out).mono ?_); (case side1 => repeat (first | exact (Kd.R_reads' HO_945002.out).2.2 | (with_reducible refine Kd.C_alloc ?_ _) | (with_reducible refine Kd.C_drewN ?_ _) | (with_reducible refine Kd.C_drew ?_))); (case side2 => rw [show t956.length = t940.length from (Kd.R_reads' HO_945002.out).1.symm]; exact (Kd.R_reads' HO_945002.out).2.1); rintro e w111 ⟨rfl, hb⟩; refine ⟨_, rfl, ?_⟩; refine E8 (Kd.R_below (PR HO_932002.out) hb) (Kd.R_below (PR HO_938002.out) hb) (Kd.R_below (PR HO_945002.out) hb) (bB BK918.out hb) (bB BK931.out hb) (bB BK937.out hb) (bB BK944.out hb) (below_step (BL HB.out) hb) ?_; clear HO_932002 HO_938002 HO_945002 BK918 BK931 BK937 BK944 HB; intro HO_932002 HO_938002 HO_945002 BK918 BK931 BK937 BK944 HB; (try clear hb); (try clear hb2); (try clear hk); (try clear hi); have hnb112 := NB918_931.out; have hnc112 := NB931_918.out; have hnb113 := NB918_937.out; have hnc113 := NB937_918.out; obtain ⟨hcz114_0, hcz114_1, hcz114_2, hfz114_0, hfz114_1, hfz114_2⟩ := cz3 BK918.out) | ((with_reducible refine gate_callee (f := 15) rfl ?_); refine goesM (N := (some 79)) #[.agg #[.int .i64 a0_0, .int .i64 a0_1, .slice A0_2 l0_2.length c0_2]] Try.func15 ?_; (with_reducible refine (laws_toBoard.calls kj60 a0_0 a0_1 _ _ l0_2 t958 t959 t960 _ ?side1 ?side2 A102.out).mono ?_); (case side1 => exact CB (Kd.C_below HR0_2.out HB.out)); (case side2 => exact HC0_2.out); rintro e w115 ⟨v961, rfl, ho0, hb⟩; refine ⟨_, rfl, ?_⟩; refine E9 (Kd.R_elder' (PR HO_932002.out) (Kd.R_base ho0) hb) (Kd.R_elder' (PR HO_938002.out) (Kd.R_base ho0) hb) (Kd.R_elder' (PR HO_945002.out) (Kd.R_base ho0) hb) (Kd.R_lower (Kd.R_new' (Kd.R_new' (Kd.R_new' ho0 (Kd.R_lt (PR HO_932002.out))) (Kd.R_lt (PR HO_938002.out))) (Kd.R_lt (PR HO_945002.out))) (below_size (BL HB.out))) (bB BK918.out hb) (bB BK931.out hb) (bB BK937.out hb) (bB BK944.out hb) (below_step (BL HB.out) hb) ?_; clear HO_932002 HO_938002 HO_945002 BK918 BK931 BK937 BK944 HB; intro HO_932002 HO_938002 HO_945002 HO962 BK918 BK931 BK937 BK944 HB; (try clear hb); (try clear hb2); (try clear hk); (try clear hi); (try clear ho0); obtain ⟨Ao116, co116, eo116⟩ := Kd.R_slice HO962.out; subst eo116) | ((with_reducible refine gate_callee (f := 39) rfl ?_); refine goesM (N := (some 81)) #[.agg #[.int .i64 t958, .int .i64 t959, .slice Ao116 t960.length co116], .int .i64 a1] Try.func39 ?_; (with_reducible refine (impl_BoardInState.calls kj60 t958 t959 _ _ t960 a1 t963 t964 t965 t968 _ ?side1 ?side2 A103.out).mono ?_); (case side1 => repeat (first | exact (Kd.R_reads' HO962.out).2.2 | (with_reducible refine Kd.C_alloc ?_ _) | (with_reducible refine Kd.C_drewN ?_ _) | (with_reducible refine Kd.C_drew ?_))); (case side2 => exact (Kd.R_reads' HO962.out).2.1); rintro e w117 ⟨v966, rfl, ho0, hb⟩; refine ⟨_, rfl, ?_⟩; refine E10 (Kd.R_elder' (PR HO_932002.out) (Kd.R_base ho0) hb) (Kd.R_elder' (PR HO_938002.out) (Kd.R_base ho0) hb) (Kd.R_elder' (PR HO_945002.out) (Kd.R_base ho0) hb) (Kd.R_elder' (PR HO962.out) (Kd.R_base ho0) hb) (Kd.R_lower (Kd.R_new' (Kd.R_new' (Kd.R_new' (Kd.R_new' ho0 (Kd.R_lt (PR HO_932002.out))) (Kd.R_lt (PR HO_938002.out))) (Kd.R_lt (PR HO_945002.out))) (Kd.R_lt (PR HO962.out))) (below_size (BL HB.out))) (bB BK918.out hb) (bB BK931.out hb) (bB BK937.out hb) (bB BK944.out hb) (below_step (BL HB.out) hb) ?_; clear HO_932002 HO_938002 HO_945002 HO962 BK918 BK931 BK937 BK944 HB; intro HO_932002 HO_938002 HO_945002 HO962 HO967 BK918 BK931 BK937 BK944 HB; (try clear hb); (try clear hb2); (try clear hk); (try clear hi); (try clear ho0)) | ((with_reducible refine gate_dst (N := 14) rfl ?_); refine boxE (N := 14) (cs := #[.int .i64 0, .int .i64 0, .slice none 0 0]) (t := 30) ?_; intro gb969 hg w118 hbox hb; refine E21 (Kd.R_below (PR HO_932002.out) hb) (Kd.R_below (PR HO_938002.out) hb) (Kd.R_below (PR HO_945002.out) hb) (Kd.R_below (PR HO962.out) hb) (Kd.R_below (PR HO967.out) hb) (bB BK918.out hb) (bB BK931.out hb) (bB BK937.out hb) (bB BK944.out hb) (below_step (BL HB.out) hb) (hbox) (gwM hg (below_size (BL HB.out)) : w.heap.size ≤ gb969) (gwM hg (below_size (BL HB.out)) : w.heap.size ≤ gb969) ((nB BK918.out hg : gb918 ≠ gb969)) ((nC BK918.out hg : gb969 ≠ gb918)) ((nB BK931.out hg : gb931 ≠ gb969)) ((nC BK931.out hg : gb969 ≠ gb931)) ((nB BK937.out hg : gb937 ≠ gb969)) ((nC BK937.out hg : gb969 ≠ gb937)) ((nB BK944.out hg : gb944 ≠ gb969)) ((nC BK944.out hg : gb969 ≠ gb944)) ?_; clear HO_932002 HO_938002 HO_945002 HO962 HO967 BK918 BK931 BK937 BK944 HB; intro HO_932002 HO_938002 HO_945002 HO962 HO967 BK918 BK931 BK937 BK944 HB BK969 GW969 GE969 NB918_969 NB969_918 NB931_969 NB969_931 NB937_969 NB969_937 NB944_969 NB969_944; clear hb hbox hg; have hnb119 := NB969_918.out; have hnc119 := NB918_969.out; have hnb120 := NB969_931.out; have hnc120 := NB931_969.out; have hnb121 := NB969_937.out; have hnc121 := NB937_969.out; have hnb122 := NB969_944.out; have hnc122 := NB944_969.out; obtain ⟨hcz123_0, hcz123_1, hcz123_2, hfz123_0, hfz123_1, hfz123_2⟩ := cz3 BK969.out; obtain ⟨Ao124, co124, eo124⟩ := Kd.R_slice HO967.out; subst eo124))
    (try simp only [Act.put, List.setIfInBounds_toArray, List.set_cons_zero, List.set_cons_succ])
    go_cut [92] (fun v92 wc => ∃ (kq : Nat) (x92_103 : Bool), v92 = .bool x92_103 ∧ Aside0 (laws_FnExactBoardInState.j2 kq t955 x92_103 t938 t939 t956 = some true) ∧ Aside0 (kq ≤ kj60) ∧ Aside0 (Kd.R k73 73 wc w.heap.size (fun k_ => some k_ ≠ ((.slice Ao30 t953.length co30) : Value).ownBlock ∧ some k_ ≠ ((.slice Ao37 t940.length co37) : Value).ownBlock ∧ some k_ ≠ ((.slice Ao124 t965.length co124) : Value).ownBlock) (.slice Ao23 t927.length co23) t927) ∧ Aside0 (Kd.R k73 73 wc w.heap.size (fun k_ => some k_ ≠ ((.slice Ao23 t927.length co23) : Value).ownBlock ∧ some k_ ≠ ((.slice Ao37 t940.length co37) : Value).ownBlock ∧ some k_ ≠ ((.slice Ao124 t965.length co124) : Value).ownBlock) (.slice Ao30 t953.length co30) t953) ∧ Aside0 (Kd.R k73 73 wc w.heap.size (fun k_ => some k_ ≠ ((.slice Ao23 t927.length co23) : Value).ownBlock ∧ some k_ ≠ ((.slice Ao30 t953.length co30) : Value).ownBlock ∧ some k_ ≠ ((.slice Ao124 t965.length co124) : Value).ownBlock) (.slice Ao37 t940.length co37) t956) ∧ Aside0 (Kd.R k73 73 wc w.heap.size (fun k_ => some k_ ≠ ((.slice Ao23 t927.length co23) : Value).ownBlock ∧ some k_ ≠ ((.slice Ao30 t953.length co30) : Value).ownBlock ∧ some k_ ≠ ((.slice Ao37 t940.length co37) : Value).ownBlock) (.slice Ao124 t965.length co124) t965) ∧ Aside0 (wc.heap[gb918]? = some (.cells #[.int .i64 a0_0, .int .i64 a0_1, (.slice A0_2 l0_2.length c0_2)] 24 (0, 0))) ∧ Aside0 (wc.heap[gb931]? = some (.cells #[.int .i64 t925, .int .i64 t926, (.slice Ao23 t927.length co23)] 30 (0, 0))) ∧ Aside0 (wc.heap[gb937]? = some (.cells #[.int .i64 t932, .int .i64 t933, (.slice Ao30 t953.length co30)] 30 (0, 0))) ∧ Aside0 (wc.heap[gb944]? = some (.cells #[.int .i64 t938, .int .i64 t939, (.slice Ao37 t940.length co37)] 30 (0, 0))) ∧ Aside0 (wc.heap[gb969]? = some (.cells #[.int .i64 t963, .int .i64 t964, (.slice Ao124 t965.length co124)] 30 (0, 0))) ∧ Aside0 (Below w.heap.size w wc))
    case first =>
      have H := HC104.out
      clear HC104
      replace H := bindA H; obtain ⟨t970, A125, H⟩ := H
      by_cases c126 : t970 = true
      · subst c126
        have H1 : (laws_FnExactBoardInState.j2 kj60 t955 (t968 != t930) t938 t939 t956) = some true := by rw [if_pos rfl] at H; exact H
        clear H
        have H := H1
        clear H1
        have H' := Aside0.mk H
        clear H
        have hnb127 := NB969_918.out
        have hnc127 := NB918_969.out
        have hnb128 := NB969_931.out
        have hnc128 := NB931_969.out
        have hnb129 := NB969_937.out
        have hnc129 := NB937_969.out
        have hnb130 := NB969_944.out
        have hnc130 := NB944_969.out
        obtain ⟨hcz131_0, hcz131_1, hcz131_2, hfz131_0, hfz131_1, hfz131_2⟩ := cz3 BK969.out
        have hnb132 := NB931_918.out
        have hnc132 := NB918_931.out
        have hnb133 := NB931_937.out
        have hnc133 := NB937_931.out
        have hnb134 := NB931_944.out
        have hnc134 := NB944_931.out
        obtain ⟨hcz135_0, hcz135_1, hcz135_2, hfz135_0, hfz135_1, hfz135_2⟩ := cz3 BK931.out
        go_wp2_with (first | ((with_reducible refine gate_callee (f := 17) rfl ?_); refine goesM (N := (some 86)) #[.agg #[.int .i64 t963, .int .i64 t964, .slice Ao124 t965.length co124], .agg #[.int .i64 t925, .int .i64 t926, .slice Ao23 t927.length co23]] Try.func17 ?_; (with_reducible refine (laws_eqBoard.calls kj60 t963 t964 _ _ t965 t925 t926 _ _ t927 true _ ?side1 ?side2 ?side3 ?side4 A125.out).mono ?_); (case side1 => refine (Kd.R_reads' (e := 73) (base := w.heap.size) (ok := fun k_ => ((((True ∧ some k_ ≠ (.slice Ao23 t927.length co23 : Value).ownBlock) ∧ some k_ ≠ (.slice Ao30 t953.length co30 : Value).ownBlock) ∧ some k_ ≠ (.slice Ao37 t940.length co37 : Value).ownBlock) ∧ some k_ ≠ (.slice Ao116 t960.length co116 : Value).ownBlock)) (n := t965.length) (c := co124) ?_).2.2; exact (by (with_reducible repeat (first | apply Kd.R_alloc | apply Kd.R_drewN | apply Kd.R_drew)); exact (Kd.R_mono (Kd.R_far (p := ⟨gb969, 2, none⟩) (Kd.R_far (p := ⟨gb969, 1, none⟩) (Kd.R_far (p := ⟨gb969, 0, none⟩) (Kd.R_types HO967.out BK969.out (by decide)) (fun _ hk => hk.2) (.int .i64 t963)) (fun _ hk => hk.2) (.int .i64 t964)) (fun _ hk => hk.2) (.slice Ao124 t965.length co124)) (fun _ h_ => h_.1)))); (case side2 => exact (Kd.R_reads' HO967.out).2.1); (case side3 => refine (Kd.R_reads' (e := 73) (base := w.heap.size) (ok := fun k_ => (((some k_ ≠ (.slice Ao30 t953.length co30 : Value).ownBlock ∧ some k_ ≠ (.slice Ao37 t940.length co37 : Value).ownBlock) ∧ some k_ ≠ (.slice Ao116 t960.length co116 : Value).ownBlock) ∧ some k_ ≠ (.slice Ao124 t965.length co124 : Value).ownBlock)) (n := t927.length) (c := co23) ?_).2.2; exact (by (with_reducible repeat (first | apply Kd.R_alloc | apply Kd.R_drewN | apply Kd.R_drew)); exact (Kd.R_mono (Kd.R_far (p := ⟨gb969, 2, none⟩) (Kd.R_far (p := ⟨gb969, 1, none⟩) (Kd.R_far (p := ⟨gb969, 0, none⟩) (Kd.R_types HO_932002.out BK969.out (by decide)) (fun _ hk => hk.2) (.int .i64 t963)) (fun _ hk => hk.2) (.int .i64 t964)) (fun _ hk => hk.2) (.slice Ao124 t965.length co124)) (fun _ h_ => h_.1)))); (case side4 => exact (Kd.R_reads' HO_932002.out).2.1); rintro e w136 ⟨rfl, hb⟩; refine ⟨_, rfl, ?_⟩; refine E11 (Kd.R_below (by (with_reducible repeat (first | apply Kd.R_alloc | apply Kd.R_drewN | apply Kd.R_drew)); exact (Kd.R_mono (Kd.R_far (p := ⟨gb969, 2, none⟩) (Kd.R_far (p := ⟨gb969, 1, none⟩) (Kd.R_far (p := ⟨gb969, 0, none⟩) (Kd.R_types HO_932002.out BK969.out (by decide)) (fun _ hk => hk.2) (.int .i64 t963)) (fun _ hk => hk.2) (.int .i64 t964)) (fun _ hk => hk.2) (.slice Ao124 t965.length co124)) (fun _ h_ => h_.1))) hb) (Kd.R_below (by (with_reducible repeat (first | apply Kd.R_alloc | apply Kd.R_drewN | apply Kd.R_drew)); exact (Kd.R_mono (Kd.R_far (p := ⟨gb969, 2, none⟩) (Kd.R_far (p := ⟨gb969, 1, none⟩) (Kd.R_far (p := ⟨gb969, 0, none⟩) (Kd.R_types HO_938002.out BK969.out (by decide)) (fun _ hk => hk.2) (.int .i64 t963)) (fun _ hk => hk.2) (.int .i64 t964)) (fun _ hk => hk.2) (.slice Ao124 t965.length co124)) (fun _ h_ => h_.1))) hb) (Kd.R_below (by (with_reducible repeat (first | apply Kd.R_alloc | apply Kd.R_drewN | apply Kd.R_drew)); exact (Kd.R_mono (Kd.R_far (p := ⟨gb969, 2, none⟩) (Kd.R_far (p := ⟨gb969, 1, none⟩) (Kd.R_far (p := ⟨gb969, 0, none⟩) (Kd.R_types HO_945002.out BK969.out (by decide)) (fun _ hk => hk.2) (.int .i64 t963)) (fun _ hk => hk.2) (.int .i64 t964)) (fun _ hk => hk.2) (.slice Ao124 t965.length co124)) (fun _ h_ => h_.1))) hb) (Kd.R_below (by (with_reducible repeat (first | apply Kd.R_alloc | apply Kd.R_drewN | apply Kd.R_drew)); exact (Kd.R_mono (Kd.R_far (p := ⟨gb969, 2, none⟩) (Kd.R_far (p := ⟨gb969, 1, none⟩) (Kd.R_far (p := ⟨gb969, 0, none⟩) (Kd.R_types HO962.out BK969.out (by decide)) (fun _ hk => hk.2) (.int .i64 t963)) (fun _ hk => hk.2) (.int .i64 t964)) (fun _ hk => hk.2) (.slice Ao124 t965.length co124)) (fun _ h_ => h_.1))) hb) (Kd.R_below (by (with_reducible repeat (first | apply Kd.R_alloc | apply Kd.R_drewN | apply Kd.R_drew)); exact (Kd.R_mono (Kd.R_far (p := ⟨gb969, 2, none⟩) (Kd.R_far (p := ⟨gb969, 1, none⟩) (Kd.R_far (p := ⟨gb969, 0, none⟩) (Kd.R_types HO967.out BK969.out (by decide)) (fun _ hk => hk.2) (.int .i64 t963)) (fun _ hk => hk.2) (.int .i64 t964)) (fun _ hk => hk.2) (.slice Ao124 t965.length co124)) (fun _ h_ => h_.1))) hb) (blk_below (g := gb918) (o := .cells #[.int .i64 a0_0, .int .i64 a0_1, .slice A0_2 l0_2.length c0_2] 24 (0, 0)) (by (with_reducible repeat (first | refine blk_drewN ?_ _ | refine blk_drew ?_ | refine blk_alloc ?_ _)); refine blk_far ?_ NB918_969.out _; (with_reducible repeat (first | refine blk_drewN ?_ _ | refine blk_drew ?_ | refine blk_alloc ?_ _)); refine blk_far ?_ NB918_969.out _; (with_reducible repeat (first | refine blk_drewN ?_ _ | refine blk_drew ?_ | refine blk_alloc ?_ _)); refine blk_far ?_ NB918_969.out _; (with_reducible repeat (first | refine blk_drewN ?_ _ | refine blk_drew ?_ | refine blk_alloc ?_ _)); exact BK918.out) hb) (blk_below (g := gb931) (o := .cells #[.int .i64 t925, .int .i64 t926, .slice Ao23 t927.length co23] 30 (0, 0)) (by (with_reducible repeat (first | refine blk_drewN ?_ _ | refine blk_drew ?_ | refine blk_alloc ?_ _)); refine blk_far ?_ NB931_969.out _; (with_reducible repeat (first | refine blk_drewN ?_ _ | refine blk_drew ?_ | refine blk_alloc ?_ _)); refine blk_far ?_ NB931_969.out _; (with_reducible repeat (first | refine blk_drewN ?_ _ | refine blk_drew ?_ | refine blk_alloc ?_ _)); refine blk_far ?_ NB931_969.out _; (with_reducible repeat (first | refine blk_drewN ?_ _ | refine blk_drew ?_ | refine blk_alloc ?_ _)); exact BK931.out) hb) (blk_below (g := gb937) (o := .cells #[.int .i64 t932, .int .i64 t933, .slice Ao30 t953.length co30] 30 (0, 0)) (by (with_reducible repeat (first | refine blk_drewN ?_ _ | refine blk_drew ?_ | refine blk_alloc ?_ _)); refine blk_far ?_ NB937_969.out _; (with_reducible repeat (first | refine blk_drewN ?_ _ | refine blk_drew ?_ | refine blk_alloc ?_ _)); refine blk_far ?_ NB937_969.out _; (with_reducible repeat (first | refine blk_drewN ?_ _ | refine blk_drew ?_ | refine blk_alloc ?_ _)); refine blk_far ?_ NB937_969.out _; (with_reducible repeat (first | refine blk_drewN ?_ _ | refine blk_drew ?_ | refine blk_alloc ?_ _)); exact BK937.out) hb) (blk_below (g := gb944) (o := .cells #[.int .i64 t938, .int .i64 t939, .slice Ao37 t940.length co37] 30 (0, 0)) (by (with_reducible repeat (first | refine blk_drewN ?_ _ | refine blk_drew ?_ | refine blk_alloc ?_ _)); refine blk_far ?_ NB944_969.out _; (with_reducible repeat (first | refine blk_drewN ?_ _ | refine blk_drew ?_ | refine blk_alloc ?_ _)); refine blk_far ?_ NB944_969.out _; (with_reducible repeat (first | refine blk_drewN ?_ _ | refine blk_drew ?_ | refine blk_alloc ?_ _)); refine blk_far ?_ NB944_969.out _; (with_reducible repeat (first | refine blk_drewN ?_ _ | refine blk_drew ?_ | refine blk_alloc ?_ _)); exact BK944.out) hb) (blk_below (g := gb969) (o := .cells #[.int .i64 t963, .int .i64 t964, .slice Ao124 t965.length co124] 30 (0, 0)) (by (with_reducible repeat (first | refine blk_drewN ?_ _ | refine blk_drew ?_ | refine blk_alloc ?_ _)); refine blk_put (cs := #[.int .i64 t963, .int .i64 t964, .slice none 0 0]) ?_ 2 _ rfl; (with_reducible repeat (first | refine blk_drewN ?_ _ | refine blk_drew ?_ | refine blk_alloc ?_ _)); refine blk_put (cs := #[.int .i64 t963, .int .i64 0, .slice none 0 0]) ?_ 1 _ rfl; (with_reducible repeat (first | refine blk_drewN ?_ _ | refine blk_drew ?_ | refine blk_alloc ?_ _)); refine blk_put (cs := #[.int .i64 0, .int .i64 0, .slice none 0 0]) ?_ 0 _ rfl; (with_reducible repeat (first | refine blk_drewN ?_ _ | refine blk_drew ?_ | refine blk_alloc ?_ _)); exact BK969.out) hb) (below_step (BL HB.out) hb) ?_; clear HO_932002 HO_938002 HO_945002 HO962 HO967 BK918 BK931 BK937 BK944 BK969 HB; intro HO_932002 HO_938002 HO_945002 HO962 HO967 BK918 BK931 BK937 BK944 BK969 HB; (try clear hb); (try clear hb2); (try clear hk); (try clear hi)))
        go_meet
        case rel => exact ⟨_, ((t968 != t930)), RG, H', ⟨by have := HJ11.out; have := HJ60.out; first | omega | exact Nat.le_refl _⟩, ⟨by (try simp only [hl938002_60]); (with_reducible repeat (first | apply Kd.R_alloc | apply Kd.R_drewN | apply Kd.R_drew)); exact Kd.R_mono HO_932002.out (fun _ hk => ⟨hk.1.1.1, ⟨hk.1.1.2, hk.2⟩⟩)⟩, ⟨by (try simp only [hl938002_60]); (with_reducible repeat (first | apply Kd.R_alloc | apply Kd.R_drewN | apply Kd.R_drew)); exact Kd.R_mono HO_938002.out (fun _ hk => ⟨hk.1.1.1, ⟨hk.1.1.2, hk.2⟩⟩)⟩, ⟨by (try simp only [hl938002_60]); (with_reducible repeat (first | apply Kd.R_alloc | apply Kd.R_drewN | apply Kd.R_drew)); exact Kd.R_mono HO_945002.out (fun _ hk => ⟨hk.1.1.1, ⟨hk.1.1.2, hk.2⟩⟩)⟩, ⟨by (try simp only [hl938002_60]); (with_reducible repeat (first | apply Kd.R_alloc | apply Kd.R_drewN | apply Kd.R_drew)); exact Kd.R_mono HO967.out (fun _ hk => ⟨hk.1.1.1.2, ⟨hk.1.1.2, hk.1.2⟩⟩)⟩, ⟨PB1 BK918.out hl938002_60⟩, ⟨PB1 BK931.out hl938002_60⟩, ⟨PB1 BK937.out hl938002_60⟩, ⟨PB1 BK944.out hl938002_60⟩, ⟨PB1 BK969.out hl938002_60⟩, ⟨BL HB.out⟩⟩
      replace c126 := Bool.eq_false_iff.mpr c126
      subst c126
      have H1 : (laws_FnExactBoardInState.j2 kj60 t955 true t938 t939 t956) = some true := by rw [if_neg (show ¬ (false = true) by decide)] at H; exact H
      exact absurd H1 (by cases kj60 <;> simp [laws_FnExactBoardInState.j2])
    clear HC104
    try clear c90; try clear c93b0; try clear c101b0; try clear c101b1; try clear hcz108_0; try clear hcz108_1; try clear hcz108_2; try clear hcz110_0; try clear hcz110_1; try clear hcz110_2; try clear hcz114_0; try clear hcz114_1; try clear hcz114_2; try clear hcz123_0; try clear hcz123_1; try clear hcz123_2; try clear hfz108_0; try clear hfz108_1; try clear hfz108_2; try clear hfz110_0; try clear hfz110_1; try clear hfz110_2; try clear hfz114_0; try clear hfz114_1; try clear hfz114_2; try clear hfz123_0; try clear hfz123_1; try clear hfz123_2
    obtain ⟨kq, x92_103, rfl, HA, HJ103, HO_932002, HO_938002, HO_945002, HO_970002, BK918, BK931, BK937, BK944, BK969, HB⟩ := hcut
    have hl945002_103 := (Kd.R_reads' HO_945002.out).1
    rw [hl945002_103] at HO_945002
    (try simp only [hl945002_103])
    (try simp only [hl945002_103] at BK918)
    (try simp only [hl945002_103] at BK931)
    (try simp only [hl945002_103] at BK937)
    (try simp only [hl945002_103] at BK944)
    (try simp only [hl945002_103] at BK969)
    (try simp only [hl945002_103] at HO_932002)
    (try simp only [hl945002_103] at HO_938002)
    (try simp only [hl945002_103] at HO_970002)
    cases kq with
    | zero => exact absurd HA.out (by simp [laws_FnExactBoardInState.j2])
    | succ kj103 => ?_
    have H := HA.out
    clear HA
    simp only [laws_FnExactBoardInState.j2] at H
    by_cases c147 : x92_103 = true
    · subst c147
      have H1 : (some false) = some true := by rw [if_pos rfl] at H; exact H
      exact absurd H1 (by simp)
    replace c147 := Bool.eq_false_iff.mpr c147
    subst c147
    have H1 : ((laws_heldBoard.f kj103 t938 t939 t956 1).bind fun t971 => (if t971 < 0 then (some false) else (if t971 = t955 then (some true) else (some false)))) = some true := by rw [if_neg (show ¬ (false = true) by decide)] at H; exact H
    clear H
    have H := H1
    clear H1
    replace H := bindA H; obtain ⟨t971, A148, H⟩ := H
    replace H := ifQ H; rcases H with ⟨c149, H⟩ | ⟨c149, H⟩
    · exact absurd H (by simp)
    have c149b0 := decide_eq_false c149
    clear c149
    first | replace H := ifP H | replace H := ifPf H
    obtain ⟨c156, H⟩ := H
    have c156b0 := beq_iff_eq.mpr c156
    have c156b1 := bne_eq_false_iff_eq.mpr c156
    clear c156
    first | (obtain rfl := Option.some.inj H) | clear H
    have hnb157 := NB944_918.out
    have hnc157 := NB918_944.out
    have hnb158 := NB944_931.out
    have hnc158 := NB931_944.out
    have hnb159 := NB944_937.out
    have hnc159 := NB937_944.out
    have hnb160 := NB944_969.out
    have hnc160 := NB969_944.out
    obtain ⟨hcz161_0, hcz161_1, hcz161_2, hfz161_0, hfz161_1, hfz161_2⟩ := cz3 BK944.out
    go_wp2_with (first | ((with_reducible refine gate_callee (f := 28) rfl ?_); refine goesM (N := (some 95)) #[.agg #[.int .i64 t938, .int .i64 t939, .slice Ao37 t956.length co37], .int .i64 1] Try.func28 ?_; (with_reducible refine (laws_heldBoard.calls kj103 t938 t939 _ _ t956 1 t971 _ ?side1 ?side2 A148.out).mono ?_); (case side1 => repeat (first | exact (Kd.R_reads' HO_945002.out).2.2 | (with_reducible refine Kd.C_alloc ?_ _) | (with_reducible refine Kd.C_drewN ?_ _) | (with_reducible refine Kd.C_drew ?_))); (case side2 => exact (Kd.R_reads' HO_945002.out).2.1); rintro e w162 ⟨rfl, hb⟩; refine ⟨_, rfl, ?_⟩; refine E10 (Kd.R_below (PR HO_932002.out) hb) (Kd.R_below (PR HO_938002.out) hb) (Kd.R_below (PR HO_945002.out) hb) (Kd.R_below (PR HO_970002.out) hb) (bB BK918.out hb) (bB BK931.out hb) (bB BK937.out hb) (bB BK944.out hb) (bB BK969.out hb) (below_step (BL HB.out) hb) ?_; clear HO_932002 HO_938002 HO_945002 HO_970002 BK918 BK931 BK937 BK944 BK969 HB; intro HO_932002 HO_938002 HO_945002 HO_970002 BK918 BK931 BK937 BK944 BK969 HB; (try clear hb); (try clear hb2); (try clear hk); (try clear hi)))
    go_ret
    exact ⟨RF, BL HB.out⟩
  replace c59 := Bool.eq_false_iff.mpr c59
  subst c59
  have H1 : (some false) = some true := by rw [if_neg (show ¬ (false = true) by decide)] at H; exact H
  exact absurd H1 (by simp)
end Go.Proofs.Ytakihdabbpconaa.P
