-- PRINTED by print.py (a twelfth state) out of the translation. Not trusted: Lean checks it.
import Derived.Test.YtgekdgggpfiamaaPx0
import Derived.Test.YtgekdgggpfiamaaPx1
import Derived.Test.YtgekdgggpfiamaaPx2
namespace Go.Proofs.Ytgekdgggpfiamaa.P
open Go.RowKit Go.Proofs.YtgekdgggpfiamaaW.PrintWords Go.Proofs.YtgekdgggpfiamaaW.PrintLast Go.Proofs.YtgekdgggpfiamaaW.PrintMore
attribute [local go_sem] max2_int min2_int max_two min_two max_three min_three max_four min_four   -- for this text's walks alone
set_option linter.unusedVariables false
set_option linter.unusedSimpArgs false
set_option maxHeartbeats 8000000
set_option maxRecDepth 100000

/-! ### spec_FixInput: function 16 -/
open Kd
mutual
def spec_FixInput.j0 : Nat -> Int -> Int -> Bool -> Int -> List Int -> Option (Int × List Int × Bool)
 | 0, _, _, _, _, _ => none
 | k + 1, x1, x2, x19, x214000, x214001 => if x19 = true then (some (0, ([] : List Int), false)) else (spec_FixInput.l0 k x1 x2 x214001 (x214001.length : Int) 0 (wrap64 (x214000 - 1)) ([] : List Int))
def spec_FixInput.l0 : Nat -> Int -> Int -> List Int -> Int -> Int -> Int -> List Int -> Option (Int × List Int × Bool)
 | 0, _, _, _, _, _, _, _ => none
 | k + 1, x1, x2, x26, x27, x28, x218000, x218001 => if x28 < x27 then (if 0 <= x28 then (if x28 < (x26.length : Int) then ((spec_ttBit.f x28 x1).bind fun t219 => (if t219 = x2 then (if x218001.length < 17592186044416 then (spec_FixInput.l0 k x1 x2 x26 x27 (wrap64 (x28 + 1)) x218000 (x218001 ++ [rd x26 x28])) else (none)) else (spec_FixInput.l0 k x1 x2 x26 x27 (wrap64 (x28 + 1)) x218000 x218001))) else (none)) else (none)) else (some (x218000, x218001, true))
end
def spec_FixInput.f (k : Nat) (a0_0 : Int) (l0_1 : List Int) (a1 : Int) (a2 : Int) : Option (Int × List Int × Bool) := (spec_ttHas.f k a0_0 l0_1 a1).bind fun t215 => (if t215 = true then ((spec_l1In.f a2 0 1).bind fun t216 => (spec_FixInput.j0 k a1 a2 (!t216) a0_0 l0_1)) else (spec_FixInput.j0 k a1 a2 true a0_0 l0_1))
theorem spec_FixInput.mono_l : ∀ k, (∀ y0 y1 y2 y3 y4, LeO (spec_FixInput.j0 k y0 y1 y2 y3 y4) (spec_FixInput.j0 (k + 1) y0 y1 y2 y3 y4)) /\ (∀ y0 y1 y2 y3 y4 y5 y6, LeO (spec_FixInput.l0 k y0 y1 y2 y3 y4 y5 y6) (spec_FixInput.l0 (k + 1) y0 y1 y2 y3 y4 y5 y6))
 | 0 => by refine ⟨?_, ?_⟩ <;> (intros; intro r h; first | (simp [spec_FixInput.j0] at h; done) | (simp [spec_FixInput.l0] at h; done))
 | k + 1 => by
  obtain ⟨ih0, ih1⟩ := spec_FixInput.mono_l k
  refine ⟨?_, ?_⟩ <;> (
   intros
   first | unfold spec_FixInput.j0 | unfold spec_FixInput.l0
   exact LM3 ih0 ih1 spec_ttHas.mono)
theorem spec_FixInput.mono : ∀ a0 a1 a2 a3 k, LeO (spec_FixInput.f k a0 a1 a2 a3) (spec_FixInput.f (k + 1) a0 a1 a2 a3) := by
 intro a0 a1 a2 a3 k
 obtain ⟨ih0, ih1⟩ := spec_FixInput.mono_l k
 unfold spec_FixInput.f
 exact LM3 ih0 ih1 spec_ttHas.mono
theorem spec_FixInput.calls (k : Nat) (a0_0 : Int) (A0_1 : Option Addr) (c0_1 : Nat) (l0_1 : List Int) (a1 : Int) (a2 : Int) (r1 : Int) (r2 : List Int) (r3 : Bool) (w : World) (hr0_1 : Kd.C (Kd.int .i64) w A0_1 l0_1.length l0_1) (hc0_1 : l0_1.length <= c0_1) (h : spec_FixInput.f k a0_0 l0_1 a1 a2 = some (r1, r2, r3)) :
 Calls Try.prog 16 #[.agg #[.int .i64 a0_0, .slice A0_1 l0_1.length c0_1], .int .i64 a1, .int .i64 a2] w fun e w' => ∃ v1_ : Value, e = .returned (.tuple #[.agg #[.int .i64 r1, v1_], .bool r3]) /\ Kd.R (Kd.int .i64) 3 w' w.heap.size (fun _ => True) v1_ r2 /\ Below w.heap.size w w' := by
 have hu28 := Try.underlying28
 have HR0_1 := Aside0.mk hr0_1
 have HC0_1 := Aside0.mk hc0_1
 clear hr0_1 hc0_1
 have HB := Aside0.mk (Below.refl w.heap.size w)
 have H := h
 clear h
 unfold spec_FixInput.f at H
 have HC4 := Aside0.mk H
 clear H
 go_enter Try.func16, Try.ntmps16
 go_upto_region 1 with (first | ((with_reducible refine gate_dst (N := 3) rfl ?_); refine boxE (cs := #[.int .i64 a0_0, .slice A0_1 l0_1.length c0_1]) (t := 28) ?_; intro gb213 hg w5 hbox hb; refine E4b HB.1 hg hbox hb ?_; clear HB; intro HB BK213 GW213 GE213; clear hb hbox hg) | ((with_reducible refine gate_dst (N := 6) rfl ?_); refine boxE (cs := #[.int .i64 0, .slice none 0 0]) (t := 28) ?_; intro gb214 hg w6 hbox hb; refine E7 (bB BK213.1 hb) (bS HB.1 hb) (hbox) (gX HB.1 hg) (gX HB.1 hg) (nB BK213.1 hg) (nC BK213.1 hg) ?_; clear BK213 HB; intro BK213 HB BK214 GW214 GE214 NB213_214 NB214_213; clear hb hbox hg))
 (try simp only [Act.put, List.setIfInBounds_toArray, List.set_cons_zero, List.set_cons_succ])
 go_cut [19] (fun v19 wc => ∃ (kq : Nat) (x19_3 : Bool), v19 = .bool x19_3 /\ Aside0 (spec_FixInput.j0 kq a1 a2 x19_3 a0_0 l0_1 = some (r1, r2, r3)) /\ Aside0 (kq <= k) /\ Aside0 (wc.heap[gb213]? = some (.cells #[.int .i64 a0_0, (.slice A0_1 l0_1.length c0_1)] 28 (0, 0))) /\ Aside0 (wc.heap[gb214]? = some (.cells #[.int .i64 0, (.slice none 0 0)] 28 (0, 0))) /\ Aside0 (Below w.heap.size w wc))
 case first =>
  have H := HC4.1
  clear HC4
  replace H := bindA H; obtain ⟨t215, A7, H⟩ := H
  replace H := ifX H; rcases H with ⟨rfl, H⟩ | ⟨rfl, H⟩
  · replace H := bindA H; obtain ⟨t216, A9, H⟩ := H
    have H' := Aside0.mk H
    clear H
    have hnb10 := NB213_214.1
    have hnc10 := NB214_213.1
    obtain ⟨hcz11_0, hcz11_1, hfz11_0, hfz11_1⟩ := cz2 BK213.1
    go_wp2_with (first | ((with_reducible refine gate_callee (f := 46) rfl ?_); refine goesM (N := (some 13)) #[.agg #[.int .i64 a0_0, .slice A0_1 l0_1.length c0_1], .int .i64 a1] Try.func46 ?_; (with_reducible refine (spec_ttHas.calls k a0_0 _ _ l0_1 a1 true _ ?side1 ?side2 A7.1).mono ?_); (case side1 => exact CB (C_below HR0_1.1 HB.1)); (case side2 => exact HC0_1.1); rintro e w12 ⟨rfl, hb⟩; refine ⟨_, rfl, ?_⟩; refine E3 (bB BK213.1 hb) (bB BK214.1 hb) (bS HB.1 hb) ?_; clear BK213 BK214 HB; intro BK213 BK214 HB; (try clear hb)) | (go_at_call 47; (with_reducible refine (spec_l1In.calls a2 0 1 t216 _ A9.1).mono ?_); rintro e w' ⟨rfl, ⟨nd, rfl⟩⟩))
    go_meet
    case rel => exact ⟨_, (!t216), RG, H', ⟨by first | omega | exact Nat.le_refl _⟩, ⟨PB BK213.1⟩, ⟨PB BK214.1⟩, ⟨BL HB.1⟩⟩
  have H' := Aside0.mk H
  clear H
  have hnb13 := NB213_214.1
  have hnc13 := NB214_213.1
  obtain ⟨hcz14_0, hcz14_1, hfz14_0, hfz14_1⟩ := cz2 BK213.1
  go_wp2_with (first | ((with_reducible refine gate_callee (f := 46) rfl ?_); refine goesM (N := (some 13)) #[.agg #[.int .i64 a0_0, .slice A0_1 l0_1.length c0_1], .int .i64 a1] Try.func46 ?_; (with_reducible refine (spec_ttHas.calls k a0_0 _ _ l0_1 a1 false _ ?side1 ?side2 A7.1).mono ?_); (case side1 => exact CB (C_below HR0_1.1 HB.1)); (case side2 => exact HC0_1.1); rintro e w15 ⟨rfl, hb⟩; refine ⟨_, rfl, ?_⟩; refine E3 (bB BK213.1 hb) (bB BK214.1 hb) (bS HB.1 hb) ?_; clear BK213 BK214 HB; intro BK213 BK214 HB; (try clear hb)))
  go_meet
  case rel => exact ⟨_, (true), RG, H', ⟨by first | omega | exact Nat.le_refl _⟩, ⟨PB BK213.1⟩, ⟨PB BK214.1⟩, ⟨BL HB.1⟩⟩
 clear HC4
 obtain ⟨kq, x19_3, rfl, HA, HJ3, BK213, BK214, HB⟩ := hcut
 cases kq with
 | zero => exact absurd HA.1 (by simp [spec_FixInput.j0])
 | succ kj3 => ?_
 have H := HA.1
 clear HA
 simp only [spec_FixInput.j0] at H
 replace H := ifX H; rcases H with ⟨rfl, H⟩ | ⟨rfl, H⟩
 · simp only [Option.some.injEq, Prod.mk.injEq] at H
   obtain ⟨rfl, rfl, rfl⟩ := H
   have hnb17 := NB214_213.1
   have hnc17 := NB213_214.1
   obtain ⟨hcz18_0, hcz18_1, hfz18_0, hfz18_1⟩ := cz2 BK214.1
   go_wp2
   refine bodyPost_ret (results_ct rfl _ _ gb214 28 #[.int .i64 0, .slice none 0 0] (0, 0) _ rfl (PF0 BK214.1) Try.underlying28 rfl (by kernel_rfl)) rfl ?_
   exact ⟨_, RF, by first | exact R_nil _ _ _ _ _ | exact N_nil _ _ _ _ _ | exact V_nil _ _ _ _ _ | exact Q_nil _ _ _ _ _ | exact S_nil _ _ _ _ _, BL HB.1⟩
 have H' := Aside0.mk H
 clear H
 have hnb19 := NB213_214.1
 have hnc19 := NB214_213.1
 obtain ⟨hcz20_0, hcz20_1, hfz20_0, hfz20_1⟩ := cz2 BK213.1
 go_wp2_with (first | ((with_reducible refine gate_dst (N := 8) rfl ?_); refine boxE (cs := #[.int .i64 0, .slice none 0 0]) (t := 28) ?_; intro gb217 hg w21 hbox hb; refine E10 (bB BK213.1 hb) (bB BK214.1 hb) (bS HB.1 hb) (hbox) (gX HB.1 hg) (gX HB.1 hg) (nB BK213.1 hg) (nC BK213.1 hg) (nB BK214.1 hg) (nC BK214.1 hg) ?_; clear BK213 BK214 HB; intro BK213 BK214 HB BK217 GW217 GE217 NB213_217 NB217_213 NB214_217 NB217_214; clear hb hbox hg; have hnb22 := NB217_213.1; have hnc22 := NB213_217.1; have hnb23 := NB217_214.1; have hnc23 := NB214_217.1; obtain ⟨hcz24_0, hcz24_1, hfz24_0, hfz24_1⟩ := cz2 BK217.1; obtain ⟨hcz25_0, hcz25_1, hfz25_0, hfz25_1⟩ := cz2 BK213.1))
 go_loopg [28] kj3 (fun kq v28 w' => ∃ (x28_2 : Int) (x218001_2 : List Int) (u218001 : Value), v28 = .int .i64 x28_2 /\ Aside0 (spec_FixInput.l0 kq a1 a2 l0_1 (l0_1.length : Int) x28_2 (wrap64 (a0_0 - 1)) x218001_2 = some (r1, r2, r3)) /\ Aside0 (kq <= kj3) /\ Aside0 (Kd.R (Kd.int .i64) 3 w' w.heap.size (fun _ => True) u218001 x218001_2) /\ Aside0 (w'.heap[gb213]? = some (.cells #[.int .i64 a0_0, (.slice A0_1 l0_1.length c0_1)] 28 (0, 0))) /\ Aside0 (w'.heap[gb214]? = some (.cells #[.int .i64 0, (.slice none 0 0)] 28 (0, 0))) /\ Aside0 (w'.heap[gb217]? = some (.cells #[.int .i64 (wrap64 (a0_0 - 1)), u218001] 28 (0, 0))) /\ Aside0 (Below w.heap.size w w'))
 case atStart => exact ⟨(0), (([] : List Int)), (.slice none 0 0), RG, H', ⟨Nat.le_refl _⟩, ⟨by first | exact R_nil _ _ _ _ _ | exact N_nil _ _ _ _ _ | exact V_nil _ _ _ _ _ | exact Q_nil _ _ _ _ _ | exact S_nil _ _ _ _ _⟩, ⟨by (with_reducible repeat (first | refine blk_drewN ?_ _ | refine blk_drew ?_ | refine blk_alloc ?_ _)); refine blk_far ?_ NB213_217.1 _; (with_reducible repeat (first | refine blk_drewN ?_ _ | refine blk_drew ?_ | refine blk_alloc ?_ _)); refine blk_far ?_ NB213_217.1 _; (with_reducible repeat (first | refine blk_drewN ?_ _ | refine blk_drew ?_ | refine blk_alloc ?_ _)); exact BK213.1⟩, ⟨by (with_reducible repeat (first | refine blk_drewN ?_ _ | refine blk_drew ?_ | refine blk_alloc ?_ _)); refine blk_far ?_ NB214_217.1 _; (with_reducible repeat (first | refine blk_drewN ?_ _ | refine blk_drew ?_ | refine blk_alloc ?_ _)); refine blk_far ?_ NB214_217.1 _; (with_reducible repeat (first | refine blk_drewN ?_ _ | refine blk_drew ?_ | refine blk_alloc ?_ _)); exact BK214.1⟩, ⟨by (with_reducible repeat (first | refine blk_drewN ?_ _ | refine blk_drew ?_ | refine blk_alloc ?_ _)); refine blk_put (cs := #[.int .i64 (wrap64 (a0_0 - 1)), .slice none 0 0]) ?_ 1 _ rfl; (with_reducible repeat (first | refine blk_drewN ?_ _ | refine blk_drew ?_ | refine blk_alloc ?_ _)); refine blk_put (cs := #[.int .i64 0, .slice none 0 0]) ?_ 0 _ rfl; (with_reducible repeat (first | refine blk_drewN ?_ _ | refine blk_drew ?_ | refine blk_alloc ?_ _)); exact BK217.1⟩, ⟨BL HB.1⟩⟩
 clear H'
 clear hcz20_0 hcz20_1 hcz24_0 hcz24_1 hcz25_0 hcz25_1 hfz20_0 hfz20_1 hfz24_0 hfz24_1 hfz25_0 hfz25_1
 obtain ⟨x28_2, x218001_2, u218001, rfl, HA, HK2, HO_218001, BK213, BK214, BK217, HB⟩ := hrel
 cases gk with
 | zero => exact absurd HA.1 (by simp [spec_FixInput.l0])
 | succ k2 => ?_
 have H := HA.1
 clear HA
 simp only [spec_FixInput.l0] at H
 replace H := ifB H; rcases H with ⟨c26b0, H⟩ | ⟨c26b0, H⟩
 · replace H := ifN H; obtain ⟨c27b0, H⟩ := H
   replace H := ifN H; obtain ⟨c28b0, H⟩ := H
   replace H := bindA H; obtain ⟨t219, A29, H⟩ := H
   replace H := ifQ H; rcases H with ⟨c30, H⟩ | ⟨c30, H⟩
   · have c30b0 := beq_iff_eq.mpr c30
     have c30b1 := bne_eq_false_iff_eq.mpr c30
     clear c30
     replace H := ifP H; obtain ⟨c31, H⟩ := H
     have LMc31 := Aside0.mk c31
     clear c31
     generalize hy220 : ((x218001_2 ++ [rd l0_1 x28_2]) : List Int) = y220 at H
     have Ny220 := Aside0.mk hy220.symm; clear hy220
     have H' := Aside0.mk H
     clear H
     have p218 : 0 <= (x28_2 : Int) := OD
     have q218 : x28_2 < (l0_1.length : Int) := OD
     obtain ⟨ad218, e218, hx218_0⟩ := Kd.at_int HR0_1.1 x28_2 p218 q218
     cases e218
     replace hx218_0 := (HB.1.cell (World.block_lt_of_cell? w _ hx218_0)).trans hx218_0
     replace p218 := eq_true p218
     replace q218 := eq_true q218
     go_wp2_with (first | ((with_reducible refine gate_callee (f := 48) rfl ?_); refine goesM (N := (some 35)) #[.int .i64 x28_2, .int .i64 a1] Try.func48 ?_; (with_reducible refine (spec_ttBit.calls x28_2 a1 t219 _ A29.1).mono ?_); rintro e w' ⟨rfl, ⟨nd, rfl⟩⟩; refine ⟨_, rfl, ?_⟩; (try (rw [drewN_self wr]; generalize hq_ : World.drewN wr _ = wr; have n0_ : Aside0 (Kd.R (Kd.int .i64) 3 wr w.heap.size (fun _ => True) u218001 x218001_2) := ⟨by rw [<- hq_]; exact (PR HO_218001.1)⟩; have n1_ : Aside0 (wr.heap[gb213]? = some (.cells #[.int .i64 a0_0, .slice (some ad218) l0_1.length c0_1] 28 (0, 0))) := ⟨by rw [<- hq_]; exact (PB BK213.1)⟩; have n2_ : Aside0 (wr.heap[gb214]? = some (.cells #[.int .i64 0, .slice none 0 0] 28 (0, 0))) := ⟨by rw [<- hq_]; exact (PB BK214.1)⟩; have n3_ : Aside0 (wr.heap[gb217]? = some (.cells #[.int .i64 (wrap64 (a0_0 - 1)), u218001] 28 (0, 0))) := ⟨by rw [<- hq_]; exact (PB BK217.1)⟩; have n4_ : Aside0 (Below w.heap.size w wr) := ⟨by rw [<- hq_]; exact (BL HB.1)⟩; clear HO_218001 BK213 BK214 BK217 HB hq_; have HO_218001 := n0_; have BK213 := n1_; have BK214 := n2_; have BK217 := n3_; have HB := n4_; clear n0_ n1_ n2_ n3_ n4_)); have hnb32 := NB217_213.1; have hnc32 := NB213_217.1; have hnb33 := NB217_214.1; have hnc33 := NB214_217.1; obtain ⟨hcz34_0, hcz34_1, hfz34_0, hfz34_1⟩ := cz2 BK217.1) | ((with_reducible refine gate_builtin (b := .append) (xs := #[.tmp 39, .tmp 41]) rfl ?_); at_builtin; refine R_append (Kd.int .i64) (w0 := w) w.heap.size rfl (.tmp 39) (.tmp 41) 22 3 (.int .i64 0) 8 rfl Try.underlying22 info3 rfl (by decide) (by omega) u218001 x218001_2 (rd l0_1 x28_2) [.int .i64 (rd l0_1 x28_2)] (fun _ => True) (fun _ => False) rfl rfl ?aP (fun _ hk => hk.elim) ?aF ?aO ?aB ?aS ?aL ?_; (case aP => exact rfl); (case aB => exact (BL HB.1)); (case aF => exact (fun _ _ => trivial)); (case aO => exact (PR HO_218001.1)); (case aS => exact (bZ HB.1)); (case aL => have := LMc31.1; omega); intro v221 w35 ho hb hg hat; rw [<- Ny220.1] at ho; refine E5 (bG BK213.1 hg (R_ne HO_218001.1 BK213.1 (by decide))) (bG BK214.1 hg (R_ne HO_218001.1 BK214.1 (by decide))) (bG BK217.1 hg (R_ne HO_218001.1 BK217.1 (by decide))) (hb) (ho) ?_; clear BK213 BK214 BK217 HB HO_218001; intro BK213 BK214 BK217 HB HO222; clear ho hb hg hat; obtain ⟨Ao36, co36, eo36⟩ := R_slice HO222.1; subst eo36; obtain ⟨hcz37_0, hcz37_1, hfz37_0, hfz37_1⟩ := cz2 BK217.1))
     go_roundg k2
     case measure => have := HJ3.1; have := HK2.1; omega
     case rel => exact ⟨(wrap64 (x28_2 + 1)), (y220), (.slice Ao36 y220.length co36), RG, H', ⟨by have := HJ3.1; have := HK2.1; omega⟩, ⟨by (with_reducible repeat (first | apply R_alloc | apply R_drewN | apply R_drew)); exact R_mono (RQ gb217 1 (R_types HO222.1 BK217.1 (by decide)) _) (fun _ hk => trivial)⟩, ⟨by (with_reducible repeat (first | refine blk_drewN ?_ _ | refine blk_drew ?_ | refine blk_alloc ?_ _)); refine blk_far ?_ NB213_217.1 _; (with_reducible repeat (first | refine blk_drewN ?_ _ | refine blk_drew ?_ | refine blk_alloc ?_ _)); exact BK213.1⟩, ⟨by (with_reducible repeat (first | refine blk_drewN ?_ _ | refine blk_drew ?_ | refine blk_alloc ?_ _)); refine blk_far ?_ NB214_217.1 _; (with_reducible repeat (first | refine blk_drewN ?_ _ | refine blk_drew ?_ | refine blk_alloc ?_ _)); exact BK214.1⟩, ⟨by (with_reducible repeat (first | refine blk_drewN ?_ _ | refine blk_drew ?_ | refine blk_alloc ?_ _)); refine blk_put (cs := #[.int .i64 (wrap64 (a0_0 - 1)), u218001]) ?_ 1 _ rfl; (with_reducible repeat (first | refine blk_drewN ?_ _ | refine blk_drew ?_ | refine blk_alloc ?_ _)); exact BK217.1⟩, ⟨BL HB.1⟩⟩
   have c30b0 := beq_eq_false_iff_ne.mpr c30
   have c30b1 := bne_iff_ne.mpr c30
   have H' := Aside0.mk H
   clear H
   have p218 : 0 <= (x28_2 : Int) := OD
   have q218 : x28_2 < (l0_1.length : Int) := OD
   obtain ⟨ad218, e218, hx218_0⟩ := Kd.at_int HR0_1.1 x28_2 p218 q218
   cases e218
   replace hx218_0 := (HB.1.cell (World.block_lt_of_cell? w _ hx218_0)).trans hx218_0
   replace p218 := eq_true p218
   replace q218 := eq_true q218
   go_wp2_with (first | ((with_reducible refine gate_callee (f := 48) rfl ?_); refine goesM (N := (some 35)) #[.int .i64 x28_2, .int .i64 a1] Try.func48 ?_; (with_reducible refine (spec_ttBit.calls x28_2 a1 t219 _ A29.1).mono ?_); rintro e w' ⟨rfl, ⟨nd, rfl⟩⟩; refine ⟨_, rfl, ?_⟩))
   go_roundg k2
   case measure => have := HJ3.1; have := HK2.1; omega
   case rel => exact ⟨(wrap64 (x28_2 + 1)), (x218001_2), (u218001), RG, H', ⟨by have := HJ3.1; have := HK2.1; omega⟩, ⟨PR HO_218001.1⟩, ⟨PB BK213.1⟩, ⟨PB BK214.1⟩, ⟨PB BK217.1⟩, ⟨BL HB.1⟩⟩
 simp only [Option.some.injEq, Prod.mk.injEq] at H
 obtain ⟨rfl, rfl, rfl⟩ := H
 obtain ⟨hcz40_0, hcz40_1, hfz40_0, hfz40_1⟩ := cz2 BK217.1
 obtain ⟨hcz42_0, hcz42_1, hfz42_0, hfz42_1⟩ := cz2 BK214.1
 obtain ⟨Ao43, co43, eo43⟩ := R_slice HO_218001.1
 subst eo43
 go_wp2
 refine bodyPost_ret (results_ct rfl _ _ gb214 28 #[.int .i64 (wrap64 (a0_0 - 1)), .slice Ao43 x218001_2.length co43] (0, 0) _ rfl (PF0 BK214.1) Try.underlying28 rfl (by kernel_rfl)) rfl ?_
 exact ⟨_, RF, by (with_reducible repeat (first | apply R_alloc | apply R_drewN | apply R_drew)); exact R_mono (RQ gb214 1 (RQ gb214 0 (R_types HO_218001.1 BK214.1 (by decide)) _) _) (fun _ hk => trivial), BL HB.1⟩
/-! ### spec_DrawSwapInputs: function 17 -/
open Kd
open Kd
def spec_DrawSwapInputs.g (k : Nat) (s0_0 : List Int) (s0_1 : Int) (s0_2 : Int) : Option (Int × List Int × Int × Int × Int × Int) := (spec_l1Cur_anyTable.f k s0_0 s0_1 s0_2).bind fun bt247 => ((spec_l1Cur_input.f s0_0 bt247.2.2.1 bt247.2.2.2 bt247.1 bt247.2.1).bind fun bt254 => ((spec_l1Cur_input.f s0_0 bt254.2.1 bt254.2.2 bt247.1 bt247.2.1).bind fun bt257 => (some (bt247.1, bt247.2.1, bt254.1, bt257.1, bt257.2.1, bt257.2.2))))
theorem spec_DrawSwapInputs.mong : ∀ a0 a1 a2 k, LeO (spec_DrawSwapInputs.g k a0 a1 a2) (spec_DrawSwapInputs.g (k + 1) a0 a1 a2) := by
 intro a0 a1 a2 k
 unfold spec_DrawSwapInputs.g
 repeat' first
  | (with_reducible exact spec_l1Cur_anyTable.mono _ _ _ _)
  | (with_reducible exact LeO.refl _)
  | (with_reducible exact LeO.none _)
  | (with_reducible refine LeO.ite ?_ ?_)
  | (with_reducible refine LeO.bind ?_ (fun _ => ?_))
  | exact spec_l1Cur_anyTable.mono _ _ _ _
  | exact LeO.none _
  | refine LeO.ite ?_ ?_
  | refine LeO.bind ?_ (fun _ => ?_)
def spec_DrawSwapInputs.f (k : Nat) (l0 : List Int) : Option (Int × List Int × Int × Int) := (spec_DrawSwapInputs.g k l0 0 0).bind fun t => some (t.1, t.2.1, t.2.2.1, t.2.2.2.1)
theorem spec_DrawSwapInputs.mono : ∀ a0 k, LeO (spec_DrawSwapInputs.f k a0) (spec_DrawSwapInputs.f (k + 1) a0) := fun _ _ => LeO.bind (spec_DrawSwapInputs.mong _ _ _ _) (fun _ => LeO.refl _)
def spec_DrawSwapInputs.T3 : Bool × List (List Nat × List Nat) := (true, [([], []), ([], []), ([], []), ([1, 2], [1, 2]), ([], []), ([], []), ([4, 5, 3], [4, 5]), ([0, 6, 0], [0]), ([3, 7, 0, 1, 2, 3, 7], [3]), ([6, 8, 0, 1, 2, 3, 4, 5, 6, 7, 8], [6])])
def spec_DrawSwapInputs.B3 : List Nat := [0, 0, 0, 6, 0, 0, 62, 127, 255, 511]
theorem spec_DrawSwapInputs.tab3 : rtab .any (opsOf Try.f17 3) = spec_DrawSwapInputs.T3 := by kernel_rfl
theorem spec_DrawSwapInputs.bits3 : waitsOk spec_DrawSwapInputs.T3.2 spec_DrawSwapInputs.B3 = true := by kernel_rfl
theorem spec_DrawSwapInputs.walk (k : Nat) (A0 : Option Addr) (c0 : Nat) (l0 : List Int) (r1 : Int) (r2 : List Int) (r3 : Int) (r4 : Int) (r5 : Int) (r6 : Int) (w : World) (hr0 : Kd.C (Kd.int .u8) w A0 l0.length l0) (h : spec_DrawSwapInputs.g k l0 0 0 = some (r1, r2, r3, r4, r5, r6)) :
 Calls Try.prog 17 #[.slice A0 l0.length c0] w fun e w' => ∃ (v1_ : Value) (g : Nat), e = .returned (.tuple #[.agg #[.int .i64 r1, v1_], .int .i64 r3, .int .i64 r4]) /\ Kd.Q (Kd.int .i64) 3 w' w.heap.size (fun _ => True) v1_ r2 /\ IsS62 w w' g l0 r5 r6 /\ Below w.heap.size w w' /\ KeepBut w w' g none := by
 have hu28 := Try.underlying28
 have HR := Aside0.mk hr0
 clear hr0
 have HW0 := Aside0.mk (Nat.le_refl w.heap.size)
 have HB := Aside0.mk (Below.refl w.heap.size w)
 have H := h
 clear h
 unfold spec_DrawSwapInputs.g at H
 replace H := bindA H; obtain ⟨⟨t247, t248, t251, t252⟩, A2, H⟩ := H
 dsimp only at H
 replace H := bindA H; obtain ⟨⟨t254, t255, t256⟩, A3, H⟩ := H
 dsimp only at H
 replace H := bindA H; obtain ⟨⟨t257, t258, t259⟩, A4, H⟩ := H
 dsimp only at H
 simp only [Option.some.injEq, Prod.mk.injEq] at H
 obtain ⟨rfl, rfl, rfl, rfl, rfl, rfl⟩ := H
 go_enter Try.func17, Try.ntmps17
 try go_wp2_with (first | ((with_reducible refine gate_dst (N := 2) rfl ?_); refine boxE (cs := #[.int .i64 0, .slice none 0 0]) (t := 28) ?_; intro gb246 hg w5 hbox hb; have n0_ := Aside0.mk (bS HB.1 hb); have BK246 := Aside0.mk hbox; have GW246 := Aside0.mk (gX HB.1 hg : w.heap.size <= gb246); have GE246 := GW246; clear HB; have HB := n0_; clear n0_ hbox hg hb) | ((with_reducible refine gate_dst (N := 9) rfl ?_); refine boxE (cs := #[.slice A0 l0.length c0, .int .i64 0, .int .u64 0]) (t := 62) ?_; intro g hg wz_ hbox hb; have n0_ := Aside0.mk (bS HB.1 hb); have n1_ := Aside0.mk (bB BK246.1 hb); have HI0 := Aside0.mk (show IsS62 w wz_ g l0 0 0 from ⟨A0, c0, hbox, gX HB.1 hg, HR.1⟩); have HK := Aside0.mk (KeepBut.of_below n0_.1 g none); have NB0_246 := Aside0.mk (show g ≠ gb246 from nC BK246.1 hg); have NB246_0 := Aside0.mk (show gb246 ≠ g from nB BK246.1 hg); clear HB BK246; have HB := n0_; have BK246 := n1_; clear n0_ n1_ hbox hg hb) | ((with_reducible refine gate_callee (f := 43) rfl ?_); refine goesM (N := (some 11)) #[.pointer (some ⟨g, 0, none⟩)] Try.func43 ?_; (with_reducible refine (spec_l1Cur_anyTable.calls k g l0 0 0 t247 t248 t251 t252 w _ ?side1 ?side2 A2.1).mono ?_); (case side1 => repeat (first | (with_reducible first | exact HI0.1 | apply IsS62.alloc | apply IsS62.drewN | apply IsS62.drew | apply IsS62.set_1 | apply IsS62.set_2 | refine IsS62.far ?_ NB0_246.1 _) | exact HI0.1)); (case side2 => repeat (first | (with_reducible first | exact HB.1 | apply below_alloc | apply pw_below_drewN | apply below_drew1 | refine below_set ?_ (IsS62.ge HI0.1) | refine below_set ?_ GE246.1) | exact HB.1)); rintro e w6 ⟨v249, rfl, ho0, hi, hb, hk⟩; refine ⟨_, rfl, ?_⟩; refine E5 (KeepBut.blk hk (g' := gb246) (o := .cells #[.int .i64 0, .slice none 0 0] 28 (0, 0)) (PB BK246.1) NB246_0.1 (by simp)) (Q_lower ho0 (keep_size (w := w) (g := g) (row := none) (by repeat (first | (with_reducible first | exact HK.1 | apply KeepBut.set_ | apply keep_drewN | apply keep_drew | apply keep_alloc | refine keep_far ?_ GW246.1 _) | exact HK.1)))) (KeepBut.trans (by repeat (first | (with_reducible first | exact HK.1 | apply KeepBut.set_ | apply keep_drewN | apply keep_drew | apply keep_alloc | refine keep_far ?_ GW246.1 _) | exact HK.1)) hk (.inl rfl)) (hb) (hi) ?_; clear BK246 HK HB HI0; intro BK246 HO250 HK HB HI0; (try clear hb); (try clear hk); (try clear hi)) | ((with_reducible refine gate_dst (N := 6) rfl ?_); refine boxE (cs := #[.int .i64 0, .slice none 0 0]) (t := 28) ?_; intro gb253 hg w7 hbox hb; refine E12 (Q_below (by (with_reducible repeat (first | apply Q_alloc | apply Q_drewN | apply Q_drew)); exact HO250.1) hb) (IsS62.below (by repeat (first | (with_reducible first | exact HI0.1 | apply IsS62.alloc | apply IsS62.drewN | apply IsS62.drew | apply IsS62.set_1 | apply IsS62.set_2 | refine IsS62.far ?_ NB0_246.1 _) | exact HI0.1)) hb) (bB BK246.1 hb) (KeepBut.trans (by repeat (first | (with_reducible first | exact HK.1 | apply KeepBut.set_ | apply keep_drewN | apply keep_drew | apply keep_alloc | refine keep_far ?_ GW246.1 _) | exact HK.1)) (KeepBut.of_below hb g none) (.inl rfl)) (below_step (by repeat (first | (with_reducible first | exact HB.1 | apply below_alloc | apply pw_below_drewN | apply below_drew1 | refine below_set ?_ (IsS62.ge HI0.1) | refine below_set ?_ GE246.1) | exact HB.1)) hb) (hbox) ((by rw [hg]; exact (keep_size (w := w) (g := g) (row := none) (by repeat (first | (with_reducible first | exact HK.1 | apply KeepBut.set_ | apply keep_drewN | apply keep_drew | apply keep_alloc | refine keep_far ?_ GW246.1 _) | exact HK.1))) : w.heap.size <= gb253)) ((Nat.le_trans HW0.1 (by rw [hg]; exact (keep_size (w := w) (g := g) (row := none) (by repeat (first | (with_reducible first | exact HK.1 | apply KeepBut.set_ | apply keep_drewN | apply keep_drew | apply keep_alloc | refine keep_far ?_ GW246.1 _) | exact HK.1))) : w.heap.size <= gb253) : w.heap.size <= gb253)) (nB BK246.1 hg) (nC BK246.1 hg) ((by rw [hg]; exact Nat.ne_of_lt (IsS62.lt (show IsS62 w _ g l0 t251 t252 from by repeat (first | (with_reducible first | exact HI0.1 | apply IsS62.alloc | apply IsS62.drewN | apply IsS62.drew | apply IsS62.set_1 | apply IsS62.set_2 | refine IsS62.far ?_ NB0_246.1 _) | exact HI0.1))) : g ≠ gb253)) ((by rw [hg]; exact Nat.ne_of_gt (IsS62.lt (show IsS62 w _ g l0 t251 t252 from by repeat (first | (with_reducible first | exact HI0.1 | apply IsS62.alloc | apply IsS62.drewN | apply IsS62.drew | apply IsS62.set_1 | apply IsS62.set_2 | refine IsS62.far ?_ NB0_246.1 _) | exact HI0.1))) : gb253 ≠ g)) ?_; clear HO250 HI0 BK246 HK HB; intro HO250 HI0 BK246 HK HB BK253 GW253 GE253 NB246_253 NB253_246 NB0_253 NB253_0; clear hb hbox hg; have hnb8 := NB253_246.1; have hnc8 := NB246_253.1; have hnb9 := NB253_0.1; have hnc9 := NB0_253.1; obtain ⟨hcz10_0, hcz10_1, hfz10_0, hfz10_1⟩ := cz2 BK253.1; obtain ⟨Ao11, co11, eo11, _⟩ := Q_slice HO250.1; subst eo11))
 have n_ : (fun w12 : World => (Kd.Q (Kd.int .i64) 3 w12 w.heap.size (fun _ => True) (.slice Ao11 t248.length co11) t248) /\ (w12.heap[gb246]? = some (.cells #[.int .i64 0, .slice none 0 0] 28 (0, 0))) /\ (w12.heap[gb253]? = some (.cells #[.int .i64 t247, .slice Ao11 t248.length co11] 28 (0, 0))) /\ (IsS62 w w12 g l0 t251 t252) /\ (KeepBut w w12 g none) /\ (Below w.heap.size w w12)) ((w7.setCell ⟨gb253, 0, none⟩ (.int .i64 t247)).setCell ⟨gb253, 1, none⟩ (.slice Ao11 t248.length co11)) := ⟨by (with_reducible repeat (first | apply Q_alloc | apply Q_drewN | apply Q_drew)); exact Q_mono (Q_far (p := ⟨gb253, 1, none⟩) (Q_far (p := ⟨gb253, 0, none⟩) (Q_types HO250.1 BK253.1 (by decide)) (fun _ hk => hk.2) (.int .i64 t247)) (fun _ hk => hk.2) (.slice Ao11 t248.length co11)) (fun _ hk => trivial), by (with_reducible repeat (first | refine blk_drewN ?_ _ | refine blk_drew ?_ | refine blk_alloc ?_ _)); refine blk_far ?_ NB246_253.1 _; (with_reducible repeat (first | refine blk_drewN ?_ _ | refine blk_drew ?_ | refine blk_alloc ?_ _)); refine blk_far ?_ NB246_253.1 _; (with_reducible repeat (first | refine blk_drewN ?_ _ | refine blk_drew ?_ | refine blk_alloc ?_ _)); exact BK246.1, by (with_reducible repeat (first | refine blk_drewN ?_ _ | refine blk_drew ?_ | refine blk_alloc ?_ _)); refine blk_put (cs := #[.int .i64 t247, .slice none 0 0]) ?_ 1 _ rfl; (with_reducible repeat (first | refine blk_drewN ?_ _ | refine blk_drew ?_ | refine blk_alloc ?_ _)); refine blk_put (cs := #[.int .i64 0, .slice none 0 0]) ?_ 0 _ rfl; (with_reducible repeat (first | refine blk_drewN ?_ _ | refine blk_drew ?_ | refine blk_alloc ?_ _)); exact BK253.1, by repeat (first | (with_reducible first | exact HI0.1 | apply IsS62.alloc | apply IsS62.drewN | apply IsS62.drew | apply IsS62.set_1 | apply IsS62.set_2 | refine IsS62.far ?_ NB0_246.1 _ | refine IsS62.far ?_ NB0_253.1 _) | exact HI0.1), by repeat (first | (with_reducible first | exact HK.1 | apply KeepBut.set_ | apply keep_drewN | apply keep_drew | apply keep_alloc | refine keep_far ?_ GW246.1 _ | refine keep_far ?_ GW253.1 _) | exact HK.1), by repeat (first | (with_reducible first | exact HB.1 | apply below_alloc | apply pw_below_drewN | apply below_drew1 | refine below_set ?_ (IsS62.ge HI0.1) | refine below_set ?_ GE246.1 | refine below_set ?_ GE253.1) | exact HB.1)⟩
 (try clear HO250)
 (try clear BK246)
 (try clear BK253)
 (try clear HI0)
 (try clear HK)
 (try clear HB)
 generalize ((w7.setCell ⟨gb253, 0, none⟩ (.int .i64 t247)).setCell ⟨gb253, 1, none⟩ (.slice Ao11 t248.length co11)) = w12 at n_ ⊢
 obtain ⟨h0_, h1_, h2_, h3_, h4_, h5_⟩ := n_
 refine E6 h0_ h1_ h2_ h3_ h4_ h5_ ?_
 clear h0_ h1_ h2_ h3_ h4_ h5_
 intro HO250 BK246 BK253 HI0 HK HB
 refine E6 (Q_drew HO250.1) (blk_drew BK246.1) (blk_drew BK253.1) (IsS62.drew HI0.1) (keep_drew HK.1) (below_drew1 HB.1) ?_
 clear HO250 BK246 BK253 HI0 HK HB
 intro HO250 BK246 BK253 HI0 HK HB
 refine start_ (n := 10) (S := fun w' => w'.cell? ⟨gb253, 0, none⟩ = some (.int .i64 t247) /\ w'.cell? ⟨gb253, 1, none⟩ = some (.slice Ao11 t248.length co11)) (ds := []) #[Zz,Zz,Zz,Zz,Zz,Zz,Zz,Zz,Zz,Zz] (by kernel_rfl) rfl rfl ⟨(blk_cell BK253.1 0).trans rfl, (blk_cell BK253.1 1).trans rfl⟩ (fun hHeld => ?_); refine with_tabW spec_DrawSwapInputs.tab3 spec_DrawSwapInputs.bits3 (fun HT_ HW_ => ?_)
 generalize w12.drew = w13 at HO250 BK246 BK253 HI0 HK HB hHeld ⊢
 refine pureF 1 (N := some 13) HT_.1 ?_
 refine pureF 4 (N := some 16) HT_.1 ?_
 refine takeE 0 (N := some 12) HT_.1 HW_.1 hHeld ?_
 refine takeE 2 (N := some 14) HT_.1 HW_.1 hHeld ?_
 refine takeE 5 (N := some 17) HT_.1 HW_.1 hHeld ?_
 refine one_ (i := 3) (N := some 15) #[Yy,Yy,Yy,Yy,Yy,Yy,Zz,Zz,Zz,Zz] rfl rfl (one_of HT_.1 (by kernel_rfl)) (by decide) (fun K hK => ?_)
 refine goes_ Try.func44 (by kernel_rfl) rfl #[.pointer (some ⟨g, 0, none⟩), .agg #[.int .i64 t247, .slice Ao11 t248.length co11]] (by rfl) rfl rfl (by (try simp only [List.map_toArray, List.map_cons, List.map_nil]); first | done | rfl | (simp only [List.length_drop, List.length_take]; rfl)) ?_
 with_reducible refine (spec_l1Cur_input.calls g l0 t251 t252 t247 _ _ t248 t254 t255 t256 w _ ?side1 ?side2 ?side3 ?side4 ?side5 A3.1).mono ?_
 (case side1 => repeat (first | (with_reducible first | exact HI0.1 | apply IsS62.alloc | apply IsS62.drewN | apply IsS62.drew | apply IsS62.set_1 | apply IsS62.set_2 | refine IsS62.far ?_ NB0_246.1 _ | refine IsS62.far ?_ NB0_253.1 _) | exact HI0.1))
 (case side2 => repeat (first | (with_reducible first | exact HB.1 | apply below_alloc | apply pw_below_drewN | apply below_drew1 | refine below_set ?_ (IsS62.ge HI0.1) | refine below_set ?_ GE246.1 | refine below_set ?_ GE253.1) | exact HB.1))
 (case side3 => repeat (first | exact (Q_reads' HO250.1).2.2 | (with_reducible refine C_alloc ?_ _) | (with_reducible refine C_drewN ?_ _) | (with_reducible refine C_drew ?_)))
 (case side4 => exact (Q_reads' HO250.1).2.1)
 (case side5 => exact far_slice (IsS62.own_neQ HI0.1 HO250.1 (by decide)))
 rintro e w14 ⟨rfl, hi, hb, hk⟩
 refine ⟨_, rfl, ?_⟩
 refine E6 (KeepBut.blk hk (g' := gb246) (o := .cells #[.int .i64 0, .slice none 0 0] 28 (0, 0)) (PB BK246.1) NB246_0.1 (by simp)) (Q_mono (Q_keep (IsS62.apartQ (show IsS62 w _ g l0 t251 t252 from by repeat (first | (with_reducible first | exact HI0.1 | apply IsS62.alloc | apply IsS62.drewN | apply IsS62.drew | apply IsS62.set_1 | apply IsS62.set_2 | refine IsS62.far ?_ NB0_246.1 _ | refine IsS62.far ?_ NB0_253.1 _) | exact HI0.1)) (by (with_reducible repeat (first | apply Q_alloc | apply Q_drewN | apply Q_drew)); exact HO250.1) (by decide)) hk (fun _ h => h.2)) (fun _ h => h.1)) (KeepBut.blk hk (g' := gb253) (o := .cells #[.int .i64 t247, .slice Ao11 t248.length co11] 28 (0, 0)) (PB BK253.1) NB253_0.1 (by simp)) (KeepBut.trans (by repeat (first | (with_reducible first | exact HK.1 | apply KeepBut.set_ | apply keep_drewN | apply keep_drew | apply keep_alloc | refine keep_far ?_ GW246.1 _ | refine keep_far ?_ GW253.1 _) | exact HK.1)) hk (.inl rfl)) (hb) (hi) ?_
 clear BK246 HO250 BK253 HK HB HI0
 intro BK246 HO250 BK253 HK HB HI0
 (try clear hb)
 (try clear hb2)
 (try clear hk)
 (try clear hi)
 refine hK.out _ _ ⟨(blk_cell BK253.1 0).trans rfl, (blk_cell BK253.1 1).trans rfl⟩ (fun hHeld => ?_)
 clear hK K
 refine norm_ (a' := ?_) ?_ ?_
 rotate_left
 · show Act.put _ (some 15) _ = _
   simp only [Act.put, List.setIfInBounds_toArray, List.set_cons_zero, List.set_cons_succ, i64_w, i32_w]
   rfl
 refine one_ (i := 6) (N := some 18) #[Yy,Yy,Yy,Yy,Yy,Yy,Yy,Zz,Zz,Zz] rfl rfl (one_of HT_.1 (by kernel_rfl)) (by decide) (fun K hK => ?_)
 refine goes_ Try.func44 (by kernel_rfl) rfl #[.pointer (some ⟨g, 0, none⟩), .agg #[.int .i64 t247, .slice Ao11 t248.length co11]] (by rfl) rfl rfl (by (try simp only [List.map_toArray, List.map_cons, List.map_nil]); first | done | rfl | (simp only [List.length_drop, List.length_take]; rfl)) ?_
 with_reducible refine (spec_l1Cur_input.calls g l0 t255 t256 t247 _ _ t248 t257 t258 t259 w _ ?side1 ?side2 ?side3 ?side4 ?side5 A4.1).mono ?_
 (case side1 => repeat (first | (with_reducible first | exact HI0.1 | apply IsS62.alloc | apply IsS62.drewN | apply IsS62.drew | apply IsS62.set_1 | apply IsS62.set_2 | refine IsS62.far ?_ NB0_246.1 _ | refine IsS62.far ?_ NB0_253.1 _) | exact HI0.1))
 (case side2 => repeat (first | (with_reducible first | exact HB.1 | apply below_alloc | apply pw_below_drewN | apply below_drew1 | refine below_set ?_ (IsS62.ge HI0.1) | refine below_set ?_ GE246.1 | refine below_set ?_ GE253.1) | exact HB.1))
 (case side3 => repeat (first | exact (Q_reads' HO250.1).2.2 | (with_reducible refine C_alloc ?_ _) | (with_reducible refine C_drewN ?_ _) | (with_reducible refine C_drew ?_)))
 (case side4 => exact (Q_reads' HO250.1).2.1)
 (case side5 => exact far_slice (IsS62.own_neQ HI0.1 HO250.1 (by decide)))
 rintro e w15 ⟨rfl, hi, hb, hk⟩
 refine ⟨_, rfl, ?_⟩
 refine E6 (KeepBut.blk hk (g' := gb246) (o := .cells #[.int .i64 0, .slice none 0 0] 28 (0, 0)) (PB BK246.1) NB246_0.1 (by simp)) (Q_mono (Q_keep (IsS62.apartQ (show IsS62 w _ g l0 t255 t256 from by repeat (first | (with_reducible first | exact HI0.1 | apply IsS62.alloc | apply IsS62.drewN | apply IsS62.drew | apply IsS62.set_1 | apply IsS62.set_2 | refine IsS62.far ?_ NB0_246.1 _ | refine IsS62.far ?_ NB0_253.1 _) | exact HI0.1)) (by (with_reducible repeat (first | apply Q_alloc | apply Q_drewN | apply Q_drew)); exact HO250.1) (by decide)) hk (fun _ h => h.2)) (fun _ h => h.1)) (KeepBut.blk hk (g' := gb253) (o := .cells #[.int .i64 t247, .slice Ao11 t248.length co11] 28 (0, 0)) (PB BK253.1) NB253_0.1 (by simp)) (KeepBut.trans (by repeat (first | (with_reducible first | exact HK.1 | apply KeepBut.set_ | apply keep_drewN | apply keep_drew | apply keep_alloc | refine keep_far ?_ GW246.1 _ | refine keep_far ?_ GW253.1 _) | exact HK.1)) hk (.inl rfl)) (hb) (hi) ?_
 clear BK246 HO250 BK253 HK HB HI0
 intro BK246 HO250 BK253 HK HB HI0
 (try clear hb)
 (try clear hb2)
 (try clear hk)
 (try clear hi)
 refine hK.out _ _ ⟨(blk_cell BK253.1 0).trans rfl, (blk_cell BK253.1 1).trans rfl⟩ (fun hHeld => ?_)
 clear hK K
 refine norm_ (a' := ?_) ?_ ?_
 rotate_left
 · show Act.put _ (some 18) _ = _
   simp only [Act.put, List.setIfInBounds_toArray, List.set_cons_zero, List.set_cons_succ, i64_w, i32_w]
   rfl
 refine one_ (i := 7) (N := none) #[Yy,Yy,Yy,Yy,Yy,Yy,Yy,Yy,Zz,Zz] rfl rfl (one_of HT_.1 (by kernel_rfl)) (by decide) (fun K hK => ?_)
 obtain ⟨hs16, hs17, hfs16, hfs17⟩ := cz2 BK246.1
 refine skip_ (w1 := ?_) (by rfl) rfl ?_ ?_
 rotate_left
 · go_simp
   rfl
 refine hK.out _ _ ⟨(CF2 NB253_246.1 hHeld.1), (CF2 NB253_246.1 hHeld.2)⟩ (fun hHeld => ?_)
 clear hK K
 refine pureF 8 (N := some 3) HT_.1 ?_
 refine pureF 9 (N := some 4) HT_.1 ?_
 refine done_ (done_of HT_.1 (by kernel_rfl)) ?_
 try go_wp2
 refine bodyPost_ret (results_ctt rfl _ _ gb246 28 #[.int .i64 t247, .slice Ao11 t248.length co11] (0, 0) _ rfl (PF0 BK246.1) Try.underlying28 rfl (by kernel_rfl)) rfl ?_
 exact ⟨_, g, RF, by (with_reducible repeat (first | apply Q_alloc | apply Q_drewN | apply Q_drew)); exact Q_mono (Q_far (p := ⟨gb246, 1, none⟩) (Q_far (p := ⟨gb246, 0, none⟩) (Q_types HO250.1 BK246.1 (by decide)) (fun _ hk => hk.2) (.int .i64 t247)) (fun _ hk => hk.2) (.slice Ao11 t248.length co11)) (fun _ hk => trivial), by repeat (first | (with_reducible first | exact HI0.1 | apply IsS62.alloc | apply IsS62.drewN | apply IsS62.drew | apply IsS62.set_1 | apply IsS62.set_2 | refine IsS62.far ?_ NB0_246.1 _ | refine IsS62.far ?_ NB0_253.1 _) | exact HI0.1), by repeat (first | (with_reducible first | exact HB.1 | apply below_alloc | apply pw_below_drewN | apply below_drew1 | refine below_set ?_ (IsS62.ge HI0.1) | refine below_set ?_ GE246.1 | refine below_set ?_ GE253.1) | exact HB.1), by repeat (first | (with_reducible first | exact HK.1 | apply KeepBut.set_ | apply keep_drewN | apply keep_drew | apply keep_alloc | refine keep_far ?_ GW246.1 _ | refine keep_far ?_ GW253.1 _) | exact HK.1)⟩
theorem spec_DrawSwapInputs.calls (k : Nat) (A0 : Option Addr) (c0 : Nat) (l0 : List Int) (r1 : Int) (r2 : List Int) (r3 : Int) (r4 : Int) (w : World) (hr0 : Kd.C (Kd.int .u8) w A0 l0.length l0) (hc0 : l0.length <= c0) (h : spec_DrawSwapInputs.f k l0 = some (r1, r2, r3, r4)) :
 Calls Try.prog 17 #[.slice A0 l0.length c0] w fun e w' => ∃ v1_ : Value, e = .returned (.tuple #[.agg #[.int .i64 r1, v1_], .int .i64 r3, .int .i64 r4]) /\ Kd.Q (Kd.int .i64) 3 w' w.heap.size (fun _ => True) v1_ r2 /\ Below w.heap.size w w' := by
 unfold spec_DrawSwapInputs.f at h
 replace h := bindA h; obtain ⟨⟨t0, t1, t2, t3, t4, t5⟩, A2, h⟩ := h
 simp only [Option.some.injEq, Prod.mk.injEq] at h
 obtain ⟨rfl, rfl, rfl, rfl⟩ := h
 exact (spec_DrawSwapInputs.walk k A0 c0 l0 t0 t1 t2 t3 t4 t5 w hr0 A2.1).mono fun e w' ⟨v, g, h1, h2, _, h4, _⟩ => ⟨v, h1, h2, h4⟩

/-! ### impl_reordered: function 42 -/
open Kd
mutual
def impl_reordered.l0 : Nat -> List Int -> Int -> Int -> Int -> List Int -> Int -> List Int -> Option (Int × List Int)
 | 0, _, _, _, _, _, _, _ => none
 | k + 1, x1, x19, x20, x224000, x224001, x229000, x229001 => if x20 < x19 then (impl_reordered.l1 k x1 x20 0 x19 x20 x1 (x1.length : Int) 0 x224000 x224001 x229000 x229001) else (some (x229000, x229001))
def impl_reordered.l1 : Nat -> List Int -> Int -> Int -> Int -> Int -> List Int -> Int -> Int -> Int -> List Int -> Int -> List Int -> Option (Int × List Int)
 | 0, _, _, _, _, _, _, _, _, _, _, _, _ => none
 | k + 1, x1, x6, x7, x19, x20, x23, x24, x25, x224000, x224001, x229000, x229001 => if x25 < x24 then (if 0 <= x25 then (if x25 < (x23.length : Int) then (if 0 <= (rd x23 x25) then (impl_reordered.l1 k x1 x6 (Go.bits .or .i64 x7 (shl .i64 (Go.bits .and .i64 (shr .i64 x6 x25) 1) (rd x23 x25))) x19 x20 x23 x24 (wrap64 (x25 + 1)) x224000 x224001 x229000 x229001) else (none)) else (none)) else (none)) else (if 0 <= x7 then (if x7 < (x224001.length : Int) then (if 0 <= x6 then (if x6 < (x229001.length : Int) then (impl_reordered.l0 k x1 x19 (wrap64 (x20 + 1)) x224000 x224001 x229000 (x229001.set (x6 : Int).toNat (rd x224001 x7))) else (none)) else (none)) else (none)) else (none))
end
def impl_reordered.f (k : Nat) (a0_0 : Int) (l0_1 : List Int) (l1 : List Int) : Option (Int × List Int) := if 0 <= (l0_1.length : Int) then (if ((l0_1.length : Int) : Int).toNat <= 35184372088832 then ((some (List.replicate ((l0_1.length : Int) : Int).toNat 0 : List Int)).bind fun y225 => (impl_reordered.l0 k l1 (y225.length : Int) 0 a0_0 l0_1 a0_0 y225)) else (none)) else (none)
theorem impl_reordered.mono_l : ∀ k, (∀ y0 y1 y2 y3 y4 y5 y6, LeO (impl_reordered.l0 k y0 y1 y2 y3 y4 y5 y6) (impl_reordered.l0 (k + 1) y0 y1 y2 y3 y4 y5 y6)) /\ (∀ y0 y1 y2 y3 y4 y5 y6 y7 y8 y9 y10 y11, LeO (impl_reordered.l1 k y0 y1 y2 y3 y4 y5 y6 y7 y8 y9 y10 y11) (impl_reordered.l1 (k + 1) y0 y1 y2 y3 y4 y5 y6 y7 y8 y9 y10 y11))
 | 0 => by refine ⟨?_, ?_⟩ <;> (intros; intro r h; first | (simp [impl_reordered.l0] at h; done) | (simp [impl_reordered.l1] at h; done))
 | k + 1 => by
  obtain ⟨ih0, ih1⟩ := impl_reordered.mono_l k
  refine ⟨?_, ?_⟩ <;> (
   intros
   first | unfold impl_reordered.l0 | unfold impl_reordered.l1
   exact LM2 ih0 ih1)
theorem impl_reordered.mono : ∀ a0 a1 a2 k, LeO (impl_reordered.f k a0 a1 a2) (impl_reordered.f (k + 1) a0 a1 a2) := by
 intro a0 a1 a2 k
 obtain ⟨ih0, ih1⟩ := impl_reordered.mono_l k
 unfold impl_reordered.f
 exact LM2 ih0 ih1
def impl_reordered.T1 : Bool × List (List Nat × List Nat) := (true, [([], []), ([0], [0]), ([], []), ([2], [2]), ([3], [3]), ([4, 4], [4]), ([1, 5], [1, 5]), ([], []), ([7, 6, 0, 1, 2, 3, 4, 5, 6, 7], [6, 7])])
def impl_reordered.B1 : List Nat := [0, 1, 0, 4, 12, 28, 63, 0, 255]
theorem impl_reordered.tab1 : rtab .any (opsOf Try.f42 1) = impl_reordered.T1 := by kernel_rfl
theorem impl_reordered.bits1 : waitsOk impl_reordered.T1.2 impl_reordered.B1 = true := by kernel_rfl
def impl_reordered.T11 : Bool × List (List Nat × List Nat) := (true, [([], []), ([0], [0]), ([], []), ([], []), ([3], [3]), ([], []), ([4, 5], [4, 5]), ([6], [6]), ([1, 2, 0, 1, 2, 3, 4, 5, 6, 7], [1, 2]), ([8, 7, 0, 1, 2, 3, 4, 5, 6, 7], [7, 8])])
def impl_reordered.B11 : List Nat := [0, 1, 0, 0, 8, 0, 56, 120, 255, 511]
theorem impl_reordered.tab11 : rtab .any (opsOf Try.f42 11) = impl_reordered.T11 := by kernel_rfl
theorem impl_reordered.bits11 : waitsOk impl_reordered.T11.2 impl_reordered.B11 = true := by kernel_rfl
theorem impl_reordered.calls (k : Nat) (a0_0 : Int) (A0_1 : Option Addr) (c0_1 : Nat) (l0_1 : List Int) (A1 : Option Addr) (c1 : Nat) (l1 : List Int) (r1 : Int) (r2 : List Int) (w : World) (hr0_1 : Kd.C (Kd.int .i64) w A0_1 l0_1.length l0_1) (hc0_1 : l0_1.length <= c0_1) (hr1 : Kd.C (Kd.int .i64) w A1 l1.length l1) (hc1 : l1.length <= c1) (h : impl_reordered.f k a0_0 l0_1 l1 = some (r1, r2)) :
 Calls Try.prog 42 #[.agg #[.int .i64 a0_0, .slice A0_1 l0_1.length c0_1], .slice A1 l1.length c1] w fun e w' => ∃ v1_ : Value, e = .returned (.agg #[.int .i64 r1, v1_]) /\ Kd.R (Kd.int .i64) 3 w' w.heap.size (fun _ => True) v1_ r2 /\ Below w.heap.size w w' := by
 have hu28 := Try.underlying28
 have HR0_1 := Aside0.mk hr0_1
 have HC0_1 := Aside0.mk hc0_1
 clear hr0_1 hc0_1
 have HR1 := Aside0.mk hr1
 have HC1 := Aside0.mk hc1
 clear hr1 hc1
 have HB := Aside0.mk (Below.refl w.heap.size w)
 have H := h
 clear h
 unfold impl_reordered.f at H
 replace H := ifP H; obtain ⟨c3, H⟩ := H
 have c3b0 := eq_true c3
 have c3b1 := decide_eq_true c3
 clear c3
 replace H := ifP H; obtain ⟨c4, H⟩ := H
 have c4b0 := eq_true c4
 have c4b1 := decide_eq_true c4
 clear c4
 replace H := nameB H; obtain ⟨y225, Ny225, H⟩ := H
 have H' := Aside0.mk H
 clear H
 go_enter Try.func42, Try.ntmps42
 try go_wp2_with (first | ((with_reducible refine gate_dst (N := 2) rfl ?_); refine boxE (cs := #[.int .i64 a0_0, .slice A0_1 l0_1.length c0_1]) (t := 28) ?_; intro gb223 hg w5 hbox hb; refine E4b HB.1 hg hbox hb ?_; clear HB; intro HB BK223 GW223 GE223; clear hb hbox hg) | ((with_reducible refine gate_dst (N := 4) rfl ?_); refine boxE (cs := #[.int .i64 0, .slice none 0 0]) (t := 28) ?_; intro gb224 hg w6 hbox hb; refine E7 (bB BK223.1 hb) (bS HB.1 hb) (hbox) (gX HB.1 hg) (gX HB.1 hg) (nB BK223.1 hg) (nC BK223.1 hg) ?_; clear BK223 HB; intro BK223 HB BK224 GW224 GE224 NB223_224 NB224_223; clear hb hbox hg))
 refine E3 (blk_drew BK223.1) (blk_drew BK224.1) (below_drew1 HB.1) ?_
 clear BK223 BK224 HB
 intro BK223 BK224 HB
 refine start_ (n := 9) (S := fun w' => w'.cell? ⟨gb223, 0, none⟩ = some (.int .i64 a0_0) /\ w'.cell? ⟨gb223, 1, none⟩ = some (.slice A0_1 l0_1.length c0_1)) (ds := []) #[Zz,Zz,Zz,Zz,Zz,Zz,Zz,Zz,Zz] (by kernel_rfl) rfl rfl ⟨(blk_cell BK223.1 0).trans rfl, (blk_cell BK223.1 1).trans rfl⟩ (fun hHeld => ?_); refine with_tabW impl_reordered.tab1 impl_reordered.bits1 (fun HT_ HW_ => ?_)
 generalize w6.drew = w7 at BK223 BK224 HB hHeld ⊢
 refine pureF 0 (N := some 10) HT_.1 ?_
 refine pureF 2 (N := some 12) HT_.1 ?_
 refine takeE 1 (N := some 11) HT_.1 HW_.1 hHeld ?_
 refine takeE 3 (N := some 13) HT_.1 HW_.1 hHeld ?_
 refine pureF 4 (N := some 14) HT_.1 ?_
 refine join_ (σ := Value × Nat) 1 #[Yy,Yy,Yy,Yy,Yy,Yy,Yy,Yy,Zz] (fun s_ => [(15, s_.1), (5, .pointer (some ⟨s_.2, 0, none⟩)), (16, .agg #[.int .i64 a0_0, s_.1])]) (fun s_ w' => (w'.cell? ⟨gb223, 0, none⟩ = some (.int .i64 a0_0) /\ w'.cell? ⟨gb223, 1, none⟩ = some (.slice A0_1 l0_1.length c0_1)) /\ (Kd.R (Kd.int .i64) 3 w' w.heap.size (fun _ => True) s_.1 y225) /\ (w'.heap[gb223]? = some (.cells #[.int .i64 a0_0, .slice A0_1 l0_1.length c0_1] 28 (0, 0))) /\ (w'.heap[gb224]? = some (.cells #[.int .i64 0, .slice none 0 0] 28 (0, 0))) /\ (w'.heap[s_.2]? = some (.cells #[.int .i64 0, .slice none 0 0] 28 (0, 0))) /\ (w.heap.size <= s_.2) /\ (w.heap.size <= s_.2) /\ (gb223 ≠ s_.2) /\ (s_.2 ≠ gb223) /\ (gb224 ≠ s_.2) /\ (s_.2 ≠ gb224) /\ (Below w.heap.size w w')) ?_ ?_
 rotate_left
 · intro hCont
   refine two_ (i := 5) (j := 7) (Ni := some 15) (Nj := some 5) #[Yy,Yy,Yy,Yy,Yy,Yy,Zz,Zz,Zz] #[Yy,Yy,Yy,Yy,Yy,Zz,Zz,Yy,Zz] rfl rfl rfl rfl (two_of HT_.1 (by kernel_rfl)) (by decide) (by decide) (fun K hK => ?_) (fun K hK => ?_)
   · skip
     refine R_make_step (Kd.int .i64) _ 3 (by rfl) (N := 15) rfl 22 _ _ rfl (l0_1.length : Int) rfl rfl Try.underlying22 (.int .i64 0) 8 info3 rfl (by decide) (by omega) 0 (ok := fun _ => True) (okp := fun _ => True) rfl (fun _ hk => hk) trivial (OD) (Nat.le_trans (Nat.mul_le_mul_right _ (OD : (l0_1.length : Int).toNat <= 35184372088832)) (by omega)) (Below.refl _ _) (Nat.le_refl _) ?_
     intro v226 w8 ho9 hb hg_ hnew_
     clear hg_ hnew_
     (first | rw [<- Ny225.1] at ho9 | (simp only [Int.reduceToNat] at ho9; rw [<- Ny225.1] at ho9))
     refine E4 (R_lower ho9 (bZ HB.1)) (bB BK223.1 hb) (bB BK224.1 hb) (bS HB.1 hb) ?_
     clear BK223 BK224 HB
     intro HO227 BK223 BK224 HB
     clear hb ho9
     obtain ⟨Ao10, co10, eo10⟩ := R_slice HO227.1
     (first | subst eo10 | (injection eo10 with f1_ f2_ f3_; have f4_ := f1_.symm; have f5_ := f3_.symm; clear f1_ f2_ f3_; subst f4_; subst f5_))
     refine hK.out _ _ ⟨(blk_cell BK223.1 0).trans rfl, (blk_cell BK223.1 1).trans rfl⟩ (fun hHeld => ?_)
     clear hK K
     refine norm_ (a' := ?_) ?_ ?_
     rotate_left
     · show Act.put _ (some 15) _ = _
       simp only [Act.put, List.setIfInBounds_toArray, List.set_cons_zero, List.set_cons_succ, i64_w, i32_w]
       rfl
     refine pureF 6 (N := some 16) HT_.1 ?_
     refine one_ (i := 7) (N := some 5) #[Yy,Yy,Yy,Yy,Yy,Yy,Yy,Yy,Zz] rfl rfl (one_of HT_.1 (by kernel_rfl)) (by decide) (fun K hK => ?_)
     refine box_step ?hg (N := 5) ?hd (cs := #[.int .i64 0, .slice none 0 0]) (t := 28) ?hr ?_; (case hd => rfl); (case hg => rfl); (case hr => first | (go_simp; done) | (go_simp; rfl))
     intro gb228 hg w11 hbox hb
     refine E11 (rB HO227.1 hb) (bB BK223.1 hb) (bB BK224.1 hb) (bS HB.1 hb) (hbox) (gX HB.1 hg) (gX HB.1 hg) (nB BK223.1 hg) (nC BK223.1 hg) (nB BK224.1 hg) (nC BK224.1 hg) ?_
     clear HO227 BK223 BK224 HB
     intro HO227 BK223 BK224 HB BK228 GW228 GE228 NB223_228 NB228_223 NB224_228 NB228_224
     clear hb hbox hg
     refine hK.out _ _ ⟨(blk_cell BK223.1 0).trans rfl, (blk_cell BK223.1 1).trans rfl⟩ (fun hHeld => ?_)
     clear hK K
     refine norm_ (a' := ?_) ?_ ?_
     rotate_left
     · show Act.put _ (some 5) _ = _
       simp only [Act.put, List.setIfInBounds_toArray, List.set_cons_zero, List.set_cons_succ, i64_w, i32_w]
       rfl
     exact norm_ NA (hCont (.slice Ao10 y225.length co10, gb228) _ ⟨hHeld, (PR HO227.1), (PB BK223.1), (PB BK224.1), (PB BK228.1), GW228.1, GE228.1, NB223_228.1, NB228_223.1, NB224_228.1, NB228_224.1, (BL HB.1)⟩)
   skip
   refine box_step ?hg (N := 5) ?hd (cs := #[.int .i64 0, .slice none 0 0]) (t := 28) ?hr ?_; (case hd => rfl); (case hg => rfl); (case hr => first | (go_simp; done) | (go_simp; rfl))
   intro gb228 hg w8 hbox hb
   refine E10 (bB BK223.1 hb) (bB BK224.1 hb) (bS HB.1 hb) (hbox) (gX HB.1 hg) (gX HB.1 hg) (nB BK223.1 hg) (nC BK223.1 hg) (nB BK224.1 hg) (nC BK224.1 hg) ?_
   clear BK223 BK224 HB
   intro BK223 BK224 HB BK228 GW228 GE228 NB223_228 NB228_223 NB224_228 NB228_224
   clear hb hbox hg
   refine hK.out _ _ ⟨(blk_cell BK223.1 0).trans rfl, (blk_cell BK223.1 1).trans rfl⟩ (fun hHeld => ?_)
   clear hK K
   refine norm_ (a' := ?_) ?_ ?_
   rotate_left
   · show Act.put _ (some 5) _ = _
     simp only [Act.put, List.setIfInBounds_toArray, List.set_cons_zero, List.set_cons_succ, i64_w, i32_w]
     rfl
   refine one_ (i := 5) (N := some 15) #[Yy,Yy,Yy,Yy,Yy,Yy,Zz,Yy,Zz] rfl rfl (one_of HT_.1 (by kernel_rfl)) (by decide) (fun K hK => ?_)
   refine R_make_step (Kd.int .i64) _ 3 (by rfl) (N := 15) rfl 22 _ _ rfl (l0_1.length : Int) rfl rfl Try.underlying22 (.int .i64 0) 8 info3 rfl (by decide) (by omega) 0 (ok := fun _ => True) (okp := fun _ => True) rfl (fun _ hk => hk) trivial (OD) (Nat.le_trans (Nat.mul_le_mul_right _ (OD : (l0_1.length : Int).toNat <= 35184372088832)) (by omega)) (Below.refl _ _) (Nat.le_refl _) ?_
   intro v226 w9 ho10 hb hg_ hnew_
   clear hg_ hnew_
   (first | rw [<- Ny225.1] at ho10 | (simp only [Int.reduceToNat] at ho10; rw [<- Ny225.1] at ho10))
   refine E5 (R_lower ho10 (bZ HB.1)) (bB BK223.1 hb) (bB BK224.1 hb) (bB BK228.1 hb) (bS HB.1 hb) ?_
   clear BK223 BK224 BK228 HB
   intro HO227 BK223 BK224 BK228 HB
   clear hb ho10
   obtain ⟨Ao11, co11, eo11⟩ := R_slice HO227.1
   (first | subst eo11 | (injection eo11 with f1_ f2_ f3_; have f4_ := f1_.symm; have f5_ := f3_.symm; clear f1_ f2_ f3_; subst f4_; subst f5_))
   refine hK.out _ _ ⟨(blk_cell BK223.1 0).trans rfl, (blk_cell BK223.1 1).trans rfl⟩ (fun hHeld => ?_)
   clear hK K
   refine norm_ (a' := ?_) ?_ ?_
   rotate_left
   · show Act.put _ (some 15) _ = _
     simp only [Act.put, List.setIfInBounds_toArray, List.set_cons_zero, List.set_cons_succ, i64_w, i32_w]
     rfl
   refine pureF 6 (N := some 16) HT_.1 ?_
   exact norm_ NA (hCont (.slice Ao11 y225.length co11, gb228) _ ⟨hHeld, (PR HO227.1), (PB BK223.1), (PB BK224.1), (PB BK228.1), GW228.1, GE228.1, NB223_228.1, NB228_223.1, NB224_228.1, NB228_224.1, (BL HB.1)⟩)
 rintro ⟨v226, gb228⟩ w12 ⟨hS_, h0_, h1_, h2_, h3_, h4_, h5_, h6_, h7_, h8_, h9_, h10_⟩
 refine E11 (show Kd.R (Kd.int .i64) 3 w12 w.heap.size (fun _ => True) v226 y225 from h0_) (show w12.heap[gb223]? = some (.cells #[.int .i64 a0_0, .slice A0_1 l0_1.length c0_1] 28 (0, 0)) from h1_) (show w12.heap[gb224]? = some (.cells #[.int .i64 0, .slice none 0 0] 28 (0, 0)) from h2_) (show w12.heap[gb228]? = some (.cells #[.int .i64 0, .slice none 0 0] 28 (0, 0)) from h3_) (show w.heap.size <= gb228 from h4_) (show w.heap.size <= gb228 from h5_) (show gb223 ≠ gb228 from h6_) (show gb228 ≠ gb223 from h7_) (show gb224 ≠ gb228 from h8_) (show gb228 ≠ gb224 from h9_) (show Below w.heap.size w w12 from h10_) ?_
 clear BK223 BK224 HB h0_ h1_ h2_ h3_ h4_ h5_ h6_ h7_ h8_ h9_ h10_
 intro HO227 BK223 BK224 BK228 GW228 GE228 NB223_228 NB228_223 NB224_228 NB228_224 HB
 have hHeld : w12.cell? ⟨gb223, 0, none⟩ = some (.int .i64 a0_0) /\ w12.cell? ⟨gb223, 1, none⟩ = some (.slice A0_1 l0_1.length c0_1) := hS_
 obtain ⟨Ao13, co13, eo13⟩ := R_slice HO227.1
 (first | subst eo13 | (injection eo13 with f1_ f2_ f3_; have f4_ := f1_.symm; have f5_ := f3_.symm; clear f1_ f2_ f3_; subst f4_; subst f5_))
 refine norm_ (a' := ?_) ?_ ?_
 rotate_left
 · simp only [putAll, Act.put, List.setIfInBounds_toArray, List.set_cons_zero, List.set_cons_succ]
   rfl
 refine one_ (i := 8) (N := none) #[Yy,Yy,Yy,Yy,Yy,Yy,Yy,Yy,Yy] rfl rfl (one_of HT_.1 (by kernel_rfl)) (by decide) (fun K hK => ?_)
 obtain ⟨hs14, hs15, hfs14, hfs15⟩ := cz2 BK228.1
 have hns14_0 := NB223_228.1
 have hns14_1 := NB224_228.1
 have hms14_0 := NB228_223.1
 have hms14_1 := NB228_224.1
 refine skip_ (w1 := ?_) (by rfl) rfl ?_ ?_
 rotate_left
 · go_simp
   rfl
 refine hK.out _ _ ⟨(CF2 NB223_228.1 hHeld.1), (CF2 NB223_228.1 hHeld.2)⟩ (fun hHeld => ?_)
 clear hK K
 refine done_ (done_of HT_.1 (by kernel_rfl)) ?_
 obtain ⟨hcz18_0, hcz18_1, hfz18_0, hfz18_1⟩ := cz2 BK228.1
 try go_wp2
 go_loopg [20] k (fun kq v20 w' => ∃ (x20_1 : Int) (x229001_1 : List Int) (u229001 : Value), v20 = .int .i64 x20_1 /\ Aside0 (impl_reordered.l0 kq l1 (y225.length : Int) x20_1 a0_0 l0_1 a0_0 x229001_1 = some (r1, r2)) /\ Aside0 (kq <= k) /\ Aside0 (Kd.R (Kd.int .i64) 3 w' w.heap.size (fun _ => True) u229001 x229001_1) /\ Aside0 (w'.heap[gb223]? = some (.cells #[.int .i64 a0_0, (.slice A0_1 l0_1.length c0_1)] 28 (0, 0))) /\ Aside0 (w'.heap[gb224]? = some (.cells #[.int .i64 0, (.slice none 0 0)] 28 (0, 0))) /\ Aside0 (w'.heap[gb228]? = some (.cells #[.int .i64 a0_0, u229001] 28 (0, 0))) /\ Aside0 (Below w.heap.size w w'))
 case atStart => exact ⟨(0), (y225), (.slice Ao13 y225.length co13), RG, H', ⟨Nat.le_refl _⟩, ⟨by (with_reducible repeat (first | apply R_alloc | apply R_drewN | apply R_drew)); exact R_mono (RQ gb228 1 (RQ gb228 0 (R_types HO227.1 BK228.1 (by decide)) _) _) (fun _ hk => trivial)⟩, ⟨by (with_reducible repeat (first | refine blk_drewN ?_ _ | refine blk_drew ?_ | refine blk_alloc ?_ _)); refine blk_far ?_ NB223_228.1 _; (with_reducible repeat (first | refine blk_drewN ?_ _ | refine blk_drew ?_ | refine blk_alloc ?_ _)); refine blk_far ?_ NB223_228.1 _; (with_reducible repeat (first | refine blk_drewN ?_ _ | refine blk_drew ?_ | refine blk_alloc ?_ _)); exact BK223.1⟩, ⟨by (with_reducible repeat (first | refine blk_drewN ?_ _ | refine blk_drew ?_ | refine blk_alloc ?_ _)); refine blk_far ?_ NB224_228.1 _; (with_reducible repeat (first | refine blk_drewN ?_ _ | refine blk_drew ?_ | refine blk_alloc ?_ _)); refine blk_far ?_ NB224_228.1 _; (with_reducible repeat (first | refine blk_drewN ?_ _ | refine blk_drew ?_ | refine blk_alloc ?_ _)); exact BK224.1⟩, ⟨by (with_reducible repeat (first | refine blk_drewN ?_ _ | refine blk_drew ?_ | refine blk_alloc ?_ _)); refine blk_put (cs := #[.int .i64 a0_0, .slice none 0 0]) ?_ 1 _ rfl; (with_reducible repeat (first | refine blk_drewN ?_ _ | refine blk_drew ?_ | refine blk_alloc ?_ _)); refine blk_put (cs := #[.int .i64 0, .slice none 0 0]) ?_ 0 _ rfl; (with_reducible repeat (first | refine blk_drewN ?_ _ | refine blk_drew ?_ | refine blk_alloc ?_ _)); exact BK228.1⟩, ⟨BL HB.1⟩⟩
 clear H'
 try clear c1; clear c3b0 c3b1 c4b0 c4b1 hcz18_0 hcz18_1 hfz18_0 hfz18_1
 obtain ⟨x20_1, x229001_1, u229001, rfl, HA, HK1, HO_229001, BK223, BK224, BK228, HB⟩ := hrel
 cases gk with
 | zero => exact absurd HA.1 (by simp [impl_reordered.l0])
 | succ k1 => ?_
 have H := HA.1
 clear HA
 simp only [impl_reordered.l0] at H
 replace H := ifB H; rcases H with ⟨c19b0, H⟩ | ⟨c19b0, H⟩
 · have H' := Aside0.mk H
   clear H
   go_wp2
   go_loopg [7, 25] k1 (fun kq v7 v25 w' => ∃ (x7_2 : Int) (x25_2 : Int), v7 = .int .i64 x7_2 /\ v25 = .int .i64 x25_2 /\ Aside0 (impl_reordered.l1 kq l1 x20_1 x7_2 (y225.length : Int) x20_1 l1 (l1.length : Int) x25_2 a0_0 l0_1 a0_0 x229001_1 = some (r1, r2)) /\ Aside0 (kq <= k1) /\ Aside0 (Kd.R (Kd.int .i64) 3 w' w.heap.size (fun _ => True) u229001 x229001_1) /\ Aside0 (w'.heap[gb223]? = some (.cells #[.int .i64 a0_0, (.slice A0_1 l0_1.length c0_1)] 28 (0, 0))) /\ Aside0 (w'.heap[gb224]? = some (.cells #[.int .i64 0, (.slice none 0 0)] 28 (0, 0))) /\ Aside0 (w'.heap[gb228]? = some (.cells #[.int .i64 a0_0, u229001] 28 (0, 0))) /\ Aside0 (Below w.heap.size w w'))
   case atStart => exact ⟨(0), (0), RG, RG, H', ⟨Nat.le_refl _⟩, ⟨PR HO_229001.1⟩, ⟨PB BK223.1⟩, ⟨PB BK224.1⟩, ⟨PB BK228.1⟩, ⟨BL HB.1⟩⟩
   clear H'
   try clear c19b0
   obtain ⟨x7_2, x25_2, rfl, rfl, HA, HK2, HO_229001, BK223, BK224, BK228, HB⟩ := hrel
   cases gk with
   | zero => exact absurd HA.1 (by simp [impl_reordered.l1])
   | succ k2 => ?_
   have H := HA.1
   clear HA
   simp only [impl_reordered.l1] at H
   replace H := ifB H; rcases H with ⟨c20b0, H⟩ | ⟨c20b0, H⟩
   · replace H := ifN H; obtain ⟨c21b0, H⟩ := H
     replace H := ifN H; obtain ⟨c22b0, H⟩ := H
     have c23b0 := eq_true (OD : 0 <= x25_2)
     obtain ⟨ji24, hji24⟩ : ∃ j_ : Int, (shr .i64 x20_1 x25_2) = j_ := ⟨_, rfl⟩
     replace H : (if 0 <= (rd l1 x25_2) then (impl_reordered.l1 k2 l1 x20_1 (Go.bits .or .i64 x7_2 (shl .i64 (Go.bits .and .i64 (ji24) 1) (rd l1 x25_2))) (y225.length : Int) x20_1 l1 (l1.length : Int) (wrap64 (x25_2 + 1)) a0_0 l0_1 a0_0 x229001_1) else (none)) = some (r1, r2) := by first | (rw [hji24] at H; exact H) | (simp only [hji24] at H ⊢; exact H)
     have hji24_ : (x20_1 / 2 ^ min x25_2.toNat 64) = ji24 := hji24
     have hji24z : x25_2 <= 64 -> (x20_1 / 2 ^ x25_2.toNat) = ji24 := shr_small hji24
     replace H := ifP H; obtain ⟨c25, H⟩ := H
     have c25b0 := eq_true c25
     have c25b1 := decide_eq_true c25
     clear c25
     obtain ⟨ji26, hji26⟩ : ∃ j_ : Int, (shl .i64 (Go.bits .and .i64 (ji24) 1) (rd l1 x25_2)) = j_ := ⟨_, rfl⟩
     replace H : (impl_reordered.l1 k2 l1 x20_1 (Go.bits .or .i64 x7_2 (ji26)) (y225.length : Int) x20_1 l1 (l1.length : Int) (wrap64 (x25_2 + 1)) a0_0 l0_1 a0_0 x229001_1) = some (r1, r2) := by first | (rw [hji26] at H; exact H) | (simp only [hji26] at H ⊢; exact H)
     have hji26_ : (IntKind.i64.wrap ((Go.bits .and .i64 (ji24) 1) * 2 ^ min (rd l1 x25_2).toNat 64)) = ji26 := hji26
     have hji26z : (rd l1 x25_2) <= 64 -> (IntKind.i64.wrap ((Go.bits .and .i64 (ji24) 1) * 2 ^ (rd l1 x25_2).toNat)) = ji26 := shl_small hji26
     have hji26y : (wrap64 ((Go.bits .and .i64 (ji24) 1) * 2 ^ min (rd l1 x25_2).toNat 64)) = ji26 := (i64_w _).symm.trans hji26_
     have hji26x : (rd l1 x25_2) <= 64 -> (wrap64 ((Go.bits .and .i64 (ji24) 1) * 2 ^ (rd l1 x25_2).toNat)) = ji26 := fun h_ => (i64_w _).symm.trans (hji26z h_)
     have H' := Aside0.mk H
     clear H
     have p229 : 0 <= (x25_2 : Int) := OD
     have q229 : x25_2 < (l1.length : Int) := OD
     obtain ⟨ad229, e229, hx229_0⟩ := Kd.at_int HR1.1 x25_2 p229 q229
     cases e229
     replace hx229_0 := (HB.1.cell (World.block_lt_of_cell? w _ hx229_0)).trans hx229_0
     replace p229 := eq_true p229
     replace q229 := eq_true q229
     go_wp2
     go_roundg k2
     case measure => have := HK1.1; have := HK2.1; omega
     case rel => exact ⟨(Go.bits .or .i64 x7_2 (ji26)), (wrap64 (x25_2 + 1)), (by first | rfl | (simp; done) | (simp only [<- hji26] <;> (first | rfl | simp)) | (simp [*]; done)), RG, H', ⟨by have := HK1.1; have := HK2.1; omega⟩, ⟨PR HO_229001.1⟩, ⟨PB BK223.1⟩, ⟨PB BK224.1⟩, ⟨PB BK228.1⟩, ⟨BL HB.1⟩⟩
   replace H := ifN H; obtain ⟨c27b0, H⟩ := H
   replace H := ifN H; obtain ⟨c28b0, H⟩ := H
   replace H := ifN H; obtain ⟨c29b0, H⟩ := H
   replace H := ifN H; obtain ⟨c30b0, H⟩ := H
   generalize hy231 : ((x229001_1.set (x20_1 : Int).toNat (rd l0_1 x7_2)) : List Int) = y231 at H
   have Ny231 := Aside0.mk hy231.symm; clear hy231
   have H' := Aside0.mk H
   clear H
   try go_wp2
   refine E5 (R_drew HO_229001.1) (blk_drew BK223.1) (blk_drew BK224.1) (blk_drew BK228.1) (below_drew1 HB.1) ?_
   clear HO_229001 BK223 BK224 BK228 HB
   intro HO_229001 BK223 BK224 BK228 HB
   have p230 : 0 <= (x7_2 : Int) := OD
   have q230 : x7_2 < (l0_1.length : Int) := OD
   obtain ⟨ad230, e230, hx230_0⟩ := Kd.at_int HR0_1.1 x7_2 p230 q230
   have hw230_0 := hx230_0
   cases e230
   replace hx230_0 := (HB.1.cell (World.block_lt_of_cell? w _ hx230_0)).trans hx230_0
   replace p230 := eq_true p230
   replace q230 := eq_true q230
   have p31 : 0 <= (x20_1 : Int) := OD
   have q31 : (x20_1 : Int) < ((x229001_1.length : Int) : Int) := OD
   obtain ⟨go31, co31, eo31, gb31, gl31, cl31, HG31⟩ := R_form HO_229001.1 (by omega)
   (first | cases eo31 | (injection eo31 with ea_ en_ ec_; (first | subst ea_ | (injection ea_ with ea_; subst ea_)); subst ec_; clear en_))
   have GB31 := Aside0.mk gb31
   have GG31 := Aside0.mk HG31
   clear gb31 gl31 HG31
   obtain ⟨hx31_0, hf31_0⟩ := R_celln 0 HO_229001.1 (x20_1 : Int) p31 q31
   replace p31 := eq_true p31
   replace q31 := eq_true q31
   have HP33 := R_putn HO_229001.1 (x20_1 : Int) (rd l0_1 x7_2)
   rw [<- Ny231.1] at HP33
   have HQ33 := Aside0.mk HP33
   clear HP33
   refine start_ (n := 10) (S := fun w' => w'.cell? ⟨gb228, 0, none⟩ = some (.int .i64 a0_0) /\ w'.cell? ⟨gb228, 1, none⟩ = some (.slice (some ⟨go31, 0, none⟩) x229001_1.length co31) /\ w'.cell? ⟨gb223, 0, none⟩ = some (.int .i64 a0_0) /\ w'.cell? ⟨gb223, 1, none⟩ = some (.slice (some ad230) l0_1.length c0_1) /\ w'.cell? (ad230.add (x7_2).toNat) = some (.int .i64 (rd l0_1 x7_2))) (ds := [9]) #[Zz,Zz,Zz,Zz,Zz,Zz,Zz,Zz,Zz,Zz] (by kernel_rfl) rfl rfl ⟨(blk_cell BK228.1 0).trans rfl, (blk_cell BK228.1 1).trans rfl, (blk_cell BK223.1 0).trans rfl, (blk_cell BK223.1 1).trans rfl, ((HB.1.cell (World.block_lt_of_cell? w _ hw230_0)).trans hw230_0)⟩ (fun hHeld => ?_); refine with_tabW impl_reordered.tab11 impl_reordered.bits11 (fun HT_ HW_ => ?_)
   generalize wr.drew = w32 at HO_229001 BK223 BK224 BK228 HB GG31 HQ33 hf31_0 hx230_0 hx31_0 hHeld ⊢
   refine pureF 0 (N := some 39) HT_.1 ?_
   refine pureF 2 (N := some 41) HT_.1 ?_
   refine pureF 3 (N := some 42) HT_.1 ?_
   refine pureF 5 (N := some 44) HT_.1 ?_
   refine takeE 1 (N := some 40) HT_.1 HW_.1 hHeld ?_
   refine takeE 4 (N := some 43) HT_.1 HW_.1 hHeld ?_
   refine pureF 6 (N := some 45) HT_.1 ?_
   refine takeE 7 (N := some 46) HT_.1 HW_.1 hHeld ?_
   refine pureF 8 (N := some 47) HT_.1 ?_
   refine last_ (i := 9) (N := none) #[Yy,Yy,Yy,Yy,Yy,Yy,Yy,Yy,Yy,Yy] rfl rfl (one_of HT_.1 (by kernel_rfl)) (by decide) (fun K hK => ?_)
   refine skip_ (w1 := ?_) (by rfl) rfl ?_ ?_
   rotate_left
   · go_simp
     rfl
   refine hK.out _ _ ?_
   clear hK K
   refine done_ (done_of HT_.1 (by kernel_rfl)) ?_
   try go_wp2
   go_roundg k2
   case measure => have := HK1.1; have := HK2.1; omega
   case rel => exact ⟨(wrap64 (x20_1 + 1)), (y231), (.slice (some ⟨go31, 0, none⟩) x229001_1.length co31), RG, H', ⟨by have := HK1.1; have := HK2.1; omega⟩, ⟨PR HQ33.1⟩, ⟨by (with_reducible repeat (first | refine blk_drewN ?_ _ | refine blk_drew ?_ | refine blk_alloc ?_ _)); refine blk_far ?_ (by have h_ := R_ne HO_229001.1 BK223.1 (by decide); intro e_; exact h_ (by rw [e_]; rfl)) _; (with_reducible repeat (first | refine blk_drewN ?_ _ | refine blk_drew ?_ | refine blk_alloc ?_ _)); exact BK223.1⟩, ⟨by (with_reducible repeat (first | refine blk_drewN ?_ _ | refine blk_drew ?_ | refine blk_alloc ?_ _)); refine blk_far ?_ (by have h_ := R_ne HO_229001.1 BK224.1 (by decide); intro e_; exact h_ (by rw [e_]; rfl)) _; (with_reducible repeat (first | refine blk_drewN ?_ _ | refine blk_drew ?_ | refine blk_alloc ?_ _)); exact BK224.1⟩, ⟨by (with_reducible repeat (first | refine blk_drewN ?_ _ | refine blk_drew ?_ | refine blk_alloc ?_ _)); refine blk_far ?_ (by have h_ := R_ne HO_229001.1 BK228.1 (by decide); intro e_; exact h_ (by rw [e_]; rfl)) _; (with_reducible repeat (first | refine blk_drewN ?_ _ | refine blk_drew ?_ | refine blk_alloc ?_ _)); exact BK228.1⟩, ⟨BL HB.1⟩⟩
 simp only [Option.some.injEq, Prod.mk.injEq] at H
 obtain ⟨rfl, rfl⟩ := H
 obtain ⟨hcz36_0, hcz36_1, hfz36_0, hfz36_1⟩ := cz2 BK228.1
 have hnb37 := NB224_223.1
 have hnc37 := NB223_224.1
 obtain ⟨hcz38_0, hcz38_1, hfz38_0, hfz38_1⟩ := cz2 BK224.1
 obtain ⟨Ao39, co39, eo39⟩ := R_slice HO_229001.1
 subst eo39
 go_wp2
 refine bodyPost_ret (results_cell_row rfl _ _ gb224 28 #[.int .i64 a0_0, .slice Ao39 x229001_1.length co39] (0, 0) _ rfl (PF0 BK224.1) Try.underlying28 rfl (by kernel_rfl)) rfl ?_
 exact ⟨_, RF, by (with_reducible repeat (first | apply R_alloc | apply R_drewN | apply R_drew)); exact R_mono (RQ gb224 1 (RQ gb224 0 (R_types HO_229001.1 BK224.1 (by decide)) _) _) (fun _ hk => trivial), BL HB.1⟩
/-! ### impl_swapped: function 49 -/
open Kd
def impl_swapped.l0 : Nat -> Int -> Int -> List Int -> Int -> Int -> List Int -> Option (Int × List Int)
 | 0, _, _, _, _, _, _ => none
 | k + 1, x1, x2, x7, x8, x233000, x233001 => if x8 < x233000 then (if x7.length < 17592186044416 then (impl_swapped.l0 k x1 x2 (x7 ++ [x8]) (wrap64 (x8 + 1)) x233000 x233001) else (none)) else (if 0 <= x1 then (if x1 < (x7.length : Int) then (if 0 <= x2 then (if x2 < (x7.length : Int) then ((impl_reordered.f k x233000 x233001 ((x7.set (x1 : Int).toNat x2).set (x2 : Int).toNat x1)).bind fun bt242 => (some (bt242.1, bt242.2))) else (none)) else (none)) else (none)) else (none))
def impl_swapped.f (k : Nat) (a0_0 : Int) (l0_1 : List Int) (a1 : Int) (a2 : Int) : Option (Int × List Int) := impl_swapped.l0 k a1 a2 (([] : List Int)) 0 a0_0 l0_1
theorem impl_swapped.mono_l : ∀ k, (∀ y0 y1 y2 y3 y4 y5, LeO (impl_swapped.l0 k y0 y1 y2 y3 y4 y5) (impl_swapped.l0 (k + 1) y0 y1 y2 y3 y4 y5))
 | 0 => fun _ _ _ _ _ _ r h => by simp [impl_swapped.l0] at h
 | k + 1 => by
  have ih0 := impl_swapped.mono_l k
  intros
  first | unfold impl_swapped.l0
  exact LM2 ih0 impl_reordered.mono
theorem impl_swapped.mono : ∀ a0 a1 a2 a3 k, LeO (impl_swapped.f k a0 a1 a2 a3) (impl_swapped.f (k + 1) a0 a1 a2 a3) := by
 intro a0 a1 a2 a3 k
 have ih0 := impl_swapped.mono_l k
 unfold impl_swapped.f
 exact LM2 ih0 impl_reordered.mono
theorem impl_swapped.calls (k : Nat) (a0_0 : Int) (A0_1 : Option Addr) (c0_1 : Nat) (l0_1 : List Int) (a1 : Int) (a2 : Int) (r1 : Int) (r2 : List Int) (w : World) (hr0_1 : Kd.C (Kd.int .i64) w A0_1 l0_1.length l0_1) (hc0_1 : l0_1.length <= c0_1) (h : impl_swapped.f k a0_0 l0_1 a1 a2 = some (r1, r2)) :
 Calls Try.prog 49 #[.agg #[.int .i64 a0_0, .slice A0_1 l0_1.length c0_1], .int .i64 a1, .int .i64 a2] w fun e w' => ∃ v1_ : Value, e = .returned (.agg #[.int .i64 r1, v1_]) /\ Kd.R (Kd.int .i64) 3 w' w.heap.size (fun _ => True) v1_ r2 /\ Below w.heap.size w w' := by
 have hu28 := Try.underlying28
 have HR0_1 := Aside0.mk hr0_1
 have HC0_1 := Aside0.mk hc0_1
 clear hr0_1 hc0_1
 have HB := Aside0.mk (Below.refl w.heap.size w)
 have H := h
 clear h
 unfold impl_swapped.f at H
 generalize hy234 : ((([] : List Int)) : List Int) = y234 at H
 have Ny234 := Aside0.mk hy234.symm; clear hy234
 have H' := Aside0.mk H
 clear H
 go_enter Try.func49, Try.ntmps49
 go_wp2_with (first | ((with_reducible refine gate_dst (N := 3) rfl ?_); refine boxE (cs := #[.int .i64 a0_0, .slice A0_1 l0_1.length c0_1]) (t := 28) ?_; intro gb232 hg w4 hbox hb; refine E4b HB.1 hg hbox hb ?_; clear HB; intro HB BK232 GW232 GE232; clear hb hbox hg) | ((with_reducible refine gate_dst (N := 6) rfl ?_); refine boxE (cs := #[.int .i64 0, .slice none 0 0]) (t := 28) ?_; intro gb233 hg w5 hbox hb; refine E7 (bB BK232.1 hb) (bS HB.1 hb) (hbox) (gX HB.1 hg) (gX HB.1 hg) (nB BK232.1 hg) (nC BK232.1 hg) ?_; clear BK232 HB; intro BK232 HB BK233 GW233 GE233 NB232_233 NB233_232; clear hb hbox hg) | ((with_reducible refine gate_dst (N := 9) rfl ?_); refine R_lit (Kd.int .i64) _ 3 ?hg (N := 9) ?hd (xs := ([] : List Int)) (inner := []) (ok := fun _ => True) (okp := fun _ => True) ?hr ?hp (fun _ hk => hk) trivial (Below.refl _ _) (Nat.le_refl _) (by simp) ?_; (case hd => rfl); (case hg => rfl); (case hr => first | (go_simp; done) | (go_simp; rfl)); (case hp => exact (Reps.none _ _)); intro v235 w6 ho7 hb hg_ hnew_; clear hg_ hnew_; (first | rw [<- Ny234.1] at ho7 | (simp only [Int.reduceToNat] at ho7; rw [<- Ny234.1] at ho7)); refine E4 (R_lower ho7 (bZ HB.1)) (bB BK232.1 hb) (bB BK233.1 hb) (bS HB.1 hb) ?_; clear BK232 BK233 HB; intro HO236 BK232 BK233 HB; clear hb ho7))
 go_loopg [7, 8] k (fun kq v7 v8 w' => ∃ (x7_1 : List Int) (x8_1 : Int), v8 = .int .i64 x8_1 /\ Aside0 (impl_swapped.l0 kq a1 a2 x7_1 x8_1 a0_0 l0_1 = some (r1, r2)) /\ Aside0 (kq <= k) /\ Aside0 (Kd.R (Kd.int .i64) 3 w' w.heap.size (fun _ => True) v7 x7_1) /\ Aside0 (w'.heap[gb232]? = some (.cells #[.int .i64 a0_0, (.slice A0_1 l0_1.length c0_1)] 28 (0, 0))) /\ Aside0 (w'.heap[gb233]? = some (.cells #[.int .i64 0, (.slice none 0 0)] 28 (0, 0))) /\ Aside0 (Below w.heap.size w w'))
 case atStart => exact ⟨(y234), (0), RG, H', ⟨Nat.le_refl _⟩, ⟨PR HO236.1⟩, ⟨PB BK232.1⟩, ⟨PB BK233.1⟩, ⟨BL HB.1⟩⟩
 clear H'
 obtain ⟨x7_1, x8_1, rfl, HA, HK1, HO_7, BK232, BK233, HB⟩ := hrel
 cases gk with
 | zero => exact absurd HA.1 (by simp [impl_swapped.l0])
 | succ k1 => ?_
 have H := HA.1
 clear HA
 simp only [impl_swapped.l0] at H
 replace H := ifB H; rcases H with ⟨c8b0, H⟩ | ⟨c8b0, H⟩
 · replace H := ifP H; obtain ⟨c9, H⟩ := H
   have LMc9 := Aside0.mk c9
   clear c9
   generalize hy237 : ((x7_1 ++ [x8_1]) : List Int) = y237 at H
   have Ny237 := Aside0.mk hy237.symm; clear hy237
   have H' := Aside0.mk H
   clear H
   have hnb10 := NB232_233.1
   have hnc10 := NB233_232.1
   obtain ⟨hcz11_0, hcz11_1, hfz11_0, hfz11_1⟩ := cz2 BK232.1
   go_wp2_with (first | ((with_reducible refine gate_builtin (b := .append) (xs := #[.tmp 16, .tmp 18]) rfl ?_); at_builtin; refine R_append (Kd.int .i64) (w0 := w) w.heap.size rfl (.tmp 16) (.tmp 18) 22 3 (.int .i64 0) 8 rfl Try.underlying22 info3 rfl (by decide) (by omega) u7 x7_1 x8_1 [.int .i64 x8_1] (fun _ => True) (fun _ => False) rfl rfl ?aP (fun _ hk => hk.elim) ?aF ?aO ?aB ?aS ?aL ?_; (case aP => exact rfl); (case aB => exact (BL HB.1)); (case aF => exact (fun _ _ => trivial)); (case aO => exact (PR HO_7.1)); (case aS => exact (bZ HB.1)); (case aL => have := LMc9.1; omega); intro v238 w12 ho hb hg hat; rw [<- Ny237.1] at ho; refine E4 (bG BK232.1 hg (R_ne HO_7.1 BK232.1 (by decide))) (bG BK233.1 hg (R_ne HO_7.1 BK233.1 (by decide))) (hb) (ho) ?_; clear BK232 BK233 HB HO_7; intro BK232 BK233 HB HO239; clear ho hb hg hat))
   go_roundg k1
   case measure => have := HK1.1; omega
   case rel => exact ⟨(y237), (wrap64 (x8_1 + 1)), RG, H', ⟨by have := HK1.1; omega⟩, ⟨PR HO239.1⟩, ⟨PB BK232.1⟩, ⟨PB BK233.1⟩, ⟨BL HB.1⟩⟩
 replace H := ifN H; obtain ⟨c13b0, H⟩ := H
 replace H := ifN H; obtain ⟨c14b0, H⟩ := H
 generalize hy240 : ((x7_1.set (a1 : Int).toNat a2) : List Int) = y240 at H
 have Ny240 := Aside0.mk hy240.symm; clear hy240
 replace H := ifN H; obtain ⟨c16b0, H⟩ := H
 replace H := ifN H; obtain ⟨c17b0, H⟩ := H
 generalize hy241 : ((y240.set (a2 : Int).toNat a1) : List Int) = y241 at H
 have Ny241 := Aside0.mk hy241.symm; clear hy241
 replace H := bindA H; obtain ⟨⟨t242, t243⟩, A19, H⟩ := H
 dsimp only at H
 simp only [Option.some.injEq, Prod.mk.injEq] at H
 obtain ⟨rfl, rfl⟩ := H
 have hnb20 := NB232_233.1
 have hnc20 := NB233_232.1
 obtain ⟨hcz21_0, hcz21_1, hfz21_0, hfz21_1⟩ := cz2 BK232.1
 have p15 : 0 <= (a1 : Int) := OD
 have q15 : (a1 : Int) < ((x7_1.length : Int) : Int) := OD
 obtain ⟨go15, co15, eo15, gb15, gl15, cl15, HG15⟩ := R_form HO_7.1 (by omega)
 (first | cases eo15 | (injection eo15 with ea_ en_ ec_; (first | subst ea_ | (injection ea_ with ea_; subst ea_)); subst ec_; clear en_))
 have GB15 := Aside0.mk gb15
 have GG15 := Aside0.mk HG15
 clear gb15 gl15 HG15
 obtain ⟨hx15_0, hf15_0⟩ := R_celln 0 HO_7.1 (a1 : Int) p15 q15
 replace p15 := eq_true p15
 replace q15 := eq_true q15
 have HP22 := R_putg HO_7.1 (a1 : Int) a2
 go_wp2_with (first | ((with_reducible refine gate_store (t := 3) (p := 26) rfl ?_); refine storeE (t := 3) (p := 26) (w1 := (wr.setCell ⟨go15, (a1 : Int).toNat, none⟩ (.int .i64 a2))) ?_; intro w23 hw; have hg : wr.grownBy w23 (some go15) := (by rw [hw]; exact HP22.2); have hp_ : Kd.R (Kd.int .i64) 3 w23 w.heap.size (fun _ => True) (.slice (some ⟨go15, 0, none⟩) x7_1.length co15) y240 := (by rw [hw, Ny240.1]; exact HP22.1); clear HP22; refine E4 (hp_) (bG BK232.1 hg (R_ne HO_7.1 BK232.1 (by decide))) (bG BK233.1 hg (R_ne HO_7.1 BK233.1 (by decide))) ((by rw [hw]; exact below_set (HB.1) GB15.1 : Below w.heap.size w w23)) ?_; clear HO_7 BK232 BK233 HB; intro HO_7 BK232 BK233 HB; clear hg hw hp_; have p18 : 0 <= (a2 : Int) := OD; have q18 : (a2 : Int) < ((x7_1.length : Int) : Int) := OD; obtain ⟨hx18_0, hf18_0⟩ := R_celln 0 HO_7.1 (a2 : Int) p18 q18; replace p18 := eq_true p18; replace q18 := eq_true q18; obtain ⟨hy24_, hz24_⟩ := R_celln 0 HO_7.1 (a2 : Int) (OD) (OD); have HP24 := R_putg HO_7.1 (a2 : Int) a1) | ((with_reducible refine gate_store (t := 3) (p := 27) rfl ?_); refine storeE (t := 3) (p := 27) (w1 := (w23.setCell ⟨go15, (a2 : Int).toNat, none⟩ (.int .i64 a1))) ?_; intro w25 hw; have hg : w23.grownBy w25 (some go15) := (by rw [hw]; exact HP24.2); have hp_ : Kd.R (Kd.int .i64) 3 w25 w.heap.size (fun _ => True) (.slice (some ⟨go15, 0, none⟩) x7_1.length co15) y241 := (by rw [hw, Ny241.1]; exact HP24.1); clear HP24; refine E4 (hp_) (bG BK232.1 hg (R_ne HO_7.1 BK232.1 (by decide))) (bG BK233.1 hg (R_ne HO_7.1 BK233.1 (by decide))) ((by rw [hw]; exact below_set (HB.1) GB15.1 : Below w.heap.size w w25)) ?_; clear HO_7 BK232 BK233 HB; intro HO_7 BK232 BK233 HB; clear hg hw hp_; obtain ⟨hcz26_0, hcz26_1, hfz26_0, hfz26_1⟩ := cz2 BK232.1) | ((with_reducible refine gate_callee (f := 42) rfl ?_); refine goesL_ (some 30) rfl rfl Try.func42 (by kernel_rfl) rfl #[.agg #[.int .i64 a0_0, .slice A0_1 l0_1.length c0_1], .slice (some ⟨go15, 0, none⟩) y241.length co15] rfl (by (try simp only [List.map_toArray, List.map_cons, List.map_nil]); first | done | (rw [show y241.length = x7_1.length from (R_reads' HO_7.1).1.symm] <;> rfl) | rfl | (simp only [List.length_drop, List.length_take]; rfl)) ?_; (with_reducible refine (impl_reordered.calls k1 a0_0 _ _ l0_1 _ _ y241 t242 t243 _ ?side1 ?side2 ?side3 ?side4 A19.1).mono ?_); (case side1 => exact CB (C_below HR0_1.1 HB.1)); (case side2 => exact HC0_1.1); (case side3 => exact CB (R_reads' HO_7.1).2.2); (case side4 => rw [show y241.length = x7_1.length from (R_reads' HO_7.1).1.symm]; exact (R_reads' HO_7.1).2.1); rintro e w27 ⟨v244, rfl, ho0, hb⟩; refine ⟨_, rfl, ?_⟩; refine E5 (R_elder' (PR HO_7.1) (R_base ho0) hb) (R_lower (R_new' ho0 (R_lt (PR HO_7.1))) (bZ HB.1)) (bB BK232.1 hb) (bB BK233.1 hb) (bS HB.1 hb) ?_; clear HO_7 BK232 BK233 HB; intro HO_7 HO245 BK232 BK233 HB; (try clear hb); (try clear ho0); obtain ⟨hcz28_0, hcz28_1, hfz28_0, hfz28_1⟩ := cz2 BK233.1; obtain ⟨Ao29, co29, eo29⟩ := R_slice HO245.1; subst eo29))
 refine bodyPost_ret (results_cell_row rfl _ _ gb233 28 #[.int .i64 t242, .slice Ao29 t243.length co29] (0, 0) _ rfl (PF0 BK233.1) Try.underlying28 rfl (by kernel_rfl)) rfl ?_
 exact ⟨_, RF, by (with_reducible repeat (first | apply R_alloc | apply R_drewN | apply R_drew)); exact R_mono (RQ gb233 1 (RQ gb233 0 (R_types HO245.1 BK233.1 (by decide)) _) _) (fun _ hk => trivial), BL HB.1⟩
/-! ### impl_SwapInputs: function 18 -/
open Kd
def impl_SwapInputs.f (k : Nat) (a0_0 : Int) (l0_1 : List Int) (a1 : Int) (a2 : Int) : Option (Int × List Int × Bool) := (impl_IsTable.f k a0_0 l0_1).bind fun t248 => (if t248 = true then (if a1 < 0 then (some (0, ([] : List Int), false)) else (if a1 ≥ a0_0 then (some (0, ([] : List Int), false)) else (if a2 < 0 then (some (0, ([] : List Int), false)) else (if a2 ≥ a0_0 then (some (0, ([] : List Int), false)) else ((impl_swapped.f k a0_0 l0_1 a1 a2).bind fun bt249 => (some (bt249.1, bt249.2, true))))))) else (some (0, ([] : List Int), false)))
theorem impl_SwapInputs.mono : ∀ a0 a1 a2 a3 k, LeO (impl_SwapInputs.f k a0 a1 a2 a3) (impl_SwapInputs.f (k + 1) a0 a1 a2 a3) := by
 intro a0 a1 a2 a3 k
 unfold impl_SwapInputs.f
 repeat' first
  | (with_reducible exact impl_IsTable.mono _ _ _)
  | (with_reducible exact impl_swapped.mono _ _ _ _ _)
  | (with_reducible exact LeO.refl _)
  | (with_reducible exact LeO.none _)
  | (with_reducible refine LeO.ite ?_ ?_)
  | (with_reducible refine LeO.bind ?_ (fun _ => ?_))
  | exact impl_IsTable.mono _ _ _
  | exact impl_swapped.mono _ _ _ _ _
  | exact LeO.none _
  | refine LeO.ite ?_ ?_
  | refine LeO.bind ?_ (fun _ => ?_)
theorem impl_SwapInputs.calls (k : Nat) (a0_0 : Int) (A0_1 : Option Addr) (c0_1 : Nat) (l0_1 : List Int) (a1 : Int) (a2 : Int) (r1 : Int) (r2 : List Int) (r3 : Bool) (w : World) (hr0_1 : Kd.C (Kd.int .i64) w A0_1 l0_1.length l0_1) (hc0_1 : l0_1.length <= c0_1) (h : impl_SwapInputs.f k a0_0 l0_1 a1 a2 = some (r1, r2, r3)) :
 Calls Try.prog 18 #[.agg #[.int .i64 a0_0, .slice A0_1 l0_1.length c0_1], .int .i64 a1, .int .i64 a2] w fun e w' => ∃ v1_ : Value, e = .returned (.tuple #[.agg #[.int .i64 r1, v1_], .bool r3]) /\ Kd.R (Kd.int .i64) 3 w' w.heap.size (fun _ => True) v1_ r2 /\ Below w.heap.size w w' := by
 have hu28 := Try.underlying28
 have HR0_1 := Aside0.mk hr0_1
 have HC0_1 := Aside0.mk hc0_1
 clear hr0_1 hc0_1
 have HB := Aside0.mk (Below.refl w.heap.size w)
 have H := h
 clear h
 unfold impl_SwapInputs.f at H
 replace H := bindA H; obtain ⟨t248, A4, H⟩ := H
 replace H := ifX H; rcases H with ⟨rfl, H⟩ | ⟨rfl, H⟩
 · replace H := ifB H; rcases H with ⟨c6b0, H⟩ | ⟨c6b0, H⟩
   · simp only [Option.some.injEq, Prod.mk.injEq] at H
     obtain ⟨rfl, rfl, rfl⟩ := H
     go_enter Try.func18, Try.ntmps18
     go_wp2_with (first | ((with_reducible refine gate_dst (N := 3) rfl ?_); refine boxE (cs := #[.int .i64 a0_0, .slice A0_1 l0_1.length c0_1]) (t := 28) ?_; intro gb246 hg w7 hbox hb; refine E4b HB.1 hg hbox hb ?_; clear HB; intro HB BK246 GW246 GE246; clear hb hbox hg) | ((with_reducible refine gate_dst (N := 6) rfl ?_); refine boxE (cs := #[.int .i64 0, .slice none 0 0]) (t := 28) ?_; intro gb247 hg w8 hbox hb; refine E7 (bB BK246.1 hb) (bS HB.1 hb) (hbox) (gX HB.1 hg) (gX HB.1 hg) (nB BK246.1 hg) (nC BK246.1 hg) ?_; clear BK246 HB; intro BK246 HB BK247 GW247 GE247 NB246_247 NB247_246; clear hb hbox hg; have hnb9 := NB246_247.1; have hnc9 := NB247_246.1; obtain ⟨hcz10_0, hcz10_1, hfz10_0, hfz10_1⟩ := cz2 BK246.1) | ((with_reducible refine gate_callee (f := 39) rfl ?_); refine goesM (N := (some 9)) #[.agg #[.int .i64 a0_0, .slice A0_1 l0_1.length c0_1]] Try.func39 ?_; (with_reducible refine (impl_IsTable.calls k a0_0 _ _ l0_1 true _ ?side1 ?side2 A4.1).mono ?_); (case side1 => exact CB (C_below HR0_1.1 HB.1)); (case side2 => exact HC0_1.1); rintro e w11 ⟨rfl, hb⟩; refine ⟨_, rfl, ?_⟩; refine E3 (bB BK246.1 hb) (bB BK247.1 hb) (bS HB.1 hb) ?_; clear BK246 BK247 HB; intro BK246 BK247 HB; (try clear hb); obtain ⟨hcz12_0, hcz12_1, hfz12_0, hfz12_1⟩ := cz2 BK247.1))
     refine bodyPost_ret (results_ct rfl _ _ gb247 28 #[.int .i64 0, .slice none 0 0] (0, 0) _ rfl (PF0 BK247.1) Try.underlying28 rfl (by kernel_rfl)) rfl ?_
     exact ⟨_, RF, by first | exact R_nil _ _ _ _ _ | exact N_nil _ _ _ _ _ | exact V_nil _ _ _ _ _ | exact Q_nil _ _ _ _ _ | exact S_nil _ _ _ _ _, BL HB.1⟩
   replace H := ifQ H; rcases H with ⟨c13, H⟩ | ⟨c13, H⟩
   · have c13b0 : decide (a0_0 <= a1) = true := decide_eq_true c13
     clear c13
     simp only [Option.some.injEq, Prod.mk.injEq] at H
     obtain ⟨rfl, rfl, rfl⟩ := H
     go_enter Try.func18, Try.ntmps18
     go_wp2_with (first | ((with_reducible refine gate_dst (N := 3) rfl ?_); refine boxE (cs := #[.int .i64 a0_0, .slice A0_1 l0_1.length c0_1]) (t := 28) ?_; intro gb246 hg w14 hbox hb; refine E4b HB.1 hg hbox hb ?_; clear HB; intro HB BK246 GW246 GE246; clear hb hbox hg) | ((with_reducible refine gate_dst (N := 6) rfl ?_); refine boxE (cs := #[.int .i64 0, .slice none 0 0]) (t := 28) ?_; intro gb247 hg w15 hbox hb; refine E7 (bB BK246.1 hb) (bS HB.1 hb) (hbox) (gX HB.1 hg) (gX HB.1 hg) (nB BK246.1 hg) (nC BK246.1 hg) ?_; clear BK246 HB; intro BK246 HB BK247 GW247 GE247 NB246_247 NB247_246; clear hb hbox hg; have hnb16 := NB246_247.1; have hnc16 := NB247_246.1; obtain ⟨hcz17_0, hcz17_1, hfz17_0, hfz17_1⟩ := cz2 BK246.1) | ((with_reducible refine gate_callee (f := 39) rfl ?_); refine goesM (N := (some 9)) #[.agg #[.int .i64 a0_0, .slice A0_1 l0_1.length c0_1]] Try.func39 ?_; (with_reducible refine (impl_IsTable.calls k a0_0 _ _ l0_1 true _ ?side1 ?side2 A4.1).mono ?_); (case side1 => exact CB (C_below HR0_1.1 HB.1)); (case side2 => exact HC0_1.1); rintro e w18 ⟨rfl, hb⟩; refine ⟨_, rfl, ?_⟩; refine E3 (bB BK246.1 hb) (bB BK247.1 hb) (bS HB.1 hb) ?_; clear BK246 BK247 HB; intro BK246 BK247 HB; (try clear hb); obtain ⟨hcz19_0, hcz19_1, hfz19_0, hfz19_1⟩ := cz2 BK246.1; obtain ⟨hcz20_0, hcz20_1, hfz20_0, hfz20_1⟩ := cz2 BK247.1))
     refine bodyPost_ret (results_ct rfl _ _ gb247 28 #[.int .i64 0, .slice none 0 0] (0, 0) _ rfl (PF0 BK247.1) Try.underlying28 rfl (by kernel_rfl)) rfl ?_
     exact ⟨_, RF, by first | exact R_nil _ _ _ _ _ | exact N_nil _ _ _ _ _ | exact V_nil _ _ _ _ _ | exact Q_nil _ _ _ _ _ | exact S_nil _ _ _ _ _, BL HB.1⟩
   have c13b0 : decide (a0_0 <= a1) = false := decide_eq_false c13
   clear c13
   replace H := ifB H; rcases H with ⟨c21b0, H⟩ | ⟨c21b0, H⟩
   · simp only [Option.some.injEq, Prod.mk.injEq] at H
     obtain ⟨rfl, rfl, rfl⟩ := H
     go_enter Try.func18, Try.ntmps18
     go_wp2_with (first | ((with_reducible refine gate_dst (N := 3) rfl ?_); refine boxE (cs := #[.int .i64 a0_0, .slice A0_1 l0_1.length c0_1]) (t := 28) ?_; intro gb246 hg w22 hbox hb; refine E4b HB.1 hg hbox hb ?_; clear HB; intro HB BK246 GW246 GE246; clear hb hbox hg) | ((with_reducible refine gate_dst (N := 6) rfl ?_); refine boxE (cs := #[.int .i64 0, .slice none 0 0]) (t := 28) ?_; intro gb247 hg w23 hbox hb; refine E7 (bB BK246.1 hb) (bS HB.1 hb) (hbox) (gX HB.1 hg) (gX HB.1 hg) (nB BK246.1 hg) (nC BK246.1 hg) ?_; clear BK246 HB; intro BK246 HB BK247 GW247 GE247 NB246_247 NB247_246; clear hb hbox hg; have hnb24 := NB246_247.1; have hnc24 := NB247_246.1; obtain ⟨hcz25_0, hcz25_1, hfz25_0, hfz25_1⟩ := cz2 BK246.1) | ((with_reducible refine gate_callee (f := 39) rfl ?_); refine goesM (N := (some 9)) #[.agg #[.int .i64 a0_0, .slice A0_1 l0_1.length c0_1]] Try.func39 ?_; (with_reducible refine (impl_IsTable.calls k a0_0 _ _ l0_1 true _ ?side1 ?side2 A4.1).mono ?_); (case side1 => exact CB (C_below HR0_1.1 HB.1)); (case side2 => exact HC0_1.1); rintro e w26 ⟨rfl, hb⟩; refine ⟨_, rfl, ?_⟩; refine E3 (bB BK246.1 hb) (bB BK247.1 hb) (bS HB.1 hb) ?_; clear BK246 BK247 HB; intro BK246 BK247 HB; (try clear hb); obtain ⟨hcz27_0, hcz27_1, hfz27_0, hfz27_1⟩ := cz2 BK246.1; obtain ⟨hcz28_0, hcz28_1, hfz28_0, hfz28_1⟩ := cz2 BK247.1))
     refine bodyPost_ret (results_ct rfl _ _ gb247 28 #[.int .i64 0, .slice none 0 0] (0, 0) _ rfl (PF0 BK247.1) Try.underlying28 rfl (by kernel_rfl)) rfl ?_
     exact ⟨_, RF, by first | exact R_nil _ _ _ _ _ | exact N_nil _ _ _ _ _ | exact V_nil _ _ _ _ _ | exact Q_nil _ _ _ _ _ | exact S_nil _ _ _ _ _, BL HB.1⟩
   replace H := ifQ H; rcases H with ⟨c29, H⟩ | ⟨c29, H⟩
   · have c29b0 : decide (a0_0 <= a2) = true := decide_eq_true c29
     clear c29
     simp only [Option.some.injEq, Prod.mk.injEq] at H
     obtain ⟨rfl, rfl, rfl⟩ := H
     go_enter Try.func18, Try.ntmps18
     go_wp2_with (first | ((with_reducible refine gate_dst (N := 3) rfl ?_); refine boxE (cs := #[.int .i64 a0_0, .slice A0_1 l0_1.length c0_1]) (t := 28) ?_; intro gb246 hg w30 hbox hb; refine E4b HB.1 hg hbox hb ?_; clear HB; intro HB BK246 GW246 GE246; clear hb hbox hg) | ((with_reducible refine gate_dst (N := 6) rfl ?_); refine boxE (cs := #[.int .i64 0, .slice none 0 0]) (t := 28) ?_; intro gb247 hg w31 hbox hb; refine E7 (bB BK246.1 hb) (bS HB.1 hb) (hbox) (gX HB.1 hg) (gX HB.1 hg) (nB BK246.1 hg) (nC BK246.1 hg) ?_; clear BK246 HB; intro BK246 HB BK247 GW247 GE247 NB246_247 NB247_246; clear hb hbox hg; have hnb32 := NB246_247.1; have hnc32 := NB247_246.1; obtain ⟨hcz33_0, hcz33_1, hfz33_0, hfz33_1⟩ := cz2 BK246.1) | ((with_reducible refine gate_callee (f := 39) rfl ?_); refine goesM (N := (some 9)) #[.agg #[.int .i64 a0_0, .slice A0_1 l0_1.length c0_1]] Try.func39 ?_; (with_reducible refine (impl_IsTable.calls k a0_0 _ _ l0_1 true _ ?side1 ?side2 A4.1).mono ?_); (case side1 => exact CB (C_below HR0_1.1 HB.1)); (case side2 => exact HC0_1.1); rintro e w34 ⟨rfl, hb⟩; refine ⟨_, rfl, ?_⟩; refine E3 (bB BK246.1 hb) (bB BK247.1 hb) (bS HB.1 hb) ?_; clear BK246 BK247 HB; intro BK246 BK247 HB; (try clear hb); obtain ⟨hcz35_0, hcz35_1, hfz35_0, hfz35_1⟩ := cz2 BK246.1; obtain ⟨hcz36_0, hcz36_1, hfz36_0, hfz36_1⟩ := cz2 BK247.1))
     refine bodyPost_ret (results_ct rfl _ _ gb247 28 #[.int .i64 0, .slice none 0 0] (0, 0) _ rfl (PF0 BK247.1) Try.underlying28 rfl (by kernel_rfl)) rfl ?_
     exact ⟨_, RF, by first | exact R_nil _ _ _ _ _ | exact N_nil _ _ _ _ _ | exact V_nil _ _ _ _ _ | exact Q_nil _ _ _ _ _ | exact S_nil _ _ _ _ _, BL HB.1⟩
   have c29b0 : decide (a0_0 <= a2) = false := decide_eq_false c29
   clear c29
   replace H := bindA H; obtain ⟨⟨t249, t250⟩, A37, H⟩ := H
   dsimp only at H
   simp only [Option.some.injEq, Prod.mk.injEq] at H
   obtain ⟨rfl, rfl, rfl⟩ := H
   go_enter Try.func18, Try.ntmps18
   go_wp2_with (first | ((with_reducible refine gate_dst (N := 3) rfl ?_); refine boxE (cs := #[.int .i64 a0_0, .slice A0_1 l0_1.length c0_1]) (t := 28) ?_; intro gb246 hg w38 hbox hb; refine E4b HB.1 hg hbox hb ?_; clear HB; intro HB BK246 GW246 GE246; clear hb hbox hg) | ((with_reducible refine gate_dst (N := 6) rfl ?_); refine boxE (cs := #[.int .i64 0, .slice none 0 0]) (t := 28) ?_; intro gb247 hg w39 hbox hb; refine E7 (bB BK246.1 hb) (bS HB.1 hb) (hbox) (gX HB.1 hg) (gX HB.1 hg) (nB BK246.1 hg) (nC BK246.1 hg) ?_; clear BK246 HB; intro BK246 HB BK247 GW247 GE247 NB246_247 NB247_246; clear hb hbox hg; have hnb40 := NB246_247.1; have hnc40 := NB247_246.1; obtain ⟨hcz41_0, hcz41_1, hfz41_0, hfz41_1⟩ := cz2 BK246.1) | ((with_reducible refine gate_callee (f := 39) rfl ?_); refine goesM (N := (some 9)) #[.agg #[.int .i64 a0_0, .slice A0_1 l0_1.length c0_1]] Try.func39 ?_; (with_reducible refine (impl_IsTable.calls k a0_0 _ _ l0_1 true _ ?side1 ?side2 A4.1).mono ?_); (case side1 => exact CB (C_below HR0_1.1 HB.1)); (case side2 => exact HC0_1.1); rintro e w42 ⟨rfl, hb⟩; refine ⟨_, rfl, ?_⟩; refine E3 (bB BK246.1 hb) (bB BK247.1 hb) (bS HB.1 hb) ?_; clear BK246 BK247 HB; intro BK246 BK247 HB; (try clear hb); obtain ⟨hcz43_0, hcz43_1, hfz43_0, hfz43_1⟩ := cz2 BK246.1) | ((with_reducible refine gate_callee (f := 49) rfl ?_); refine goesM (N := (some 35)) #[.agg #[.int .i64 a0_0, .slice A0_1 l0_1.length c0_1], .int .i64 a1, .int .i64 a2] Try.func49 ?_; (with_reducible refine (impl_swapped.calls k a0_0 _ _ l0_1 a1 a2 t249 t250 _ ?side1 ?side2 A37.1).mono ?_); (case side1 => exact CB (C_below HR0_1.1 HB.1)); (case side2 => exact HC0_1.1); rintro e w44 ⟨v251, rfl, ho0, hb⟩; refine ⟨_, rfl, ?_⟩; refine E4 (R_lower ho0 (bZ HB.1)) (bB BK246.1 hb) (bB BK247.1 hb) (bS HB.1 hb) ?_; clear BK246 BK247 HB; intro HO252 BK246 BK247 HB; (try clear hb); (try clear ho0); obtain ⟨hcz45_0, hcz45_1, hfz45_0, hfz45_1⟩ := cz2 BK247.1; obtain ⟨Ao46, co46, eo46⟩ := R_slice HO252.1; subst eo46))
   refine bodyPost_ret (results_ct rfl _ _ gb247 28 #[.int .i64 t249, .slice Ao46 t250.length co46] (0, 0) _ rfl (PF0 BK247.1) Try.underlying28 rfl (by kernel_rfl)) rfl ?_
   exact ⟨_, RF, by (with_reducible repeat (first | apply R_alloc | apply R_drewN | apply R_drew)); exact R_mono (RQ gb247 1 (RQ gb247 0 (R_types HO252.1 BK247.1 (by decide)) _) _) (fun _ hk => trivial), BL HB.1⟩
 simp only [Option.some.injEq, Prod.mk.injEq] at H
 obtain ⟨rfl, rfl, rfl⟩ := H
 go_enter Try.func18, Try.ntmps18
 go_wp2_with (first | ((with_reducible refine gate_dst (N := 3) rfl ?_); refine boxE (cs := #[.int .i64 a0_0, .slice A0_1 l0_1.length c0_1]) (t := 28) ?_; intro gb246 hg w47 hbox hb; refine E4b HB.1 hg hbox hb ?_; clear HB; intro HB BK246 GW246 GE246; clear hb hbox hg) | ((with_reducible refine gate_dst (N := 6) rfl ?_); refine boxE (cs := #[.int .i64 0, .slice none 0 0]) (t := 28) ?_; intro gb247 hg w48 hbox hb; refine E7 (bB BK246.1 hb) (bS HB.1 hb) (hbox) (gX HB.1 hg) (gX HB.1 hg) (nB BK246.1 hg) (nC BK246.1 hg) ?_; clear BK246 HB; intro BK246 HB BK247 GW247 GE247 NB246_247 NB247_246; clear hb hbox hg; have hnb49 := NB246_247.1; have hnc49 := NB247_246.1; obtain ⟨hcz50_0, hcz50_1, hfz50_0, hfz50_1⟩ := cz2 BK246.1) | ((with_reducible refine gate_callee (f := 39) rfl ?_); refine goesM (N := (some 9)) #[.agg #[.int .i64 a0_0, .slice A0_1 l0_1.length c0_1]] Try.func39 ?_; (with_reducible refine (impl_IsTable.calls k a0_0 _ _ l0_1 false _ ?side1 ?side2 A4.1).mono ?_); (case side1 => exact CB (C_below HR0_1.1 HB.1)); (case side2 => exact HC0_1.1); rintro e w51 ⟨rfl, hb⟩; refine ⟨_, rfl, ?_⟩; refine E3 (bB BK246.1 hb) (bB BK247.1 hb) (bS HB.1 hb) ?_; clear BK246 BK247 HB; intro BK246 BK247 HB; (try clear hb); obtain ⟨hcz52_0, hcz52_1, hfz52_0, hfz52_1⟩ := cz2 BK247.1))
 refine bodyPost_ret (results_ct rfl _ _ gb247 28 #[.int .i64 0, .slice none 0 0] (0, 0) _ rfl (PF0 BK247.1) Try.underlying28 rfl (by kernel_rfl)) rfl ?_
 exact ⟨_, RF, by first | exact R_nil _ _ _ _ _ | exact N_nil _ _ _ _ _ | exact V_nil _ _ _ _ _ | exact Q_nil _ _ _ _ _ | exact S_nil _ _ _ _ _, BL HB.1⟩

/-! ### spec_l1Own: function 50 -/
open Kd
def spec_l1Own.f (l0 : List Int) : Option (List Int) := (some (([] : List Int) : List Int)).bind fun y253 => (if y253.length + l0.length < 17592186044416 then (some (y253 ++ l0)) else (none))
theorem spec_l1Own.calls (A0 : Option Addr) (c0 : Nat) (l0 : List Int) (r : List Int) (w : World) (hr0 : Kd.C (Kd.int .i64) w A0 l0.length l0) (hc0 : l0.length <= c0) (h : spec_l1Own.f l0 = some r) :
 Calls Try.prog 50 #[.slice A0 l0.length c0] w fun e w' => ∃ v0_ : Value, e = .returned (v0_) /\ Kd.R (Kd.int .i64) 3 w' w.heap.size (fun _ => True) v0_ r /\ Below w.heap.size w w' := by
 have HR0 := Aside0.mk hr0
 have HC0 := Aside0.mk hc0
 clear hr0 hc0
 have HB := Aside0.mk (Below.refl w.heap.size w)
 have H := h
 clear h
 unfold spec_l1Own.f at H
 replace H := nameB H; obtain ⟨y253, Ny253, H⟩ := H
 replace H := ifP H; obtain ⟨c2, H⟩ := H
 have LMc2 := Aside0.mk c2
 clear c2
 generalize hy256 : ((y253 ++ l0) : List Int) = y256 at H
 have Ny256 := Aside0.mk hy256.symm; clear hy256
 obtain rfl := Option.some.inj H
 go_enter Try.func50, Try.ntmps50
 go_wp2_with (first | ((with_reducible refine gate_dst (N := 3) rfl ?_); refine R_lit (Kd.int .i64) _ 3 ?hg (N := 3) ?hd (xs := ([] : List Int)) (inner := []) (ok := fun _ => True) (okp := fun _ => True) ?hr ?hp (fun _ hk => hk) trivial (Below.refl _ _) (Nat.le_refl _) (by simp) ?_; (case hd => rfl); (case hg => rfl); (case hr => first | (go_simp; done) | (go_simp; rfl)); (case hp => exact (Reps.none _ _)); intro v254 w3 ho4 hb hg_ hnew_; clear hg_ hnew_; (first | rw [<- Ny253.1] at ho4 | (simp only [Int.reduceToNat] at ho4; rw [<- Ny253.1] at ho4)); refine E2 (R_lower ho4 (bZ HB.1)) (bS HB.1 hb) ?_; clear HB; intro HO255 HB; clear hb ho4) | ((with_reducible refine gate_builtin (b := .append) (xs := #[.tmp 3, .tmp 4]) rfl ?_); at_builtin; refine R_append_rows (Kd.int .i64) (w0 := w) w.heap.size rfl (.tmp 3) (.tmp 4) 22 3 (.int .i64 0) 8 rfl Try.underlying22 info3 rfl (by decide) (by omega) v254 y253 l0 _ _ _ (fun _ => True) (fun _ => False) rfl rfl ?aO ?aR (fun _ _ h => h) (fun _ h => h.elim) ?aF ?aB ?aS ?aL ?_; (case aR => repeat (first | exact (C_below HR0.1 HB.1) | (with_reducible refine C_alloc ?_ _) | (with_reducible refine C_drewN ?_ _) | (with_reducible refine C_drew ?_))); (case aB => exact (BL HB.1)); (case aF => exact (fun _ _ => trivial)); (case aO => exact (PR HO255.1)); (case aS => exact (bZ HB.1)); (case aL => have := LMc2.1; omega); intro v257 w5 ho hb hg hat; rw [<- Ny256.1] at ho; refine E2 (hb) (ho) ?_; clear HB HO255; intro HB HO258; clear ho hb hg hat))
 go_ret
 exact ⟨_, RF, RPE (HO258.1), BL HB.1⟩
/-! ### spec_ttSwap: function 68 -/
open Kd
def spec_ttSwap.f (a0 : Int) (a1 : Int) (a2 : Int) : Option (Int) := (spec_ttBit.f a0 a1).bind fun t259 => ((spec_ttBit.f a0 a2).bind fun t260 => (if 0 <= (IntKind.u64.wrap (a1)) then (if 0 <= (IntKind.u64.wrap (a2)) then (some (wrap64 ((wrap64 ((wrap64 ((wrap64 (a0 - (shl .i64 t259 (IntKind.u64.wrap (a1))))) - (shl .i64 t260 (IntKind.u64.wrap (a2))))) + (shl .i64 t260 (IntKind.u64.wrap (a1))))) + (shl .i64 t259 (IntKind.u64.wrap (a2)))))) else (none)) else (none)))
theorem spec_ttSwap.calls (a0 : Int) (a1 : Int) (a2 : Int) (r : Int) (w : World) (h : spec_ttSwap.f a0 a1 a2 = some r) :
 Calls Try.prog 68 #[.int .i64 a0, .int .i64 a1, .int .i64 a2] w fun e w' => e = .returned (.int .i64 r) /\ Drawn0 w w' := by
 have H := h
 clear h
 unfold spec_ttSwap.f at H
 replace H := bindA H; obtain ⟨t259, A4, H⟩ := H
 replace H := bindA H; obtain ⟨t260, A5, H⟩ := H
 obtain ⟨ji6, hji6⟩ : ∃ j_ : Int, (IntKind.u64.wrap (a1)) = j_ := ⟨_, rfl⟩
 replace H : (if 0 <= (ji6) then (if 0 <= (IntKind.u64.wrap (a2)) then (some (wrap64 ((wrap64 ((wrap64 ((wrap64 (a0 - (shl .i64 t259 (ji6)))) - (shl .i64 t260 (IntKind.u64.wrap (a2))))) + (shl .i64 t260 (ji6)))) + (shl .i64 t259 (IntKind.u64.wrap (a2)))))) else (none)) else (none)) = some r := by first | (rw [hji6] at H; exact H) | (simp only [hji6] at H ⊢; exact H)
 (try rw [hji6] at A4)
 (try rw [hji6] at A5)
 replace H := ifP H; obtain ⟨c7, H⟩ := H
 have c7b0 := eq_true c7
 have c7b1 := decide_eq_true c7
 clear c7
 obtain ⟨ji8, hji8⟩ : ∃ j_ : Int, (shl .i64 t259 (ji6)) = j_ := ⟨_, rfl⟩
 replace H : (if 0 <= (IntKind.u64.wrap (a2)) then (some (wrap64 ((wrap64 ((wrap64 ((wrap64 (a0 - (ji8))) - (shl .i64 t260 (IntKind.u64.wrap (a2))))) + (shl .i64 t260 (ji6)))) + (shl .i64 t259 (IntKind.u64.wrap (a2)))))) else (none)) = some r := by first | (rw [hji8] at H; exact H) | (simp only [hji8] at H ⊢; exact H)
 (try rw [hji8] at A4)
 (try rw [hji8] at A5)
 have hji8_ : (IntKind.i64.wrap (t259 * 2 ^ min (ji6).toNat 64)) = ji8 := hji8
 have hji8z : (ji6) <= 64 -> (IntKind.i64.wrap (t259 * 2 ^ (ji6).toNat)) = ji8 := shl_small hji8
 have hji8y : (wrap64 (t259 * 2 ^ min (ji6).toNat 64)) = ji8 := (i64_w _).symm.trans hji8_
 have hji8x : (ji6) <= 64 -> (wrap64 (t259 * 2 ^ (ji6).toNat)) = ji8 := fun h_ => (i64_w _).symm.trans (hji8z h_)
 obtain ⟨ji9, hji9⟩ : ∃ j_ : Int, (IntKind.u64.wrap (a2)) = j_ := ⟨_, rfl⟩
 replace H : (if 0 <= (ji9) then (some (wrap64 ((wrap64 ((wrap64 ((wrap64 (a0 - (ji8))) - (shl .i64 t260 (ji9)))) + (shl .i64 t260 (ji6)))) + (shl .i64 t259 (ji9))))) else (none)) = some r := by first | (rw [hji9] at H; exact H) | (simp only [hji9] at H ⊢; exact H)
 (try rw [hji9] at A4)
 (try rw [hji9] at A5)
 replace H := ifP H; obtain ⟨c10, H⟩ := H
 have c10b0 := eq_true c10
 have c10b1 := decide_eq_true c10
 clear c10
 obtain ⟨ji11, hji11⟩ : ∃ j_ : Int, (shl .i64 t260 (ji9)) = j_ := ⟨_, rfl⟩
 replace H : (some (wrap64 ((wrap64 ((wrap64 ((wrap64 (a0 - (ji8))) - (ji11))) + (shl .i64 t260 (ji6)))) + (shl .i64 t259 (ji9))))) = some r := by first | (rw [hji11] at H; exact H) | (simp only [hji11] at H ⊢; exact H)
 (try rw [hji11] at A4)
 (try rw [hji11] at A5)
 have hji11_ : (IntKind.i64.wrap (t260 * 2 ^ min (ji9).toNat 64)) = ji11 := hji11
 have hji11z : (ji9) <= 64 -> (IntKind.i64.wrap (t260 * 2 ^ (ji9).toNat)) = ji11 := shl_small hji11
 have hji11y : (wrap64 (t260 * 2 ^ min (ji9).toNat 64)) = ji11 := (i64_w _).symm.trans hji11_
 have hji11x : (ji9) <= 64 -> (wrap64 (t260 * 2 ^ (ji9).toNat)) = ji11 := fun h_ => (i64_w _).symm.trans (hji11z h_)
 have c12b0 := eq_true (OD : 0 <= (ji6))
 obtain ⟨ji13, hji13⟩ : ∃ j_ : Int, (shl .i64 t260 (ji6)) = j_ := ⟨_, rfl⟩
 replace H : (some (wrap64 ((wrap64 ((wrap64 ((wrap64 (a0 - (ji8))) - (ji11))) + (ji13))) + (shl .i64 t259 (ji9))))) = some r := by first | (rw [hji13] at H; exact H) | (simp only [hji13] at H ⊢; exact H)
 (try rw [hji13] at A4)
 (try rw [hji13] at A5)
 have hji13_ : (IntKind.i64.wrap (t260 * 2 ^ min (ji6).toNat 64)) = ji13 := hji13
 have hji13z : (ji6) <= 64 -> (IntKind.i64.wrap (t260 * 2 ^ (ji6).toNat)) = ji13 := shl_small hji13
 have hji13y : (wrap64 (t260 * 2 ^ min (ji6).toNat 64)) = ji13 := (i64_w _).symm.trans hji13_
 have hji13x : (ji6) <= 64 -> (wrap64 (t260 * 2 ^ (ji6).toNat)) = ji13 := fun h_ => (i64_w _).symm.trans (hji13z h_)
 have c14b0 := eq_true (OD : 0 <= (ji9))
 obtain ⟨ji15, hji15⟩ : ∃ j_ : Int, (shl .i64 t259 (ji9)) = j_ := ⟨_, rfl⟩
 replace H : (some (wrap64 ((wrap64 ((wrap64 ((wrap64 (a0 - (ji8))) - (ji11))) + (ji13))) + (ji15)))) = some r := by first | (rw [hji15] at H; exact H) | (simp only [hji15] at H ⊢; exact H)
 (try rw [hji15] at A4)
 (try rw [hji15] at A5)
 have hji15_ : (IntKind.i64.wrap (t259 * 2 ^ min (ji9).toNat 64)) = ji15 := hji15
 have hji15z : (ji9) <= 64 -> (IntKind.i64.wrap (t259 * 2 ^ (ji9).toNat)) = ji15 := shl_small hji15
 have hji15y : (wrap64 (t259 * 2 ^ min (ji9).toNat 64)) = ji15 := (i64_w _).symm.trans hji15_
 have hji15x : (ji9) <= 64 -> (wrap64 (t259 * 2 ^ (ji9).toNat)) = ji15 := fun h_ => (i64_w _).symm.trans (hji15z h_)
 obtain rfl := Option.some.inj H
 go_enter Try.func68, Try.ntmps68
 go_wp2_with (first | ((with_reducible refine gate_callee (f := 48) rfl ?_); refine goesM (N := (some 11)) #[.int .i64 a0, .int .i64 a1] Try.func48 ?_; (with_reducible refine (spec_ttBit.calls a0 a1 t259 _ A4.1).mono ?_); rintro e w' ⟨rfl, ⟨nd, rfl⟩⟩; refine ⟨_, rfl, ?_⟩) | ((with_reducible refine gate_callee (f := 48) rfl ?_); refine goesM (N := (some 14)) #[.int .i64 a0, .int .i64 a2] Try.func48 ?_; (with_reducible refine (spec_ttBit.calls a0 a2 t260 _ A5.1).mono ?_); rintro e w' ⟨rfl, ⟨nd, rfl⟩⟩; refine ⟨_, rfl, ?_⟩))
 go_ret
 exact ⟨by first | rfl | (simp; done) | (simp only [<- hji6, <- hji8, <- hji9, <- hji11, <- hji13, <- hji15] <;> (first | rfl | simp)) | (simp [*]; done), DR⟩
/-! ### spec_ttSwapped: function 51 -/
open Kd
def spec_ttSwapped.l0 : Nat -> Int -> Int -> Int -> Int -> Int -> List Int -> Int -> List Int -> Option (Int × List Int)
 | 0, _, _, _, _, _, _, _, _ => none
 | k + 1, x1, x2, x14, x15, x262000, x262001, x264000, x264001 => if x15 < x14 then ((spec_ttSwap.f x15 x1 x2).bind fun t264 => (if 0 <= t264 then (if t264 < (x262001.length : Int) then (if x264001.length < 17592186044416 then (spec_ttSwapped.l0 k x1 x2 x14 (wrap64 (x15 + 1)) x262000 x262001 x264000 (x264001 ++ [rd x262001 t264])) else (none)) else (none)) else (none))) else (some (x264000, x264001))
def spec_ttSwapped.f (k : Nat) (a0_0 : Int) (l0_1 : List Int) (a1 : Int) (a2 : Int) : Option (Int × List Int) := spec_ttSwapped.l0 k a1 a2 (l0_1.length : Int) 0 a0_0 l0_1 a0_0 ([] : List Int)
theorem spec_ttSwapped.mono_l : ∀ k, (∀ y0 y1 y2 y3 y4 y5 y6 y7, LeO (spec_ttSwapped.l0 k y0 y1 y2 y3 y4 y5 y6 y7) (spec_ttSwapped.l0 (k + 1) y0 y1 y2 y3 y4 y5 y6 y7))
 | 0 => fun _ _ _ _ _ _ _ _ r h => by simp [spec_ttSwapped.l0] at h
 | k + 1 => by
  have ih0 := spec_ttSwapped.mono_l k
  intros
  first | unfold spec_ttSwapped.l0
  exact LM1 ih0
theorem spec_ttSwapped.mono : ∀ a0 a1 a2 a3 k, LeO (spec_ttSwapped.f k a0 a1 a2 a3) (spec_ttSwapped.f (k + 1) a0 a1 a2 a3) := by
 intro a0 a1 a2 a3 k
 have ih0 := spec_ttSwapped.mono_l k
 unfold spec_ttSwapped.f
 exact LM1 ih0
def spec_ttSwapped.T5 : Bool × List (List Nat × List Nat) := (true, [([], []), ([0], [0]), ([], []), ([2], [2]), ([], []), ([], []), ([], []), ([4, 5, 6], [4, 5, 6]), ([3, 7], [3, 7]), ([8], [8]), ([9], [9]), ([1, 10, 7], [1, 10]), ([0, 1, 2, 3, 4, 5, 6, 7, 8, 9, 10, 11], []), ([12, 11, 11, 0, 1, 2, 3, 4, 5, 6, 7, 8, 9, 10, 11], [11, 12])])
def spec_ttSwapped.B5 : List Nat := [0, 1, 0, 4, 0, 0, 0, 112, 252, 508, 1020, 2047, 4095, 8191]
theorem spec_ttSwapped.tab5 : rtab .any (opsOf Try.f51 5) = spec_ttSwapped.T5 := by kernel_rfl
theorem spec_ttSwapped.bits5 : waitsOk spec_ttSwapped.T5.2 spec_ttSwapped.B5 = true := by kernel_rfl
theorem spec_ttSwapped.calls (k : Nat) (a0_0 : Int) (A0_1 : Option Addr) (c0_1 : Nat) (l0_1 : List Int) (a1 : Int) (a2 : Int) (r1 : Int) (r2 : List Int) (w : World) (hr0_1 : Kd.C (Kd.int .i64) w A0_1 l0_1.length l0_1) (hc0_1 : l0_1.length <= c0_1) (h : spec_ttSwapped.f k a0_0 l0_1 a1 a2 = some (r1, r2)) :
 Calls Try.prog 51 #[.agg #[.int .i64 a0_0, .slice A0_1 l0_1.length c0_1], .int .i64 a1, .int .i64 a2] w fun e w' => ∃ v1_ : Value, e = .returned (.agg #[.int .i64 r1, v1_]) /\ Kd.R (Kd.int .i64) 3 w' w.heap.size (fun _ => True) v1_ r2 /\ Below w.heap.size w w' := by
 have hu28 := Try.underlying28
 have HR0_1 := Aside0.mk hr0_1
 have HC0_1 := Aside0.mk hc0_1
 clear hr0_1 hc0_1
 have HB := Aside0.mk (Below.refl w.heap.size w)
 have H := h
 clear h
 unfold spec_ttSwapped.f at H
 have H' := Aside0.mk H
 clear H
 go_enter Try.func51, Try.ntmps51
 go_wp2_with (first | ((with_reducible refine gate_dst (N := 3) rfl ?_); refine boxE (cs := #[.int .i64 a0_0, .slice A0_1 l0_1.length c0_1]) (t := 28) ?_; intro gb261 hg w4 hbox hb; refine E4b HB.1 hg hbox hb ?_; clear HB; intro HB BK261 GW261 GE261; clear hb hbox hg) | ((with_reducible refine gate_dst (N := 6) rfl ?_); refine boxE (cs := #[.int .i64 0, .slice none 0 0]) (t := 28) ?_; intro gb262 hg w5 hbox hb; refine E7 (bB BK261.1 hb) (bS HB.1 hb) (hbox) (gX HB.1 hg) (gX HB.1 hg) (nB BK261.1 hg) (nC BK261.1 hg) ?_; clear BK261 HB; intro BK261 HB BK262 GW262 GE262 NB261_262 NB262_261; clear hb hbox hg; have hnb6 := NB261_262.1; have hnc6 := NB262_261.1; obtain ⟨hcz7_0, hcz7_1, hfz7_0, hfz7_1⟩ := cz2 BK261.1) | ((with_reducible refine gate_dst (N := 7) rfl ?_); refine boxE (cs := #[.int .i64 0, .slice none 0 0]) (t := 28) ?_; intro gb263 hg w8 hbox hb; refine E10 (bB BK261.1 hb) (bB BK262.1 hb) (bS HB.1 hb) (hbox) (gX HB.1 hg) (gX HB.1 hg) (nB BK261.1 hg) (nC BK261.1 hg) (nB BK262.1 hg) (nC BK262.1 hg) ?_; clear BK261 BK262 HB; intro BK261 BK262 HB BK263 GW263 GE263 NB261_263 NB263_261 NB262_263 NB263_262; clear hb hbox hg; have hnb9 := NB263_261.1; have hnc9 := NB261_263.1; have hnb10 := NB263_262.1; have hnc10 := NB262_263.1; obtain ⟨hcz11_0, hcz11_1, hfz11_0, hfz11_1⟩ := cz2 BK263.1; obtain ⟨hcz12_0, hcz12_1, hfz12_0, hfz12_1⟩ := cz2 BK261.1))
 go_loopg [15] k (fun kq v15 w' => ∃ (x15_1 : Int) (x264001_1 : List Int) (u264001 : Value), v15 = .int .i64 x15_1 /\ Aside0 (spec_ttSwapped.l0 kq a1 a2 (l0_1.length : Int) x15_1 a0_0 l0_1 a0_0 x264001_1 = some (r1, r2)) /\ Aside0 (kq <= k) /\ Aside0 (Kd.R (Kd.int .i64) 3 w' w.heap.size (fun _ => True) u264001 x264001_1) /\ Aside0 (w'.heap[gb261]? = some (.cells #[.int .i64 a0_0, (.slice A0_1 l0_1.length c0_1)] 28 (0, 0))) /\ Aside0 (w'.heap[gb262]? = some (.cells #[.int .i64 0, (.slice none 0 0)] 28 (0, 0))) /\ Aside0 (w'.heap[gb263]? = some (.cells #[.int .i64 a0_0, u264001] 28 (0, 0))) /\ Aside0 (Below w.heap.size w w'))
 case atStart => exact ⟨(0), (([] : List Int)), (.slice none 0 0), RG, H', ⟨Nat.le_refl _⟩, ⟨by first | exact R_nil _ _ _ _ _ | exact N_nil _ _ _ _ _ | exact V_nil _ _ _ _ _ | exact Q_nil _ _ _ _ _ | exact S_nil _ _ _ _ _⟩, ⟨by (with_reducible repeat (first | refine blk_drewN ?_ _ | refine blk_drew ?_ | refine blk_alloc ?_ _)); refine blk_far ?_ NB261_263.1 _; (with_reducible repeat (first | refine blk_drewN ?_ _ | refine blk_drew ?_ | refine blk_alloc ?_ _)); refine blk_far ?_ NB261_263.1 _; (with_reducible repeat (first | refine blk_drewN ?_ _ | refine blk_drew ?_ | refine blk_alloc ?_ _)); exact BK261.1⟩, ⟨by (with_reducible repeat (first | refine blk_drewN ?_ _ | refine blk_drew ?_ | refine blk_alloc ?_ _)); refine blk_far ?_ NB262_263.1 _; (with_reducible repeat (first | refine blk_drewN ?_ _ | refine blk_drew ?_ | refine blk_alloc ?_ _)); refine blk_far ?_ NB262_263.1 _; (with_reducible repeat (first | refine blk_drewN ?_ _ | refine blk_drew ?_ | refine blk_alloc ?_ _)); exact BK262.1⟩, ⟨by (with_reducible repeat (first | refine blk_drewN ?_ _ | refine blk_drew ?_ | refine blk_alloc ?_ _)); refine blk_put (cs := #[.int .i64 a0_0, .slice none 0 0]) ?_ 1 _ rfl; (with_reducible repeat (first | refine blk_drewN ?_ _ | refine blk_drew ?_ | refine blk_alloc ?_ _)); refine blk_put (cs := #[.int .i64 0, .slice none 0 0]) ?_ 0 _ rfl; (with_reducible repeat (first | refine blk_drewN ?_ _ | refine blk_drew ?_ | refine blk_alloc ?_ _)); exact BK263.1⟩, ⟨BL HB.1⟩⟩
 clear H'
 clear hcz11_0 hcz11_1 hcz12_0 hcz12_1 hcz7_0 hcz7_1 hfz11_0 hfz11_1 hfz12_0 hfz12_1 hfz7_0 hfz7_1
 obtain ⟨x15_1, x264001_1, u264001, rfl, HA, HK1, HO_264001, BK261, BK262, BK263, HB⟩ := hrel
 cases gk with
 | zero => exact absurd HA.1 (by simp [spec_ttSwapped.l0])
 | succ k1 => ?_
 have H := HA.1
 clear HA
 simp only [spec_ttSwapped.l0] at H
 replace H := ifB H; rcases H with ⟨c13b0, H⟩ | ⟨c13b0, H⟩
 · replace H := bindA H; obtain ⟨t264, A14, H⟩ := H
   replace H := ifN H; obtain ⟨c15b0, H⟩ := H
   replace H := ifN H; obtain ⟨c16b0, H⟩ := H
   replace H := ifP H; obtain ⟨c17, H⟩ := H
   have LMc17 := Aside0.mk c17
   clear c17
   generalize hy266 : ((x264001_1 ++ [rd l0_1 t264]) : List Int) = y266 at H
   have Ny266 := Aside0.mk hy266.symm; clear hy266
   have H' := Aside0.mk H
   clear H
   try go_wp2
   refine E5 (R_drew HO_264001.1) (blk_drew BK261.1) (blk_drew BK262.1) (blk_drew BK263.1) (below_drew1 HB.1) ?_
   clear HO_264001 BK261 BK262 BK263 HB
   intro HO_264001 BK261 BK262 BK263 HB
   have p265 : 0 <= (t264 : Int) := OD
   have q265 : t264 < (l0_1.length : Int) := OD
   obtain ⟨ad265, e265, hx265_0⟩ := Kd.at_int HR0_1.1 t264 p265 q265
   have hw265_0 := hx265_0
   cases e265
   replace hx265_0 := (HB.1.cell (World.block_lt_of_cell? w _ hx265_0)).trans hx265_0
   replace p265 := eq_true p265
   replace q265 := eq_true q265
   refine start_ (n := 14) (S := fun w' => w'.cell? ⟨gb263, 0, none⟩ = some (.int .i64 a0_0) /\ w'.cell? ⟨gb263, 1, none⟩ = some (u264001) /\ w'.cell? ⟨gb261, 0, none⟩ = some (.int .i64 a0_0) /\ w'.cell? ⟨gb261, 1, none⟩ = some (.slice (some ad265) l0_1.length c0_1) /\ w'.cell? (ad265.add (t264).toNat) = some (.int .i64 (rd l0_1 t264))) (ds := [13]) #[Zz,Zz,Zz,Zz,Zz,Zz,Zz,Zz,Zz,Zz,Zz,Zz,Zz,Zz] (by kernel_rfl) rfl rfl ⟨(blk_cell BK263.1 0).trans rfl, (blk_cell BK263.1 1).trans rfl, (blk_cell BK261.1 0).trans rfl, (blk_cell BK261.1 1).trans rfl, ((HB.1.cell (World.block_lt_of_cell? w _ hw265_0)).trans hw265_0)⟩ (fun hHeld => ?_); refine with_tabW spec_ttSwapped.tab5 spec_ttSwapped.bits5 (fun HT_ HW_ => ?_)
   generalize wr.drew = w18 at HO_264001 BK261 BK262 BK263 HB hx265_0 hHeld ⊢
   refine pureF 0 (N := some 18) HT_.1 ?_
   refine pureF 2 (N := some 20) HT_.1 ?_
   refine pureF 4 (N := some 22) HT_.1 ?_
   refine pureF 5 (N := some 23) HT_.1 ?_
   refine pureF 6 (N := some 24) HT_.1 ?_
   refine takeE 1 (N := some 19) HT_.1 HW_.1 hHeld ?_
   refine takeE 3 (N := some 21) HT_.1 HW_.1 hHeld ?_
   refine one_ (i := 7) (N := some 25) #[Yy,Yy,Yy,Yy,Yy,Yy,Yy,Yy,Zz,Zz,Zz,Zz,Zz,Zz] rfl rfl (one_of HT_.1 (by kernel_rfl)) (by decide) (fun K hK => ?_)
   refine goes_ Try.func68 (by kernel_rfl) rfl #[.int .i64 x15_1, .int .i64 a1, .int .i64 a2] (by rfl) rfl rfl (by (try simp only [List.map_toArray, List.map_cons, List.map_nil]); first | done | rfl | (simp only [List.length_drop, List.length_take]; rfl)) ?_
   with_reducible refine (spec_ttSwap.calls x15_1 a1 a2 t264 _ A14.1).mono ?_
   rintro e w' ⟨rfl, ⟨nd, rfl⟩⟩
   refine ⟨_, rfl, ?_⟩
   refine hK.out _ _ ⟨(blk_cell BK263.1 0).trans rfl, (blk_cell BK263.1 1).trans rfl, (blk_cell BK261.1 0).trans rfl, (blk_cell BK261.1 1).trans rfl, ((HB.1.cell (World.block_lt_of_cell? w _ hw265_0)).trans hw265_0)⟩ (fun hHeld => ?_)
   clear hK K
   refine norm_ (a' := ?_) ?_ ?_
   rotate_left
   · show Act.put _ (some 25) _ = _
     simp only [Act.put, List.setIfInBounds_toArray, List.set_cons_zero, List.set_cons_succ, i64_w, i32_w]
     rfl
   refine pureF 8 (N := some 26) HT_.1 ?_
   refine takeE 9 (N := some 27) HT_.1 HW_.1 hHeld ?_
   refine one_ (i := 10) (N := some 28) #[Yy,Yy,Yy,Yy,Yy,Yy,Yy,Yy,Yy,Yy,Yy,Zz,Zz,Zz] rfl rfl (one_of HT_.1 (by kernel_rfl)) (by decide) (fun K hK => ?_)
   refine value_ (w1 := ?_) (v := ?_) (by rfl) rfl ?_ ?_
   rotate_left 2
   · go_simp
     constructor
     · rfl
     rfl
   refine hK.out _ _ ⟨(blk_cell (blk_alloc BK263.1 _) 0).trans rfl, (blk_cell (blk_alloc BK263.1 _) 1).trans rfl, (blk_cell (blk_alloc BK261.1 _) 0).trans rfl, (blk_cell (blk_alloc BK261.1 _) 1).trans rfl, (World.cell?_alloc_lt _ _ _ (World.block_lt_of_cell? _ _ (((HB.1.cell (World.block_lt_of_cell? w _ hw265_0)).trans hw265_0)))).trans (((HB.1.cell (World.block_lt_of_cell? w _ hw265_0)).trans hw265_0))⟩ (fun hHeld => ?_)
   clear hK K
   refine norm_ (a' := ?_) ?_ ?_
   rotate_left
   · show Act.put _ (some 28) _ = _
     simp only [Act.put, List.setIfInBounds_toArray, List.set_cons_zero, List.set_cons_succ, i64_w, i32_w]
     rfl
   refine one_ (i := 11) (N := some 29) #[Yy,Yy,Yy,Yy,Yy,Yy,Yy,Yy,Yy,Yy,Yy,Yy,Zz,Zz] rfl rfl (one_of HT_.1 (by kernel_rfl)) (by decide) (fun K hK => ?_)
   refine R_append_step (Kd.int .i64) (w0 := w) w.heap.size (by rfl) (.tmp 19) (.tmp 28) 22 3 (.int .i64 0) 8 rfl Try.underlying22 info3 rfl (by decide) (by omega) u264001 x264001_1 (rd l0_1 t264) [.int .i64 (rd l0_1 t264)] (fun _ => True) (fun _ => False) rfl rfl ?aP (fun _ hk => hk.elim) ?aF ?aO ?aB ?aS ?aL ?_
   (case aP => exact rfl)
   (case aB => exact (BL HB.1))
   (case aF => exact (fun _ _ => trivial))
   (case aO => exact (PR HO_264001.1))
   (case aS => exact (bZ HB.1))
   (case aL => have := LMc17.1; omega)
   intro v267 w19 ho hb hg hat
   rw [<- Ny266.1] at ho
   refine E5 (bG BK261.1 hg (R_ne HO_264001.1 BK261.1 (by decide))) (bG BK262.1 hg (R_ne HO_264001.1 BK262.1 (by decide))) (bG BK263.1 hg (R_ne HO_264001.1 BK263.1 (by decide))) (hb) (ho) ?_
   clear BK261 BK262 BK263 HB HO_264001
   intro BK261 BK262 BK263 HB HO268
   clear ho hb hg hat
   obtain ⟨Ao20, co20, eo20⟩ := R_slice HO268.1
   (first | subst eo20 | (injection eo20 with f1_ f2_ f3_; have f4_ := f1_.symm; have f5_ := f3_.symm; clear f1_ f2_ f3_; subst f4_; subst f5_))
   refine hK.out _ _ ⟨(blk_cell BK263.1 0).trans rfl, (blk_cell BK263.1 1).trans rfl, (blk_cell BK261.1 0).trans rfl, (blk_cell BK261.1 1).trans rfl, ((HB.1.cell (World.block_lt_of_cell? w _ hw265_0)).trans hw265_0)⟩ (fun hHeld => ?_)
   clear hK K
   refine norm_ (a' := ?_) ?_ ?_
   rotate_left
   · show Act.put _ (some 29) _ = _
     simp only [Act.put, List.setIfInBounds_toArray, List.set_cons_zero, List.set_cons_succ, i64_w, i32_w]
     rfl
   refine pureF 12 (N := some 30) HT_.1 ?_
   refine last_ (i := 13) (N := none) #[Yy,Yy,Yy,Yy,Yy,Yy,Yy,Yy,Yy,Yy,Yy,Yy,Yy,Yy] rfl rfl (one_of HT_.1 (by kernel_rfl)) (by decide) (fun K hK => ?_)
   have hs21 : w19.cell? ⟨gb263, 1, none⟩ = some (u264001) := (blk_cell BK263.1 1).trans rfl
   have hfs21 := blk_frozen BK263.1 1
   refine skip_ (w1 := ?_) (by rfl) rfl ?_ ?_
   rotate_left
   · go_simp
     rfl
   refine hK.out _ _ ?_
   clear hK K
   refine done_ (done_of HT_.1 (by kernel_rfl)) ?_
   try go_wp2
   go_roundg k1
   case measure => have := HK1.1; omega
   case rel => exact ⟨(wrap64 (x15_1 + 1)), (y266), (.slice Ao20 y266.length co20), RG, H', ⟨by have := HK1.1; omega⟩, ⟨by (with_reducible repeat (first | apply R_alloc | apply R_drewN | apply R_drew)); exact R_mono (RQ gb263 1 (R_types HO268.1 BK263.1 (by decide)) _) (fun _ hk => trivial)⟩, ⟨by (with_reducible repeat (first | refine blk_drewN ?_ _ | refine blk_drew ?_ | refine blk_alloc ?_ _)); refine blk_far ?_ NB261_263.1 _; (with_reducible repeat (first | refine blk_drewN ?_ _ | refine blk_drew ?_ | refine blk_alloc ?_ _)); exact BK261.1⟩, ⟨by (with_reducible repeat (first | refine blk_drewN ?_ _ | refine blk_drew ?_ | refine blk_alloc ?_ _)); refine blk_far ?_ NB262_263.1 _; (with_reducible repeat (first | refine blk_drewN ?_ _ | refine blk_drew ?_ | refine blk_alloc ?_ _)); exact BK262.1⟩, ⟨by (with_reducible repeat (first | refine blk_drewN ?_ _ | refine blk_drew ?_ | refine blk_alloc ?_ _)); refine blk_put (cs := #[.int .i64 a0_0, u264001]) ?_ 1 _ rfl; (with_reducible repeat (first | refine blk_drewN ?_ _ | refine blk_drew ?_ | refine blk_alloc ?_ _)); exact BK263.1⟩, ⟨BL HB.1⟩⟩
 simp only [Option.some.injEq, Prod.mk.injEq] at H
 obtain ⟨rfl, rfl⟩ := H
 obtain ⟨hcz24_0, hcz24_1, hfz24_0, hfz24_1⟩ := cz2 BK263.1
 obtain ⟨hcz26_0, hcz26_1, hfz26_0, hfz26_1⟩ := cz2 BK262.1
 obtain ⟨Ao27, co27, eo27⟩ := R_slice HO_264001.1
 subst eo27
 go_wp2
 refine bodyPost_ret (results_cell_row rfl _ _ gb262 28 #[.int .i64 a0_0, .slice Ao27 x264001_1.length co27] (0, 0) _ rfl (PF0 BK262.1) Try.underlying28 rfl (by kernel_rfl)) rfl ?_
 exact ⟨_, RF, by (with_reducible repeat (first | apply R_alloc | apply R_drewN | apply R_drew)); exact R_mono (RQ gb262 1 (RQ gb262 0 (R_types HO_264001.1 BK262.1 (by decide)) _) _) (fun _ hk => trivial), BL HB.1⟩
end Go.Proofs.Ytgekdgggpfiamaa.P
