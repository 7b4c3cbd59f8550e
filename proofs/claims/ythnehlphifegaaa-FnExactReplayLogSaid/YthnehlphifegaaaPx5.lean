-- PRINTED by print.py (a twelfth state) out of the translation. Not trusted: Lean checks it.
import Derived.Test.YthnehlphifegaaaPx0
import Derived.Test.YthnehlphifegaaaPx3
import Derived.Test.YthnehlphifegaaaPx4
namespace Go.Proofs.Ythnehlphifegaaa.P
open Go.RowKit Go.Proofs.YthnehlphifegaaaW.PrintWords Go.Proofs.YthnehlphifegaaaW.PrintLast Go.Proofs.YthnehlphifegaaaW.PrintMore
attribute [local go_sem] max2_int min2_int max_two min_two max_three min_three max_four min_four   -- for this text's walks alone
set_option linter.unusedVariables false
set_option linter.unusedSimpArgs false

/-! ### spec_flRun: function 63 -/
open Kd
def spec_flRun.f (k : Nat) (a0_0 : Int) (a0_1 : Int) (l0_2 : List (S98)) (a1 : Int) : Option (Int × Int × Int × Int × Int × (List (S98))) := (spec_ggGroups.f k a0_0 a0_1 l0_2).bind fun t218 => ((spec_flGo.f k a0_0 a0_1 l0_2 t218 a1).bind fun bt221 => (some (bt221.1, bt221.2.1, bt221.2.2.1, bt221.2.2.2.1, bt221.2.2.2.2.1, bt221.2.2.2.2.2.1)))
theorem spec_flRun.mono : ∀ a0 a1 a2 a3 k, LeO (spec_flRun.f k a0 a1 a2 a3) (spec_flRun.f (k + 1) a0 a1 a2 a3) := by
 intro a0 a1 a2 a3 k
 unfold spec_flRun.f
 repeat' first
  | (with_reducible exact spec_flGo.mono _ _ _ _ _ _)
  | (with_reducible exact spec_ggGroups.mono _ _ _ _)
  | (with_reducible exact LeO.refl _)
  | (with_reducible exact LeO.none _)
  | (with_reducible refine LeO.ite ?_ ?_)
  | (with_reducible refine LeO.bind ?_ (fun _ => ?_))
  | exact spec_flGo.mono _ _ _ _ _ _
  | exact spec_ggGroups.mono _ _ _ _
  | exact LeO.none _
  | refine LeO.ite ?_ ?_
  | refine LeO.bind ?_ (fun _ => ?_)
def spec_flRun.T1 : Bool × List (List Nat × List Nat) := (true, [([], []), ([], []), ([1], [1]), ([], []), ([0, 2, 3, 2], [0, 2, 3]), ([4], [4]), ([5], [5]), ([5], [5]), ([5], [5]), ([], []), ([], []), ([9, 6, 4, 0, 1, 2, 3, 4, 5, 6, 9, 10], [6, 9]), ([10, 7, 11, 0, 1, 2, 3, 4, 5, 6, 7, 9, 10, 11], [7, 10]), ([8, 12, 0, 1, 2, 3, 4, 5, 6, 7, 8, 9, 10, 11, 12], [8])])
def spec_flRun.B1 : List Nat := [0, 0, 2, 0, 15, 31, 63, 63, 63, 0, 0, 1663, 3839, 8191]
theorem spec_flRun.tab1 : rtab .any (opsOf Try.f63 1) = spec_flRun.T1 := by kernel_rfl
theorem spec_flRun.bits1 : waitsOk spec_flRun.T1.2 spec_flRun.B1 = true := by kernel_rfl
set_option maxHeartbeats 8000000 in
set_option maxRecDepth 100000 in
theorem spec_flRun.calls (k : Nat) (a0_0 : Int) (a0_1 : Int) (A0_2 : Option Addr) (c0_2 : Nat) (l0_2 : List (S98)) (a1 : Int) (r1 : Int) (r2 : Int) (r3 : Int) (r4 : Int) (r5 : Int) (r6 : List (S98)) (w : World) (hr0_2 : Kd.C k98 w A0_2 l0_2.length l0_2) (hc0_2 : l0_2.length <= c0_2) (h : spec_flRun.f k a0_0 a0_1 l0_2 a1 = some (r1, r2, r3, r4, r5, r6)) :
 Calls Try.prog 63 #[.agg #[.int .i64 a0_0, .int .i64 a0_1, .slice A0_2 l0_2.length c0_2], .int .i64 a1] w fun e w' => ∃ v5_ : Value, e = .returned (.tuple #[.agg #[.int .i64 r1, .int .i64 r2, .int .i64 r3], .agg #[.int .i64 r4, .int .i64 r5, v5_]]) /\ Kd.R k98 98 w' w.heap.size (fun _ => True) v5_ r6 /\ Below w.heap.size w w' := by
 have hu33 := Try.underlying33
 have hu61 := Try.underlying61
 have HR0_2 := Aside0.mk hr0_2
 have HC0_2 := Aside0.mk hc0_2
 clear hr0_2 hc0_2
 have HB := Aside0.mk (Below.refl w.heap.size w)
 have H := h
 clear h
 unfold spec_flRun.f at H
 replace H := bindA H; obtain ⟨t218, A3, H⟩ := H
 replace H := bindA H; obtain ⟨⟨t221, t222, t223, t224, t225, t226, t229⟩, A4, H⟩ := H
 dsimp only at H
 simp only [Option.some.injEq, Prod.mk.injEq] at H
 obtain ⟨rfl, rfl, rfl, rfl, rfl, rfl⟩ := H
 go_enter Try.func63, Try.ntmps63
 try go_wp2_with (first | ((with_reducible refine gate_dst (N := 2) rfl ?_); refine boxE (cs := #[.int .i64 a0_0, .int .i64 a0_1, .slice A0_2 l0_2.length c0_2]) (t := 33) ?_; intro gb215 hg w5 hbox hb; refine E4b HB.1 hg hbox hb ?_; clear HB; intro HB BK215 GW215 GE215; clear hb hbox hg) | ((with_reducible refine gate_dst (N := 4) rfl ?_); refine boxE (cs := #[.int .i64 0, .int .i64 0, .int .i64 0]) (t := 61) ?_; intro gb216 hg w6 hbox hb; refine E7 (bB BK215.1 hb) (bS HB.1 hb) (hbox) (gX HB.1 hg) (gX HB.1 hg) (nB BK215.1 hg) (nC BK215.1 hg) ?_; clear BK215 HB; intro BK215 HB BK216 GW216 GE216 NB215_216 NB216_215; clear hb hbox hg) | ((with_reducible refine gate_dst (N := 5) rfl ?_); refine boxE (cs := #[.int .i64 0, .int .i64 0, .slice none 0 0]) (t := 33) ?_; intro gb217 hg w7 hbox hb; refine E10 (bB BK215.1 hb) (bB BK216.1 hb) (bS HB.1 hb) (hbox) (gX HB.1 hg) (gX HB.1 hg) (nB BK215.1 hg) (nC BK215.1 hg) (nB BK216.1 hg) (nC BK216.1 hg) ?_; clear BK215 BK216 HB; intro BK215 BK216 HB BK217 GW217 GE217 NB215_217 NB217_215 NB216_217 NB217_216; clear hb hbox hg))
 refine E4 (blk_drew BK215.1) (blk_drew BK216.1) (blk_drew BK217.1) (below_drew1 HB.1) ?_
 clear BK215 BK216 BK217 HB
 intro BK215 BK216 BK217 HB
 refine start_ (n := 14) (S := fun w' => w'.cell? ⟨gb215, 0, none⟩ = some (.int .i64 a0_0) /\ w'.cell? ⟨gb215, 1, none⟩ = some (.int .i64 a0_1) /\ w'.cell? ⟨gb215, 2, none⟩ = some (.slice A0_2 l0_2.length c0_2)) (ds := []) #[Zz,Zz,Zz,Zz,Zz,Zz,Zz,Zz,Zz,Zz,Zz,Zz,Zz,Zz] (by kernel_rfl) rfl rfl ⟨(blk_cell BK215.1 0).trans rfl, (blk_cell BK215.1 1).trans rfl, (blk_cell BK215.1 2).trans rfl⟩ (fun hHeld => ?_); refine with_tabW spec_flRun.tab1 spec_flRun.bits1 (fun HT_ HW_ => ?_)
 generalize w7.drew = w8 at BK215 BK216 BK217 HB hHeld ⊢
 refine pureF 3 (N := some 13) HT_.1 ?_
 refine takeE 0 (N := some 10) HT_.1 HW_.1 hHeld ?_
 refine takeE 1 (N := some 11) HT_.1 HW_.1 hHeld ?_
 refine join_ (σ := Value × Value × Value × Nat × Nat) 3 #[Yy,Yy,Yy,Yy,Yy,Yy,Yy,Yy,Yy,Yy,Yy,Zz,Zz,Zz] (fun s_ => [(12, s_.1), (14, .tuple #[.agg #[.int .i64 t221, .int .i64 t222, .int .i64 t223], .agg #[.int .i64 t224, .int .i64 t225, s_.2.1], s_.2.2.1]), (6, .pointer (some ⟨s_.2.2.2.1, 0, none⟩)), (7, .pointer (some ⟨s_.2.2.2.2, 0, none⟩)), (9, .tuple #[.agg #[.int .i64 t221, .int .i64 t222, .int .i64 t223], .agg #[.int .i64 t224, .int .i64 t225, s_.2.1], s_.2.2.1]), (15, .agg #[.int .i64 t221, .int .i64 t222, .int .i64 t223]), (16, .agg #[.int .i64 t224, .int .i64 t225, s_.2.1]), (17, s_.2.2.1)]) (fun s_ w' => (w'.cell? ⟨gb215, 0, none⟩ = some (.int .i64 a0_0) /\ w'.cell? ⟨gb215, 1, none⟩ = some (.int .i64 a0_1) /\ w'.cell? ⟨gb215, 2, none⟩ = some (.slice A0_2 l0_2.length c0_2)) /\ (Kd.R (Kd.int .i64) 3 w' w.heap.size (fun _ => True) s_.1 t218) /\ (Kd.R k98 98 w' w.heap.size (fun _ => True) s_.2.1 t226) /\ (Kd.S (Kd.slice 3 (Kd.int .i64)) 28 w' w.heap.size (fun k_ => some k_ ≠ (s_.1 : Value).ownBlock) s_.2.2.1 t229) /\ (w'.heap[gb215]? = some (.cells #[.int .i64 a0_0, .int .i64 a0_1, .slice A0_2 l0_2.length c0_2] 33 (0, 0))) /\ (w'.heap[gb216]? = some (.cells #[.int .i64 0, .int .i64 0, .int .i64 0] 61 (0, 0))) /\ (w'.heap[gb217]? = some (.cells #[.int .i64 0, .int .i64 0, .slice none 0 0] 33 (0, 0))) /\ (w'.heap[s_.2.2.2.1]? = some (.cells #[.int .i64 0, .int .i64 0, .int .i64 0] 61 (0, 0))) /\ (w'.heap[s_.2.2.2.2]? = some (.cells #[.int .i64 0, .int .i64 0, .slice none 0 0] 33 (0, 0))) /\ (w.heap.size <= s_.2.2.2.1) /\ (w.heap.size <= s_.2.2.2.1) /\ (gb215 ≠ s_.2.2.2.1) /\ (s_.2.2.2.1 ≠ gb215) /\ (gb216 ≠ s_.2.2.2.1) /\ (s_.2.2.2.1 ≠ gb216) /\ (gb217 ≠ s_.2.2.2.1) /\ (s_.2.2.2.1 ≠ gb217) /\ (s_.2.2.2.2 ≠ s_.2.2.2.1) /\ (s_.2.2.2.1 ≠ s_.2.2.2.2) /\ (w.heap.size <= s_.2.2.2.2) /\ (w.heap.size <= s_.2.2.2.2) /\ (gb215 ≠ s_.2.2.2.2) /\ (s_.2.2.2.2 ≠ gb215) /\ (gb216 ≠ s_.2.2.2.2) /\ (s_.2.2.2.2 ≠ gb216) /\ (gb217 ≠ s_.2.2.2.2) /\ (s_.2.2.2.2 ≠ gb217) /\ (Below w.heap.size w w')) ?_ ?_
 rotate_left
 · intro hJ2_4_9_10
   refine join_ (σ := Value × Value × Value × Nat) 4 #[Yy,Yy,Yy,Yy,Yy,Yy,Yy,Yy,Yy,Yy,Zz,Zz,Zz,Zz] (fun s_ => [(12, s_.1), (14, .tuple #[.agg #[.int .i64 t221, .int .i64 t222, .int .i64 t223], .agg #[.int .i64 t224, .int .i64 t225, s_.2.1], s_.2.2.1]), (6, .pointer (some ⟨s_.2.2.2, 0, none⟩)), (9, .tuple #[.agg #[.int .i64 t221, .int .i64 t222, .int .i64 t223], .agg #[.int .i64 t224, .int .i64 t225, s_.2.1], s_.2.2.1]), (15, .agg #[.int .i64 t221, .int .i64 t222, .int .i64 t223]), (16, .agg #[.int .i64 t224, .int .i64 t225, s_.2.1]), (17, s_.2.2.1)]) (fun s_ w' => (w'.cell? ⟨gb215, 0, none⟩ = some (.int .i64 a0_0) /\ w'.cell? ⟨gb215, 1, none⟩ = some (.int .i64 a0_1) /\ w'.cell? ⟨gb215, 2, none⟩ = some (.slice A0_2 l0_2.length c0_2)) /\ (Kd.R (Kd.int .i64) 3 w' w.heap.size (fun _ => True) s_.1 t218) /\ (Kd.R k98 98 w' w.heap.size (fun _ => True) s_.2.1 t226) /\ (Kd.S (Kd.slice 3 (Kd.int .i64)) 28 w' w.heap.size (fun k_ => some k_ ≠ (s_.1 : Value).ownBlock) s_.2.2.1 t229) /\ (w'.heap[gb215]? = some (.cells #[.int .i64 a0_0, .int .i64 a0_1, .slice A0_2 l0_2.length c0_2] 33 (0, 0))) /\ (w'.heap[gb216]? = some (.cells #[.int .i64 0, .int .i64 0, .int .i64 0] 61 (0, 0))) /\ (w'.heap[gb217]? = some (.cells #[.int .i64 0, .int .i64 0, .slice none 0 0] 33 (0, 0))) /\ (w'.heap[s_.2.2.2]? = some (.cells #[.int .i64 0, .int .i64 0, .int .i64 0] 61 (0, 0))) /\ (w.heap.size <= s_.2.2.2) /\ (w.heap.size <= s_.2.2.2) /\ (gb215 ≠ s_.2.2.2) /\ (s_.2.2.2 ≠ gb215) /\ (gb216 ≠ s_.2.2.2) /\ (s_.2.2.2 ≠ gb216) /\ (gb217 ≠ s_.2.2.2) /\ (s_.2.2.2 ≠ gb217) /\ (Below w.heap.size w w')) ?_ ?_
   rotate_left
   · intro hJ2_4_9
     refine join_ (σ := Value × Value × Value × Nat) 4 #[Yy,Yy,Yy,Yy,Yy,Yy,Yy,Yy,Yy,Zz,Yy,Zz,Zz,Zz] (fun s_ => [(12, s_.1), (14, .tuple #[.agg #[.int .i64 t221, .int .i64 t222, .int .i64 t223], .agg #[.int .i64 t224, .int .i64 t225, s_.2.1], s_.2.2.1]), (7, .pointer (some ⟨s_.2.2.2, 0, none⟩)), (9, .tuple #[.agg #[.int .i64 t221, .int .i64 t222, .int .i64 t223], .agg #[.int .i64 t224, .int .i64 t225, s_.2.1], s_.2.2.1]), (15, .agg #[.int .i64 t221, .int .i64 t222, .int .i64 t223]), (16, .agg #[.int .i64 t224, .int .i64 t225, s_.2.1]), (17, s_.2.2.1)]) (fun s_ w' => (w'.cell? ⟨gb215, 0, none⟩ = some (.int .i64 a0_0) /\ w'.cell? ⟨gb215, 1, none⟩ = some (.int .i64 a0_1) /\ w'.cell? ⟨gb215, 2, none⟩ = some (.slice A0_2 l0_2.length c0_2)) /\ (Kd.R (Kd.int .i64) 3 w' w.heap.size (fun _ => True) s_.1 t218) /\ (Kd.R k98 98 w' w.heap.size (fun _ => True) s_.2.1 t226) /\ (Kd.S (Kd.slice 3 (Kd.int .i64)) 28 w' w.heap.size (fun k_ => some k_ ≠ (s_.1 : Value).ownBlock) s_.2.2.1 t229) /\ (w'.heap[gb215]? = some (.cells #[.int .i64 a0_0, .int .i64 a0_1, .slice A0_2 l0_2.length c0_2] 33 (0, 0))) /\ (w'.heap[gb216]? = some (.cells #[.int .i64 0, .int .i64 0, .int .i64 0] 61 (0, 0))) /\ (w'.heap[gb217]? = some (.cells #[.int .i64 0, .int .i64 0, .slice none 0 0] 33 (0, 0))) /\ (w'.heap[s_.2.2.2]? = some (.cells #[.int .i64 0, .int .i64 0, .slice none 0 0] 33 (0, 0))) /\ (w.heap.size <= s_.2.2.2) /\ (w.heap.size <= s_.2.2.2) /\ (gb215 ≠ s_.2.2.2) /\ (s_.2.2.2 ≠ gb215) /\ (gb216 ≠ s_.2.2.2) /\ (s_.2.2.2 ≠ gb216) /\ (gb217 ≠ s_.2.2.2) /\ (s_.2.2.2 ≠ gb217) /\ (Below w.heap.size w w')) ?_ ?_
     rotate_left
     · intro hJ2_4_10
       refine join_ (σ := Value × Nat × Nat) 8 #[Yy,Yy,Yy,Yy,Zz,Zz,Zz,Zz,Zz,Yy,Yy,Zz,Zz,Zz] (fun s_ => [(12, s_.1), (6, .pointer (some ⟨s_.2.1, 0, none⟩)), (7, .pointer (some ⟨s_.2.2, 0, none⟩))]) (fun s_ w' => (w'.cell? ⟨gb215, 0, none⟩ = some (.int .i64 a0_0) /\ w'.cell? ⟨gb215, 1, none⟩ = some (.int .i64 a0_1) /\ w'.cell? ⟨gb215, 2, none⟩ = some (.slice A0_2 l0_2.length c0_2)) /\ (Kd.R (Kd.int .i64) 3 w' w.heap.size (fun _ => True) s_.1 t218) /\ (w'.heap[gb215]? = some (.cells #[.int .i64 a0_0, .int .i64 a0_1, .slice A0_2 l0_2.length c0_2] 33 (0, 0))) /\ (w'.heap[gb216]? = some (.cells #[.int .i64 0, .int .i64 0, .int .i64 0] 61 (0, 0))) /\ (w'.heap[gb217]? = some (.cells #[.int .i64 0, .int .i64 0, .slice none 0 0] 33 (0, 0))) /\ (w'.heap[s_.2.1]? = some (.cells #[.int .i64 0, .int .i64 0, .int .i64 0] 61 (0, 0))) /\ (w'.heap[s_.2.2]? = some (.cells #[.int .i64 0, .int .i64 0, .slice none 0 0] 33 (0, 0))) /\ (w.heap.size <= s_.2.1) /\ (w.heap.size <= s_.2.1) /\ (gb215 ≠ s_.2.1) /\ (s_.2.1 ≠ gb215) /\ (gb216 ≠ s_.2.1) /\ (s_.2.1 ≠ gb216) /\ (gb217 ≠ s_.2.1) /\ (s_.2.1 ≠ gb217) /\ (s_.2.2 ≠ s_.2.1) /\ (s_.2.1 ≠ s_.2.2) /\ (w.heap.size <= s_.2.2) /\ (w.heap.size <= s_.2.2) /\ (gb215 ≠ s_.2.2) /\ (s_.2.2 ≠ gb215) /\ (gb216 ≠ s_.2.2) /\ (s_.2.2 ≠ gb216) /\ (gb217 ≠ s_.2.2) /\ (s_.2.2 ≠ gb217) /\ (Below w.heap.size w w')) ?_ ?_
       rotate_left
       · intro hJ2_9_10
         refine join_ (σ := Value × Value × Value) 5 #[Yy,Yy,Yy,Yy,Yy,Yy,Yy,Yy,Yy,Zz,Zz,Zz,Zz,Zz] (fun s_ => [(12, s_.1), (14, .tuple #[.agg #[.int .i64 t221, .int .i64 t222, .int .i64 t223], .agg #[.int .i64 t224, .int .i64 t225, s_.2.1], s_.2.2]), (9, .tuple #[.agg #[.int .i64 t221, .int .i64 t222, .int .i64 t223], .agg #[.int .i64 t224, .int .i64 t225, s_.2.1], s_.2.2]), (15, .agg #[.int .i64 t221, .int .i64 t222, .int .i64 t223]), (16, .agg #[.int .i64 t224, .int .i64 t225, s_.2.1]), (17, s_.2.2)]) (fun s_ w' => (w'.cell? ⟨gb215, 0, none⟩ = some (.int .i64 a0_0) /\ w'.cell? ⟨gb215, 1, none⟩ = some (.int .i64 a0_1) /\ w'.cell? ⟨gb215, 2, none⟩ = some (.slice A0_2 l0_2.length c0_2)) /\ (Kd.R (Kd.int .i64) 3 w' w.heap.size (fun _ => True) s_.1 t218) /\ (Kd.R k98 98 w' w.heap.size (fun _ => True) s_.2.1 t226) /\ (Kd.S (Kd.slice 3 (Kd.int .i64)) 28 w' w.heap.size (fun k_ => some k_ ≠ (s_.1 : Value).ownBlock) s_.2.2 t229) /\ (w'.heap[gb215]? = some (.cells #[.int .i64 a0_0, .int .i64 a0_1, .slice A0_2 l0_2.length c0_2] 33 (0, 0))) /\ (w'.heap[gb216]? = some (.cells #[.int .i64 0, .int .i64 0, .int .i64 0] 61 (0, 0))) /\ (w'.heap[gb217]? = some (.cells #[.int .i64 0, .int .i64 0, .slice none 0 0] 33 (0, 0))) /\ (Below w.heap.size w w')) ?_ ?_
         rotate_left
         · intro hJ2_4
           refine join_ (σ := Value × Nat) 9 #[Yy,Yy,Yy,Yy,Zz,Zz,Zz,Zz,Zz,Yy,Zz,Zz,Zz,Zz] (fun s_ => [(12, s_.1), (6, .pointer (some ⟨s_.2, 0, none⟩))]) (fun s_ w' => (w'.cell? ⟨gb215, 0, none⟩ = some (.int .i64 a0_0) /\ w'.cell? ⟨gb215, 1, none⟩ = some (.int .i64 a0_1) /\ w'.cell? ⟨gb215, 2, none⟩ = some (.slice A0_2 l0_2.length c0_2)) /\ (Kd.R (Kd.int .i64) 3 w' w.heap.size (fun _ => True) s_.1 t218) /\ (w'.heap[gb215]? = some (.cells #[.int .i64 a0_0, .int .i64 a0_1, .slice A0_2 l0_2.length c0_2] 33 (0, 0))) /\ (w'.heap[gb216]? = some (.cells #[.int .i64 0, .int .i64 0, .int .i64 0] 61 (0, 0))) /\ (w'.heap[gb217]? = some (.cells #[.int .i64 0, .int .i64 0, .slice none 0 0] 33 (0, 0))) /\ (w'.heap[s_.2]? = some (.cells #[.int .i64 0, .int .i64 0, .int .i64 0] 61 (0, 0))) /\ (w.heap.size <= s_.2) /\ (w.heap.size <= s_.2) /\ (gb215 ≠ s_.2) /\ (s_.2 ≠ gb215) /\ (gb216 ≠ s_.2) /\ (s_.2 ≠ gb216) /\ (gb217 ≠ s_.2) /\ (s_.2 ≠ gb217) /\ (Below w.heap.size w w')) ?_ ?_
           rotate_left
           · intro hJ2_9
             refine join_ (σ := Value × Nat) 9 #[Yy,Yy,Yy,Yy,Zz,Zz,Zz,Zz,Zz,Zz,Yy,Zz,Zz,Zz] (fun s_ => [(12, s_.1), (7, .pointer (some ⟨s_.2, 0, none⟩))]) (fun s_ w' => (w'.cell? ⟨gb215, 0, none⟩ = some (.int .i64 a0_0) /\ w'.cell? ⟨gb215, 1, none⟩ = some (.int .i64 a0_1) /\ w'.cell? ⟨gb215, 2, none⟩ = some (.slice A0_2 l0_2.length c0_2)) /\ (Kd.R (Kd.int .i64) 3 w' w.heap.size (fun _ => True) s_.1 t218) /\ (w'.heap[gb215]? = some (.cells #[.int .i64 a0_0, .int .i64 a0_1, .slice A0_2 l0_2.length c0_2] 33 (0, 0))) /\ (w'.heap[gb216]? = some (.cells #[.int .i64 0, .int .i64 0, .int .i64 0] 61 (0, 0))) /\ (w'.heap[gb217]? = some (.cells #[.int .i64 0, .int .i64 0, .slice none 0 0] 33 (0, 0))) /\ (w'.heap[s_.2]? = some (.cells #[.int .i64 0, .int .i64 0, .slice none 0 0] 33 (0, 0))) /\ (w.heap.size <= s_.2) /\ (w.heap.size <= s_.2) /\ (gb215 ≠ s_.2) /\ (s_.2 ≠ gb215) /\ (gb216 ≠ s_.2) /\ (s_.2 ≠ gb216) /\ (gb217 ≠ s_.2) /\ (s_.2 ≠ gb217) /\ (Below w.heap.size w w')) ?_ ?_
             rotate_left
             · intro hJ2_10
               refine join_ (σ := Nat × Nat) 9 #[Yy,Yy,Zz,Yy,Zz,Zz,Zz,Zz,Zz,Yy,Yy,Zz,Zz,Zz] (fun s_ => [(6, .pointer (some ⟨s_.1, 0, none⟩)), (7, .pointer (some ⟨s_.2, 0, none⟩))]) (fun s_ w' => (w'.cell? ⟨gb215, 0, none⟩ = some (.int .i64 a0_0) /\ w'.cell? ⟨gb215, 1, none⟩ = some (.int .i64 a0_1) /\ w'.cell? ⟨gb215, 2, none⟩ = some (.slice A0_2 l0_2.length c0_2)) /\ (w'.heap[gb215]? = some (.cells #[.int .i64 a0_0, .int .i64 a0_1, .slice A0_2 l0_2.length c0_2] 33 (0, 0))) /\ (w'.heap[gb216]? = some (.cells #[.int .i64 0, .int .i64 0, .int .i64 0] 61 (0, 0))) /\ (w'.heap[gb217]? = some (.cells #[.int .i64 0, .int .i64 0, .slice none 0 0] 33 (0, 0))) /\ (w'.heap[s_.1]? = some (.cells #[.int .i64 0, .int .i64 0, .int .i64 0] 61 (0, 0))) /\ (w'.heap[s_.2]? = some (.cells #[.int .i64 0, .int .i64 0, .slice none 0 0] 33 (0, 0))) /\ (w.heap.size <= s_.1) /\ (w.heap.size <= s_.1) /\ (gb215 ≠ s_.1) /\ (s_.1 ≠ gb215) /\ (gb216 ≠ s_.1) /\ (s_.1 ≠ gb216) /\ (gb217 ≠ s_.1) /\ (s_.1 ≠ gb217) /\ (s_.2 ≠ s_.1) /\ (s_.1 ≠ s_.2) /\ (w.heap.size <= s_.2) /\ (w.heap.size <= s_.2) /\ (gb215 ≠ s_.2) /\ (s_.2 ≠ gb215) /\ (gb216 ≠ s_.2) /\ (s_.2 ≠ gb216) /\ (gb217 ≠ s_.2) /\ (s_.2 ≠ gb217) /\ (Below w.heap.size w w')) ?_ ?_
               rotate_left
               · intro hJ9_10
                 refine join_ (σ := Value) 10 #[Yy,Yy,Yy,Yy,Zz,Zz,Zz,Zz,Zz,Zz,Zz,Zz,Zz,Zz] (fun s_ => [(12, s_)]) (fun s_ w' => (w'.cell? ⟨gb215, 0, none⟩ = some (.int .i64 a0_0) /\ w'.cell? ⟨gb215, 1, none⟩ = some (.int .i64 a0_1) /\ w'.cell? ⟨gb215, 2, none⟩ = some (.slice A0_2 l0_2.length c0_2)) /\ (Kd.R (Kd.int .i64) 3 w' w.heap.size (fun _ => True) s_ t218) /\ (w'.heap[gb215]? = some (.cells #[.int .i64 a0_0, .int .i64 a0_1, .slice A0_2 l0_2.length c0_2] 33 (0, 0))) /\ (w'.heap[gb216]? = some (.cells #[.int .i64 0, .int .i64 0, .int .i64 0] 61 (0, 0))) /\ (w'.heap[gb217]? = some (.cells #[.int .i64 0, .int .i64 0, .slice none 0 0] 33 (0, 0))) /\ (Below w.heap.size w w')) ?_ ?_
                 rotate_left
                 · intro hJ2
                   refine join_ (σ := Nat) 10 #[Yy,Yy,Zz,Yy,Zz,Zz,Zz,Zz,Zz,Yy,Zz,Zz,Zz,Zz] (fun s_ => [(6, .pointer (some ⟨s_, 0, none⟩))]) (fun s_ w' => (w'.cell? ⟨gb215, 0, none⟩ = some (.int .i64 a0_0) /\ w'.cell? ⟨gb215, 1, none⟩ = some (.int .i64 a0_1) /\ w'.cell? ⟨gb215, 2, none⟩ = some (.slice A0_2 l0_2.length c0_2)) /\ (w'.heap[gb215]? = some (.cells #[.int .i64 a0_0, .int .i64 a0_1, .slice A0_2 l0_2.length c0_2] 33 (0, 0))) /\ (w'.heap[gb216]? = some (.cells #[.int .i64 0, .int .i64 0, .int .i64 0] 61 (0, 0))) /\ (w'.heap[gb217]? = some (.cells #[.int .i64 0, .int .i64 0, .slice none 0 0] 33 (0, 0))) /\ (w'.heap[s_]? = some (.cells #[.int .i64 0, .int .i64 0, .int .i64 0] 61 (0, 0))) /\ (w.heap.size <= s_) /\ (w.heap.size <= s_) /\ (gb215 ≠ s_) /\ (s_ ≠ gb215) /\ (gb216 ≠ s_) /\ (s_ ≠ gb216) /\ (gb217 ≠ s_) /\ (s_ ≠ gb217) /\ (Below w.heap.size w w')) ?_ ?_
                   rotate_left
                   · intro hJ9
                     refine join_ (σ := Nat) 10 #[Yy,Yy,Zz,Yy,Zz,Zz,Zz,Zz,Zz,Zz,Yy,Zz,Zz,Zz] (fun s_ => [(7, .pointer (some ⟨s_, 0, none⟩))]) (fun s_ w' => (w'.cell? ⟨gb215, 0, none⟩ = some (.int .i64 a0_0) /\ w'.cell? ⟨gb215, 1, none⟩ = some (.int .i64 a0_1) /\ w'.cell? ⟨gb215, 2, none⟩ = some (.slice A0_2 l0_2.length c0_2)) /\ (w'.heap[gb215]? = some (.cells #[.int .i64 a0_0, .int .i64 a0_1, .slice A0_2 l0_2.length c0_2] 33 (0, 0))) /\ (w'.heap[gb216]? = some (.cells #[.int .i64 0, .int .i64 0, .int .i64 0] 61 (0, 0))) /\ (w'.heap[gb217]? = some (.cells #[.int .i64 0, .int .i64 0, .slice none 0 0] 33 (0, 0))) /\ (w'.heap[s_]? = some (.cells #[.int .i64 0, .int .i64 0, .slice none 0 0] 33 (0, 0))) /\ (w.heap.size <= s_) /\ (w.heap.size <= s_) /\ (gb215 ≠ s_) /\ (s_ ≠ gb215) /\ (gb216 ≠ s_) /\ (s_ ≠ gb216) /\ (gb217 ≠ s_) /\ (s_ ≠ gb217) /\ (Below w.heap.size w w')) ?_ ?_
                     rotate_left
                     · intro hJ10
                       refine three_ (i := 2) (j := 9) (k := 10) (Ni := some 12) (Nj := some 6) (Nk := some 7) #[Yy,Yy,Yy,Yy,Zz,Zz,Zz,Zz,Zz,Zz,Zz,Zz,Zz,Zz] #[Yy,Yy,Zz,Yy,Zz,Zz,Zz,Zz,Zz,Yy,Zz,Zz,Zz,Zz] #[Yy,Yy,Zz,Yy,Zz,Zz,Zz,Zz,Zz,Zz,Yy,Zz,Zz,Zz] rfl rfl rfl rfl rfl rfl (three_of HT_.1 (by kernel_rfl)) (by decide) (by decide) (by decide) (fun K hK => ?_) (fun K hK => ?_) (fun K hK => ?_)
                       · skip
                         refine goes_ Try.func73 (by kernel_rfl) rfl #[.agg #[.int .i64 a0_0, .int .i64 a0_1, .slice A0_2 l0_2.length c0_2]] (by rfl) rfl rfl (by (try simp only [List.map_toArray, List.map_cons, List.map_nil]); first | done | rfl | (simp only [List.length_drop, List.length_take]; rfl)) ?_
                         with_reducible refine (spec_ggGroups.calls k a0_0 a0_1 _ _ l0_2 t218 _ ?side1 ?side2 A3.1).mono ?_
                         (case side1 => exact CB (C_below HR0_2.1 HB.1))
                         (case side2 => exact HC0_2.1)
                         rintro e w9 ⟨v219, rfl, ho0, hb⟩
                         refine ⟨_, rfl, ?_⟩
                         refine E5 (R_lower ho0 (bZ HB.1)) (bB BK215.1 hb) (bB BK216.1 hb) (bB BK217.1 hb) (bS HB.1 hb) ?_
                         clear BK215 BK216 BK217 HB
                         intro HO220 BK215 BK216 BK217 HB
                         (try clear hb)
                         (try clear hb2)
                         (try clear hk)
                         (try clear hi)
                         (try clear ho0)
                         refine hK.out _ _ ⟨(blk_cell BK215.1 0).trans rfl, (blk_cell BK215.1 1).trans rfl, (blk_cell BK215.1 2).trans rfl⟩ (fun hHeld => ?_)
                         clear hK K
                         refine norm_ (a' := ?_) ?_ ?_
                         rotate_left
                         · show Act.put _ (some 12) _ = _
                           simp only [Act.put, List.setIfInBounds_toArray, List.set_cons_zero, List.set_cons_succ, i64_w, i32_w]
                           rfl
                         exact norm_ NA (hJ2 (v219) _ ⟨hHeld, (PR HO220.1), (PB BK215.1), (PB BK216.1), (PB BK217.1), (BL HB.1)⟩)
                       · skip
                         refine box_step ?hg (N := 6) ?hd (cs := #[.int .i64 0, .int .i64 0, .int .i64 0]) (t := 61) ?hr ?_; (case hd => rfl); (case hg => rfl); (case hr => first | (go_simp; done) | (go_simp; rfl))
                         intro gb232 hg w9 hbox hb
                         refine E13 (bB BK215.1 hb) (bB BK216.1 hb) (bB BK217.1 hb) (bS HB.1 hb) (hbox) (gX HB.1 hg) (gX HB.1 hg) (nB BK215.1 hg) (nC BK215.1 hg) (nB BK216.1 hg) (nC BK216.1 hg) (nB BK217.1 hg) (nC BK217.1 hg) ?_
                         clear BK215 BK216 BK217 HB
                         intro BK215 BK216 BK217 HB BK232 GW232 GE232 NB215_232 NB232_215 NB216_232 NB232_216 NB217_232 NB232_217
                         clear hb hbox hg
                         refine hK.out _ _ ⟨(blk_cell BK215.1 0).trans rfl, (blk_cell BK215.1 1).trans rfl, (blk_cell BK215.1 2).trans rfl⟩ (fun hHeld => ?_)
                         clear hK K
                         refine norm_ (a' := ?_) ?_ ?_
                         rotate_left
                         · show Act.put _ (some 6) _ = _
                           simp only [Act.put, List.setIfInBounds_toArray, List.set_cons_zero, List.set_cons_succ, i64_w, i32_w]
                           rfl
                         exact norm_ NA (hJ9 (gb232) _ ⟨hHeld, (PB BK215.1), (PB BK216.1), (PB BK217.1), (PB BK232.1), GW232.1, GE232.1, NB215_232.1, NB232_215.1, NB216_232.1, NB232_216.1, NB217_232.1, NB232_217.1, (BL HB.1)⟩)
                       skip
                       refine box_step ?hg (N := 7) ?hd (cs := #[.int .i64 0, .int .i64 0, .slice none 0 0]) (t := 33) ?hr ?_; (case hd => rfl); (case hg => rfl); (case hr => first | (go_simp; done) | (go_simp; rfl))
                       intro gb233 hg w9 hbox hb
                       refine E13 (bB BK215.1 hb) (bB BK216.1 hb) (bB BK217.1 hb) (bS HB.1 hb) (hbox) (gX HB.1 hg) (gX HB.1 hg) (nB BK215.1 hg) (nC BK215.1 hg) (nB BK216.1 hg) (nC BK216.1 hg) (nB BK217.1 hg) (nC BK217.1 hg) ?_
                       clear BK215 BK216 BK217 HB
                       intro BK215 BK216 BK217 HB BK233 GW233 GE233 NB215_233 NB233_215 NB216_233 NB233_216 NB217_233 NB233_217
                       clear hb hbox hg
                       refine hK.out _ _ ⟨(blk_cell BK215.1 0).trans rfl, (blk_cell BK215.1 1).trans rfl, (blk_cell BK215.1 2).trans rfl⟩ (fun hHeld => ?_)
                       clear hK K
                       refine norm_ (a' := ?_) ?_ ?_
                       rotate_left
                       · show Act.put _ (some 7) _ = _
                         simp only [Act.put, List.setIfInBounds_toArray, List.set_cons_zero, List.set_cons_succ, i64_w, i32_w]
                         rfl
                       exact norm_ NA (hJ10 (gb233) _ ⟨hHeld, (PB BK215.1), (PB BK216.1), (PB BK217.1), (PB BK233.1), GW233.1, GE233.1, NB215_233.1, NB233_215.1, NB216_233.1, NB233_216.1, NB217_233.1, NB233_217.1, (BL HB.1)⟩)
                     skip
                     rintro gb233 w10 ⟨hS_, h0_, h1_, h2_, h3_, h4_, h5_, h6_, h7_, h8_, h9_, h10_, h11_, h12_⟩
                     refine E13 h0_ h1_ h2_ h3_ h4_ h5_ h6_ h7_ h8_ h9_ h10_ h11_ h12_ ?_
                     clear BK215 BK216 BK217 HB h0_ h1_ h2_ h3_ h4_ h5_ h6_ h7_ h8_ h9_ h10_ h11_ h12_
                     intro BK215 BK216 BK217 BK233 GW233 GE233 NB215_233 NB233_215 NB216_233 NB233_216 NB217_233 NB233_217 HB
                     have hHeld : w10.cell? ⟨gb215, 0, none⟩ = some (.int .i64 a0_0) /\ w10.cell? ⟨gb215, 1, none⟩ = some (.int .i64 a0_1) /\ w10.cell? ⟨gb215, 2, none⟩ = some (.slice A0_2 l0_2.length c0_2) := hS_
                     refine norm_ (a' := ?_) ?_ ?_
                     rotate_left
                     · simp only [putAll, Act.put, List.setIfInBounds_toArray, List.set_cons_zero, List.set_cons_succ]
                       rfl
                     refine two_ (i := 2) (j := 9) (Ni := some 12) (Nj := some 6) #[Yy,Yy,Yy,Yy,Zz,Zz,Zz,Zz,Zz,Zz,Yy,Zz,Zz,Zz] #[Yy,Yy,Zz,Yy,Zz,Zz,Zz,Zz,Zz,Yy,Yy,Zz,Zz,Zz] rfl rfl rfl rfl (two_of HT_.1 (by kernel_rfl)) (by decide) (by decide) (fun K hK => ?_) (fun K hK => ?_)
                     · skip
                       refine goes_ Try.func73 (by kernel_rfl) rfl #[.agg #[.int .i64 a0_0, .int .i64 a0_1, .slice A0_2 l0_2.length c0_2]] (by rfl) rfl rfl (by (try simp only [List.map_toArray, List.map_cons, List.map_nil]); first | done | rfl | (simp only [List.length_drop, List.length_take]; rfl)) ?_
                       with_reducible refine (spec_ggGroups.calls k a0_0 a0_1 _ _ l0_2 t218 _ ?side1 ?side2 A3.1).mono ?_
                       (case side1 => exact CB (C_below HR0_2.1 HB.1))
                       (case side2 => exact HC0_2.1)
                       rintro e w11 ⟨v219, rfl, ho0, hb⟩
                       refine ⟨_, rfl, ?_⟩
                       refine E6 (R_lower ho0 (bZ HB.1)) (bB BK215.1 hb) (bB BK216.1 hb) (bB BK217.1 hb) (bB BK233.1 hb) (bS HB.1 hb) ?_
                       clear BK215 BK216 BK217 BK233 HB
                       intro HO220 BK215 BK216 BK217 BK233 HB
                       (try clear hb)
                       (try clear hb2)
                       (try clear hk)
                       (try clear hi)
                       (try clear ho0)
                       refine hK.out _ _ ⟨(blk_cell BK215.1 0).trans rfl, (blk_cell BK215.1 1).trans rfl, (blk_cell BK215.1 2).trans rfl⟩ (fun hHeld => ?_)
                       clear hK K
                       refine norm_ (a' := ?_) ?_ ?_
                       rotate_left
                       · show Act.put _ (some 12) _ = _
                         simp only [Act.put, List.setIfInBounds_toArray, List.set_cons_zero, List.set_cons_succ, i64_w, i32_w]
                         rfl
                       exact norm_ NA (hJ2_10 (v219, gb233) _ ⟨hHeld, (PR HO220.1), (PB BK215.1), (PB BK216.1), (PB BK217.1), (PB BK233.1), GW233.1, GE233.1, NB215_233.1, NB233_215.1, NB216_233.1, NB233_216.1, NB217_233.1, NB233_217.1, (BL HB.1)⟩)
                     skip
                     refine box_step ?hg (N := 6) ?hd (cs := #[.int .i64 0, .int .i64 0, .int .i64 0]) (t := 61) ?hr ?_; (case hd => rfl); (case hg => rfl); (case hr => first | (go_simp; done) | (go_simp; rfl))
                     intro gb232 hg w11 hbox hb
                     refine E16 (bB BK215.1 hb) (bB BK216.1 hb) (bB BK217.1 hb) (bB BK233.1 hb) (bS HB.1 hb) (hbox) (gX HB.1 hg) (gX HB.1 hg) (nB BK215.1 hg) (nC BK215.1 hg) (nB BK216.1 hg) (nC BK216.1 hg) (nB BK217.1 hg) (nC BK217.1 hg) (nB BK233.1 hg) (nC BK233.1 hg) ?_
                     clear BK215 BK216 BK217 BK233 HB
                     intro BK215 BK216 BK217 BK233 HB BK232 GW232 GE232 NB215_232 NB232_215 NB216_232 NB232_216 NB217_232 NB232_217 NB233_232 NB232_233
                     clear hb hbox hg
                     refine hK.out _ _ ⟨(blk_cell BK215.1 0).trans rfl, (blk_cell BK215.1 1).trans rfl, (blk_cell BK215.1 2).trans rfl⟩ (fun hHeld => ?_)
                     clear hK K
                     refine norm_ (a' := ?_) ?_ ?_
                     rotate_left
                     · show Act.put _ (some 6) _ = _
                       simp only [Act.put, List.setIfInBounds_toArray, List.set_cons_zero, List.set_cons_succ, i64_w, i32_w]
                       rfl
                     exact norm_ NA (hJ9_10 (gb232, gb233) _ ⟨hHeld, (PB BK215.1), (PB BK216.1), (PB BK217.1), (PB BK232.1), (PB BK233.1), GW232.1, GE232.1, NB215_232.1, NB232_215.1, NB216_232.1, NB232_216.1, NB217_232.1, NB232_217.1, NB233_232.1, NB232_233.1, GW233.1, GE233.1, NB215_233.1, NB233_215.1, NB216_233.1, NB233_216.1, NB217_233.1, NB233_217.1, (BL HB.1)⟩)
                   skip
                   rintro gb232 w10 ⟨hS_, h0_, h1_, h2_, h3_, h4_, h5_, h6_, h7_, h8_, h9_, h10_, h11_, h12_⟩
                   refine E13 h0_ h1_ h2_ h3_ h4_ h5_ h6_ h7_ h8_ h9_ h10_ h11_ h12_ ?_
                   clear BK215 BK216 BK217 HB h0_ h1_ h2_ h3_ h4_ h5_ h6_ h7_ h8_ h9_ h10_ h11_ h12_
                   intro BK215 BK216 BK217 BK232 GW232 GE232 NB215_232 NB232_215 NB216_232 NB232_216 NB217_232 NB232_217 HB
                   have hHeld : w10.cell? ⟨gb215, 0, none⟩ = some (.int .i64 a0_0) /\ w10.cell? ⟨gb215, 1, none⟩ = some (.int .i64 a0_1) /\ w10.cell? ⟨gb215, 2, none⟩ = some (.slice A0_2 l0_2.length c0_2) := hS_
                   refine norm_ (a' := ?_) ?_ ?_
                   rotate_left
                   · simp only [putAll, Act.put, List.setIfInBounds_toArray, List.set_cons_zero, List.set_cons_succ]
                     rfl
                   refine two_ (i := 2) (j := 10) (Ni := some 12) (Nj := some 7) #[Yy,Yy,Yy,Yy,Zz,Zz,Zz,Zz,Zz,Yy,Zz,Zz,Zz,Zz] #[Yy,Yy,Zz,Yy,Zz,Zz,Zz,Zz,Zz,Yy,Yy,Zz,Zz,Zz] rfl rfl rfl rfl (two_of HT_.1 (by kernel_rfl)) (by decide) (by decide) (fun K hK => ?_) (fun K hK => ?_)
                   · skip
                     refine goes_ Try.func73 (by kernel_rfl) rfl #[.agg #[.int .i64 a0_0, .int .i64 a0_1, .slice A0_2 l0_2.length c0_2]] (by rfl) rfl rfl (by (try simp only [List.map_toArray, List.map_cons, List.map_nil]); first | done | rfl | (simp only [List.length_drop, List.length_take]; rfl)) ?_
                     with_reducible refine (spec_ggGroups.calls k a0_0 a0_1 _ _ l0_2 t218 _ ?side1 ?side2 A3.1).mono ?_
                     (case side1 => exact CB (C_below HR0_2.1 HB.1))
                     (case side2 => exact HC0_2.1)
                     rintro e w11 ⟨v219, rfl, ho0, hb⟩
                     refine ⟨_, rfl, ?_⟩
                     refine E6 (R_lower ho0 (bZ HB.1)) (bB BK215.1 hb) (bB BK216.1 hb) (bB BK217.1 hb) (bB BK232.1 hb) (bS HB.1 hb) ?_
                     clear BK215 BK216 BK217 BK232 HB
                     intro HO220 BK215 BK216 BK217 BK232 HB
                     (try clear hb)
                     (try clear hb2)
                     (try clear hk)
                     (try clear hi)
                     (try clear ho0)
                     refine hK.out _ _ ⟨(blk_cell BK215.1 0).trans rfl, (blk_cell BK215.1 1).trans rfl, (blk_cell BK215.1 2).trans rfl⟩ (fun hHeld => ?_)
                     clear hK K
                     refine norm_ (a' := ?_) ?_ ?_
                     rotate_left
                     · show Act.put _ (some 12) _ = _
                       simp only [Act.put, List.setIfInBounds_toArray, List.set_cons_zero, List.set_cons_succ, i64_w, i32_w]
                       rfl
                     exact norm_ NA (hJ2_9 (v219, gb232) _ ⟨hHeld, (PR HO220.1), (PB BK215.1), (PB BK216.1), (PB BK217.1), (PB BK232.1), GW232.1, GE232.1, NB215_232.1, NB232_215.1, NB216_232.1, NB232_216.1, NB217_232.1, NB232_217.1, (BL HB.1)⟩)
                   skip
                   refine box_step ?hg (N := 7) ?hd (cs := #[.int .i64 0, .int .i64 0, .slice none 0 0]) (t := 33) ?hr ?_; (case hd => rfl); (case hg => rfl); (case hr => first | (go_simp; done) | (go_simp; rfl))
                   intro gb233 hg w11 hbox hb
                   refine E16 (bB BK215.1 hb) (bB BK216.1 hb) (bB BK217.1 hb) (bB BK232.1 hb) (bS HB.1 hb) (hbox) (gX HB.1 hg) (gX HB.1 hg) (nB BK215.1 hg) (nC BK215.1 hg) (nB BK216.1 hg) (nC BK216.1 hg) (nB BK217.1 hg) (nC BK217.1 hg) (nB BK232.1 hg) (nC BK232.1 hg) ?_
                   clear BK215 BK216 BK217 BK232 HB
                   intro BK215 BK216 BK217 BK232 HB BK233 GW233 GE233 NB215_233 NB233_215 NB216_233 NB233_216 NB217_233 NB233_217 NB232_233 NB233_232
                   clear hb hbox hg
                   refine hK.out _ _ ⟨(blk_cell BK215.1 0).trans rfl, (blk_cell BK215.1 1).trans rfl, (blk_cell BK215.1 2).trans rfl⟩ (fun hHeld => ?_)
                   clear hK K
                   refine norm_ (a' := ?_) ?_ ?_
                   rotate_left
                   · show Act.put _ (some 7) _ = _
                     simp only [Act.put, List.setIfInBounds_toArray, List.set_cons_zero, List.set_cons_succ, i64_w, i32_w]
                     rfl
                   exact norm_ NA (hJ9_10 (gb232, gb233) _ ⟨hHeld, (PB BK215.1), (PB BK216.1), (PB BK217.1), (PB BK232.1), (PB BK233.1), GW232.1, GE232.1, NB215_232.1, NB232_215.1, NB216_232.1, NB232_216.1, NB217_232.1, NB232_217.1, NB233_232.1, NB232_233.1, GW233.1, GE233.1, NB215_233.1, NB233_215.1, NB216_233.1, NB233_216.1, NB217_233.1, NB233_217.1, (BL HB.1)⟩)
                 skip
                 rintro v219 w10 ⟨hS_, h0_, h1_, h2_, h3_, h4_⟩
                 refine E5 h0_ h1_ h2_ h3_ h4_ ?_
                 clear BK215 BK216 BK217 HB h0_ h1_ h2_ h3_ h4_
                 intro HO220 BK215 BK216 BK217 HB
                 have hHeld : w10.cell? ⟨gb215, 0, none⟩ = some (.int .i64 a0_0) /\ w10.cell? ⟨gb215, 1, none⟩ = some (.int .i64 a0_1) /\ w10.cell? ⟨gb215, 2, none⟩ = some (.slice A0_2 l0_2.length c0_2) := hS_
                 obtain ⟨Ao11, co11, eo11⟩ := R_slice HO220.1
                 (first | subst eo11 | (injection eo11 with f1_ f2_ f3_; have f4_ := f1_.symm; have f5_ := f3_.symm; clear f1_ f2_ f3_; subst f4_; subst f5_))
                 refine norm_ (a' := ?_) ?_ ?_
                 rotate_left
                 · simp only [putAll, Act.put, List.setIfInBounds_toArray, List.set_cons_zero, List.set_cons_succ]
                   rfl
                 refine three_ (i := 4) (j := 9) (k := 10) (Ni := some 14) (Nj := some 6) (Nk := some 7) #[Yy,Yy,Yy,Yy,Yy,Zz,Zz,Zz,Zz,Zz,Zz,Zz,Zz,Zz] #[Yy,Yy,Yy,Yy,Zz,Zz,Zz,Zz,Zz,Yy,Zz,Zz,Zz,Zz] #[Yy,Yy,Yy,Yy,Zz,Zz,Zz,Zz,Zz,Zz,Yy,Zz,Zz,Zz] rfl rfl rfl rfl rfl rfl (three_of HT_.1 (by kernel_rfl)) (by decide) (by decide) (by decide) (fun K hK => ?_) (fun K hK => ?_) (fun K hK => ?_)
                 · skip
                   refine goes_ Try.func72 (by kernel_rfl) rfl #[.agg #[.int .i64 a0_0, .int .i64 a0_1, .slice A0_2 l0_2.length c0_2], .slice Ao11 t218.length co11, .int .i64 a1] (by rfl) rfl rfl (by (try simp only [List.map_toArray, List.map_cons, List.map_nil]); first | done | rfl | (simp only [List.length_drop, List.length_take]; rfl)) ?_
                   with_reducible refine (spec_flGo.calls k a0_0 a0_1 _ _ l0_2 _ _ t218 a1 t221 t222 t223 t224 t225 t226 t229 _ ?side1 ?side2 ?side3 ?side4 A4.1).mono ?_
                   (case side1 => exact CB (C_below HR0_2.1 HB.1))
                   (case side2 => exact HC0_2.1)
                   (case side3 => exact CB (R_reads' HO220.1).2.2)
                   (case side4 => exact (R_reads' HO220.1).2.1)
                   rintro e w12 ⟨v227, v230, rfl, ho0, ho1, hb⟩
                   refine ⟨_, rfl, ?_⟩
                   refine E7 (rB HO220.1 hb) (R_lower ho0 (bZ HB.1)) (S_lower (S_new' ho1 (R_lt (PR HO220.1))) (bZ HB.1)) (bB BK215.1 hb) (bB BK216.1 hb) (bB BK217.1 hb) (bS HB.1 hb) ?_
                   clear HO220 BK215 BK216 BK217 HB
                   intro HO220 HO228 HO231 BK215 BK216 BK217 HB
                   (try clear hb)
                   (try clear hb2)
                   (try clear hk)
                   (try clear hi)
                   (try clear ho0)
                   (try clear ho1)
                   refine hK.out _ _ ⟨(blk_cell BK215.1 0).trans rfl, (blk_cell BK215.1 1).trans rfl, (blk_cell BK215.1 2).trans rfl⟩ (fun hHeld => ?_)
                   clear hK K
                   refine norm_ (a' := ?_) ?_ ?_
                   rotate_left
                   · show Act.put _ (some 14) _ = _
                     simp only [Act.put, List.setIfInBounds_toArray, List.set_cons_zero, List.set_cons_succ, i64_w, i32_w]
                     rfl
                   refine pureF 5 (N := some 9) HT_.1 ?_
                   refine pureF 6 (N := some 15) HT_.1 ?_
                   refine pureF 7 (N := some 16) HT_.1 ?_
                   refine pureF 8 (N := some 17) HT_.1 ?_
                   exact norm_ NA (hJ2_4 (.slice Ao11 t218.length co11, v227, v230) _ ⟨hHeld, (PR HO220.1), (PR HO228.1), (SPE (S_mono HO231.1 (fun _ hk => hk.2))), (PB BK215.1), (PB BK216.1), (PB BK217.1), (BL HB.1)⟩)
                 · skip
                   refine box_step ?hg (N := 6) ?hd (cs := #[.int .i64 0, .int .i64 0, .int .i64 0]) (t := 61) ?hr ?_; (case hd => rfl); (case hg => rfl); (case hr => first | (go_simp; done) | (go_simp; rfl))
                   intro gb232 hg w11 hbox hb
                   refine E14 (rB HO220.1 hb) (bB BK215.1 hb) (bB BK216.1 hb) (bB BK217.1 hb) (bS HB.1 hb) (hbox) (gX HB.1 hg) (gX HB.1 hg) (nB BK215.1 hg) (nC BK215.1 hg) (nB BK216.1 hg) (nC BK216.1 hg) (nB BK217.1 hg) (nC BK217.1 hg) ?_
                   clear HO220 BK215 BK216 BK217 HB
                   intro HO220 BK215 BK216 BK217 HB BK232 GW232 GE232 NB215_232 NB232_215 NB216_232 NB232_216 NB217_232 NB232_217
                   clear hb hbox hg
                   refine hK.out _ _ ⟨(blk_cell BK215.1 0).trans rfl, (blk_cell BK215.1 1).trans rfl, (blk_cell BK215.1 2).trans rfl⟩ (fun hHeld => ?_)
                   clear hK K
                   refine norm_ (a' := ?_) ?_ ?_
                   rotate_left
                   · show Act.put _ (some 6) _ = _
                     simp only [Act.put, List.setIfInBounds_toArray, List.set_cons_zero, List.set_cons_succ, i64_w, i32_w]
                     rfl
                   exact norm_ NA (hJ2_9 ((.slice Ao11 t218.length co11), gb232) _ ⟨hHeld, (PR HO220.1), (PB BK215.1), (PB BK216.1), (PB BK217.1), (PB BK232.1), GW232.1, GE232.1, NB215_232.1, NB232_215.1, NB216_232.1, NB232_216.1, NB217_232.1, NB232_217.1, (BL HB.1)⟩)
                 skip
                 refine box_step ?hg (N := 7) ?hd (cs := #[.int .i64 0, .int .i64 0, .slice none 0 0]) (t := 33) ?hr ?_; (case hd => rfl); (case hg => rfl); (case hr => first | (go_simp; done) | (go_simp; rfl))
                 intro gb233 hg w11 hbox hb
                 refine E14 (rB HO220.1 hb) (bB BK215.1 hb) (bB BK216.1 hb) (bB BK217.1 hb) (bS HB.1 hb) (hbox) (gX HB.1 hg) (gX HB.1 hg) (nB BK215.1 hg) (nC BK215.1 hg) (nB BK216.1 hg) (nC BK216.1 hg) (nB BK217.1 hg) (nC BK217.1 hg) ?_
                 clear HO220 BK215 BK216 BK217 HB
                 intro HO220 BK215 BK216 BK217 HB BK233 GW233 GE233 NB215_233 NB233_215 NB216_233 NB233_216 NB217_233 NB233_217
                 clear hb hbox hg
                 refine hK.out _ _ ⟨(blk_cell BK215.1 0).trans rfl, (blk_cell BK215.1 1).trans rfl, (blk_cell BK215.1 2).trans rfl⟩ (fun hHeld => ?_)
                 clear hK K
                 refine norm_ (a' := ?_) ?_ ?_
                 rotate_left
                 · show Act.put _ (some 7) _ = _
                   simp only [Act.put, List.setIfInBounds_toArray, List.set_cons_zero, List.set_cons_succ, i64_w, i32_w]
                   rfl
                 exact norm_ NA (hJ2_10 ((.slice Ao11 t218.length co11), gb233) _ ⟨hHeld, (PR HO220.1), (PB BK215.1), (PB BK216.1), (PB BK217.1), (PB BK233.1), GW233.1, GE233.1, NB215_233.1, NB233_215.1, NB216_233.1, NB233_216.1, NB217_233.1, NB233_217.1, (BL HB.1)⟩)
               skip
               rintro ⟨gb232, gb233⟩ w11 ⟨hS_, h0_, h1_, h2_, h3_, h4_, h5_, h6_, h7_, h8_, h9_, h10_, h11_, h12_, h13_, h14_, h15_, h16_, h17_, h18_, h19_, h20_, h21_, h22_, h23_⟩
               refine E24 (show w11.heap[gb215]? = some (.cells #[.int .i64 a0_0, .int .i64 a0_1, .slice A0_2 l0_2.length c0_2] 33 (0, 0)) from h0_) (show w11.heap[gb216]? = some (.cells #[.int .i64 0, .int .i64 0, .int .i64 0] 61 (0, 0)) from h1_) (show w11.heap[gb217]? = some (.cells #[.int .i64 0, .int .i64 0, .slice none 0 0] 33 (0, 0)) from h2_) (show w11.heap[gb232]? = some (.cells #[.int .i64 0, .int .i64 0, .int .i64 0] 61 (0, 0)) from h3_) (show w11.heap[gb233]? = some (.cells #[.int .i64 0, .int .i64 0, .slice none 0 0] 33 (0, 0)) from h4_) (show w.heap.size <= gb232 from h5_) (show w.heap.size <= gb232 from h6_) (show gb215 ≠ gb232 from h7_) (show gb232 ≠ gb215 from h8_) (show gb216 ≠ gb232 from h9_) (show gb232 ≠ gb216 from h10_) (show gb217 ≠ gb232 from h11_) (show gb232 ≠ gb217 from h12_) (show gb233 ≠ gb232 from h13_) (show gb232 ≠ gb233 from h14_) (show w.heap.size <= gb233 from h15_) (show w.heap.size <= gb233 from h16_) (show gb215 ≠ gb233 from h17_) (show gb233 ≠ gb215 from h18_) (show gb216 ≠ gb233 from h19_) (show gb233 ≠ gb216 from h20_) (show gb217 ≠ gb233 from h21_) (show gb233 ≠ gb217 from h22_) (show Below w.heap.size w w11 from h23_) ?_
               clear BK215 BK216 BK217 HB h0_ h1_ h2_ h3_ h4_ h5_ h6_ h7_ h8_ h9_ h10_ h11_ h12_ h13_ h14_ h15_ h16_ h17_ h18_ h19_ h20_ h21_ h22_ h23_
               intro BK215 BK216 BK217 BK232 BK233 GW232 GE232 NB215_232 NB232_215 NB216_232 NB232_216 NB217_232 NB232_217 NB233_232 NB232_233 GW233 GE233 NB215_233 NB233_215 NB216_233 NB233_216 NB217_233 NB233_217 HB
               have hHeld : w11.cell? ⟨gb215, 0, none⟩ = some (.int .i64 a0_0) /\ w11.cell? ⟨gb215, 1, none⟩ = some (.int .i64 a0_1) /\ w11.cell? ⟨gb215, 2, none⟩ = some (.slice A0_2 l0_2.length c0_2) := hS_
               refine norm_ (a' := ?_) ?_ ?_
               rotate_left
               · simp only [putAll, Act.put, List.setIfInBounds_toArray, List.set_cons_zero, List.set_cons_succ]
                 rfl
               refine one_ (i := 2) (N := some 12) #[Yy,Yy,Yy,Yy,Zz,Zz,Zz,Zz,Zz,Yy,Yy,Zz,Zz,Zz] rfl rfl (one_of HT_.1 (by kernel_rfl)) (by decide) (fun K hK => ?_)
               refine goes_ Try.func73 (by kernel_rfl) rfl #[.agg #[.int .i64 a0_0, .int .i64 a0_1, .slice A0_2 l0_2.length c0_2]] (by rfl) rfl rfl (by (try simp only [List.map_toArray, List.map_cons, List.map_nil]); first | done | rfl | (simp only [List.length_drop, List.length_take]; rfl)) ?_
               with_reducible refine (spec_ggGroups.calls k a0_0 a0_1 _ _ l0_2 t218 _ ?side1 ?side2 A3.1).mono ?_
               (case side1 => exact CB (C_below HR0_2.1 HB.1))
               (case side2 => exact HC0_2.1)
               rintro e w12 ⟨v219, rfl, ho0, hb⟩
               refine ⟨_, rfl, ?_⟩
               refine E7 (R_lower ho0 (bZ HB.1)) (bB BK215.1 hb) (bB BK216.1 hb) (bB BK217.1 hb) (bB BK232.1 hb) (bB BK233.1 hb) (bS HB.1 hb) ?_
               clear BK215 BK216 BK217 BK232 BK233 HB
               intro HO220 BK215 BK216 BK217 BK232 BK233 HB
               (try clear hb)
               (try clear hb2)
               (try clear hk)
               (try clear hi)
               (try clear ho0)
               refine hK.out _ _ ⟨(blk_cell BK215.1 0).trans rfl, (blk_cell BK215.1 1).trans rfl, (blk_cell BK215.1 2).trans rfl⟩ (fun hHeld => ?_)
               clear hK K
               refine norm_ (a' := ?_) ?_ ?_
               rotate_left
               · show Act.put _ (some 12) _ = _
                 simp only [Act.put, List.setIfInBounds_toArray, List.set_cons_zero, List.set_cons_succ, i64_w, i32_w]
                 rfl
               exact norm_ NA (hJ2_9_10 (v219, gb232, gb233) _ ⟨hHeld, (PR HO220.1), (PB BK215.1), (PB BK216.1), (PB BK217.1), (PB BK232.1), (PB BK233.1), GW232.1, GE232.1, NB215_232.1, NB232_215.1, NB216_232.1, NB232_216.1, NB217_232.1, NB232_217.1, NB233_232.1, NB232_233.1, GW233.1, GE233.1, NB215_233.1, NB233_215.1, NB216_233.1, NB233_216.1, NB217_233.1, NB233_217.1, (BL HB.1)⟩)
             skip
             rintro ⟨v219, gb233⟩ w11 ⟨hS_, h0_, h1_, h2_, h3_, h4_, h5_, h6_, h7_, h8_, h9_, h10_, h11_, h12_, h13_⟩
             refine E14 (show Kd.R (Kd.int .i64) 3 w11 w.heap.size (fun _ => True) v219 t218 from h0_) (show w11.heap[gb215]? = some (.cells #[.int .i64 a0_0, .int .i64 a0_1, .slice A0_2 l0_2.length c0_2] 33 (0, 0)) from h1_) (show w11.heap[gb216]? = some (.cells #[.int .i64 0, .int .i64 0, .int .i64 0] 61 (0, 0)) from h2_) (show w11.heap[gb217]? = some (.cells #[.int .i64 0, .int .i64 0, .slice none 0 0] 33 (0, 0)) from h3_) (show w11.heap[gb233]? = some (.cells #[.int .i64 0, .int .i64 0, .slice none 0 0] 33 (0, 0)) from h4_) (show w.heap.size <= gb233 from h5_) (show w.heap.size <= gb233 from h6_) (show gb215 ≠ gb233 from h7_) (show gb233 ≠ gb215 from h8_) (show gb216 ≠ gb233 from h9_) (show gb233 ≠ gb216 from h10_) (show gb217 ≠ gb233 from h11_) (show gb233 ≠ gb217 from h12_) (show Below w.heap.size w w11 from h13_) ?_
             clear BK215 BK216 BK217 HB h0_ h1_ h2_ h3_ h4_ h5_ h6_ h7_ h8_ h9_ h10_ h11_ h12_ h13_
             intro HO220 BK215 BK216 BK217 BK233 GW233 GE233 NB215_233 NB233_215 NB216_233 NB233_216 NB217_233 NB233_217 HB
             have hHeld : w11.cell? ⟨gb215, 0, none⟩ = some (.int .i64 a0_0) /\ w11.cell? ⟨gb215, 1, none⟩ = some (.int .i64 a0_1) /\ w11.cell? ⟨gb215, 2, none⟩ = some (.slice A0_2 l0_2.length c0_2) := hS_
             obtain ⟨Ao12, co12, eo12⟩ := R_slice HO220.1
             (first | subst eo12 | (injection eo12 with f1_ f2_ f3_; have f4_ := f1_.symm; have f5_ := f3_.symm; clear f1_ f2_ f3_; subst f4_; subst f5_))
             refine norm_ (a' := ?_) ?_ ?_
             rotate_left
             · simp only [putAll, Act.put, List.setIfInBounds_toArray, List.set_cons_zero, List.set_cons_succ]
               rfl
             refine two_ (i := 4) (j := 9) (Ni := some 14) (Nj := some 6) #[Yy,Yy,Yy,Yy,Yy,Zz,Zz,Zz,Zz,Zz,Yy,Zz,Zz,Zz] #[Yy,Yy,Yy,Yy,Zz,Zz,Zz,Zz,Zz,Yy,Yy,Zz,Zz,Zz] rfl rfl rfl rfl (two_of HT_.1 (by kernel_rfl)) (by decide) (by decide) (fun K hK => ?_) (fun K hK => ?_)
             · skip
               refine goes_ Try.func72 (by kernel_rfl) rfl #[.agg #[.int .i64 a0_0, .int .i64 a0_1, .slice A0_2 l0_2.length c0_2], .slice Ao12 t218.length co12, .int .i64 a1] (by rfl) rfl rfl (by (try simp only [List.map_toArray, List.map_cons, List.map_nil]); first | done | rfl | (simp only [List.length_drop, List.length_take]; rfl)) ?_
               with_reducible refine (spec_flGo.calls k a0_0 a0_1 _ _ l0_2 _ _ t218 a1 t221 t222 t223 t224 t225 t226 t229 _ ?side1 ?side2 ?side3 ?side4 A4.1).mono ?_
               (case side1 => exact CB (C_below HR0_2.1 HB.1))
               (case side2 => exact HC0_2.1)
               (case side3 => exact CB (R_reads' HO220.1).2.2)
               (case side4 => exact (R_reads' HO220.1).2.1)
               rintro e w13 ⟨v227, v230, rfl, ho0, ho1, hb⟩
               refine ⟨_, rfl, ?_⟩
               refine E8 (rB HO220.1 hb) (R_lower ho0 (bZ HB.1)) (S_lower (S_new' ho1 (R_lt (PR HO220.1))) (bZ HB.1)) (bB BK215.1 hb) (bB BK216.1 hb) (bB BK217.1 hb) (bB BK233.1 hb) (bS HB.1 hb) ?_
               clear HO220 BK215 BK216 BK217 BK233 HB
               intro HO220 HO228 HO231 BK215 BK216 BK217 BK233 HB
               (try clear hb)
               (try clear hb2)
               (try clear hk)
               (try clear hi)
               (try clear ho0)
               (try clear ho1)
               refine hK.out _ _ ⟨(blk_cell BK215.1 0).trans rfl, (blk_cell BK215.1 1).trans rfl, (blk_cell BK215.1 2).trans rfl⟩ (fun hHeld => ?_)
               clear hK K
               refine norm_ (a' := ?_) ?_ ?_
               rotate_left
               · show Act.put _ (some 14) _ = _
                 simp only [Act.put, List.setIfInBounds_toArray, List.set_cons_zero, List.set_cons_succ, i64_w, i32_w]
                 rfl
               refine pureF 5 (N := some 9) HT_.1 ?_
               refine pureF 6 (N := some 15) HT_.1 ?_
               refine pureF 7 (N := some 16) HT_.1 ?_
               refine pureF 8 (N := some 17) HT_.1 ?_
               exact norm_ NA (hJ2_4_10 (.slice Ao12 t218.length co12, v227, v230, gb233) _ ⟨hHeld, (PR HO220.1), (PR HO228.1), (SPE (S_mono HO231.1 (fun _ hk => hk.2))), (PB BK215.1), (PB BK216.1), (PB BK217.1), (PB BK233.1), GW233.1, GE233.1, NB215_233.1, NB233_215.1, NB216_233.1, NB233_216.1, NB217_233.1, NB233_217.1, (BL HB.1)⟩)
             skip
             refine box_step ?hg (N := 6) ?hd (cs := #[.int .i64 0, .int .i64 0, .int .i64 0]) (t := 61) ?hr ?_; (case hd => rfl); (case hg => rfl); (case hr => first | (go_simp; done) | (go_simp; rfl))
             intro gb232 hg w12 hbox hb
             refine E17 (rB HO220.1 hb) (bB BK215.1 hb) (bB BK216.1 hb) (bB BK217.1 hb) (bB BK233.1 hb) (bS HB.1 hb) (hbox) (gX HB.1 hg) (gX HB.1 hg) (nB BK215.1 hg) (nC BK215.1 hg) (nB BK216.1 hg) (nC BK216.1 hg) (nB BK217.1 hg) (nC BK217.1 hg) (nB BK233.1 hg) (nC BK233.1 hg) ?_
             clear HO220 BK215 BK216 BK217 BK233 HB
             intro HO220 BK215 BK216 BK217 BK233 HB BK232 GW232 GE232 NB215_232 NB232_215 NB216_232 NB232_216 NB217_232 NB232_217 NB233_232 NB232_233
             clear hb hbox hg
             refine hK.out _ _ ⟨(blk_cell BK215.1 0).trans rfl, (blk_cell BK215.1 1).trans rfl, (blk_cell BK215.1 2).trans rfl⟩ (fun hHeld => ?_)
             clear hK K
             refine norm_ (a' := ?_) ?_ ?_
             rotate_left
             · show Act.put _ (some 6) _ = _
               simp only [Act.put, List.setIfInBounds_toArray, List.set_cons_zero, List.set_cons_succ, i64_w, i32_w]
               rfl
             exact norm_ NA (hJ2_9_10 ((.slice Ao12 t218.length co12), gb232, gb233) _ ⟨hHeld, (PR HO220.1), (PB BK215.1), (PB BK216.1), (PB BK217.1), (PB BK232.1), (PB BK233.1), GW232.1, GE232.1, NB215_232.1, NB232_215.1, NB216_232.1, NB232_216.1, NB217_232.1, NB232_217.1, NB233_232.1, NB232_233.1, GW233.1, GE233.1, NB215_233.1, NB233_215.1, NB216_233.1, NB233_216.1, NB217_233.1, NB233_217.1, (BL HB.1)⟩)
           skip
           rintro ⟨v219, gb232⟩ w11 ⟨hS_, h0_, h1_, h2_, h3_, h4_, h5_, h6_, h7_, h8_, h9_, h10_, h11_, h12_, h13_⟩
           refine E14 (show Kd.R (Kd.int .i64) 3 w11 w.heap.size (fun _ => True) v219 t218 from h0_) (show w11.heap[gb215]? = some (.cells #[.int .i64 a0_0, .int .i64 a0_1, .slice A0_2 l0_2.length c0_2] 33 (0, 0)) from h1_) (show w11.heap[gb216]? = some (.cells #[.int .i64 0, .int .i64 0, .int .i64 0] 61 (0, 0)) from h2_) (show w11.heap[gb217]? = some (.cells #[.int .i64 0, .int .i64 0, .slice none 0 0] 33 (0, 0)) from h3_) (show w11.heap[gb232]? = some (.cells #[.int .i64 0, .int .i64 0, .int .i64 0] 61 (0, 0)) from h4_) (show w.heap.size <= gb232 from h5_) (show w.heap.size <= gb232 from h6_) (show gb215 ≠ gb232 from h7_) (show gb232 ≠ gb215 from h8_) (show gb216 ≠ gb232 from h9_) (show gb232 ≠ gb216 from h10_) (show gb217 ≠ gb232 from h11_) (show gb232 ≠ gb217 from h12_) (show Below w.heap.size w w11 from h13_) ?_
           clear BK215 BK216 BK217 HB h0_ h1_ h2_ h3_ h4_ h5_ h6_ h7_ h8_ h9_ h10_ h11_ h12_ h13_
           intro HO220 BK215 BK216 BK217 BK232 GW232 GE232 NB215_232 NB232_215 NB216_232 NB232_216 NB217_232 NB232_217 HB
           have hHeld : w11.cell? ⟨gb215, 0, none⟩ = some (.int .i64 a0_0) /\ w11.cell? ⟨gb215, 1, none⟩ = some (.int .i64 a0_1) /\ w11.cell? ⟨gb215, 2, none⟩ = some (.slice A0_2 l0_2.length c0_2) := hS_
           obtain ⟨Ao12, co12, eo12⟩ := R_slice HO220.1
           (first | subst eo12 | (injection eo12 with f1_ f2_ f3_; have f4_ := f1_.symm; have f5_ := f3_.symm; clear f1_ f2_ f3_; subst f4_; subst f5_))
           refine norm_ (a' := ?_) ?_ ?_
           rotate_left
           · simp only [putAll, Act.put, List.setIfInBounds_toArray, List.set_cons_zero, List.set_cons_succ]
             rfl
           refine two_ (i := 4) (j := 10) (Ni := some 14) (Nj := some 7) #[Yy,Yy,Yy,Yy,Yy,Zz,Zz,Zz,Zz,Yy,Zz,Zz,Zz,Zz] #[Yy,Yy,Yy,Yy,Zz,Zz,Zz,Zz,Zz,Yy,Yy,Zz,Zz,Zz] rfl rfl rfl rfl (two_of HT_.1 (by kernel_rfl)) (by decide) (by decide) (fun K hK => ?_) (fun K hK => ?_)
           · skip
             refine goes_ Try.func72 (by kernel_rfl) rfl #[.agg #[.int .i64 a0_0, .int .i64 a0_1, .slice A0_2 l0_2.length c0_2], .slice Ao12 t218.length co12, .int .i64 a1] (by rfl) rfl rfl (by (try simp only [List.map_toArray, List.map_cons, List.map_nil]); first | done | rfl | (simp only [List.length_drop, List.length_take]; rfl)) ?_
             with_reducible refine (spec_flGo.calls k a0_0 a0_1 _ _ l0_2 _ _ t218 a1 t221 t222 t223 t224 t225 t226 t229 _ ?side1 ?side2 ?side3 ?side4 A4.1).mono ?_
             (case side1 => exact CB (C_below HR0_2.1 HB.1))
             (case side2 => exact HC0_2.1)
             (case side3 => exact CB (R_reads' HO220.1).2.2)
             (case side4 => exact (R_reads' HO220.1).2.1)
             rintro e w13 ⟨v227, v230, rfl, ho0, ho1, hb⟩
             refine ⟨_, rfl, ?_⟩
             refine E8 (rB HO220.1 hb) (R_lower ho0 (bZ HB.1)) (S_lower (S_new' ho1 (R_lt (PR HO220.1))) (bZ HB.1)) (bB BK215.1 hb) (bB BK216.1 hb) (bB BK217.1 hb) (bB BK232.1 hb) (bS HB.1 hb) ?_
             clear HO220 BK215 BK216 BK217 BK232 HB
             intro HO220 HO228 HO231 BK215 BK216 BK217 BK232 HB
             (try clear hb)
             (try clear hb2)
             (try clear hk)
             (try clear hi)
             (try clear ho0)
             (try clear ho1)
             refine hK.out _ _ ⟨(blk_cell BK215.1 0).trans rfl, (blk_cell BK215.1 1).trans rfl, (blk_cell BK215.1 2).trans rfl⟩ (fun hHeld => ?_)
             clear hK K
             refine norm_ (a' := ?_) ?_ ?_
             rotate_left
             · show Act.put _ (some 14) _ = _
               simp only [Act.put, List.setIfInBounds_toArray, List.set_cons_zero, List.set_cons_succ, i64_w, i32_w]
               rfl
             refine pureF 5 (N := some 9) HT_.1 ?_
             refine pureF 6 (N := some 15) HT_.1 ?_
             refine pureF 7 (N := some 16) HT_.1 ?_
             refine pureF 8 (N := some 17) HT_.1 ?_
             exact norm_ NA (hJ2_4_9 (.slice Ao12 t218.length co12, v227, v230, gb232) _ ⟨hHeld, (PR HO220.1), (PR HO228.1), (SPE (S_mono HO231.1 (fun _ hk => hk.2))), (PB BK215.1), (PB BK216.1), (PB BK217.1), (PB BK232.1), GW232.1, GE232.1, NB215_232.1, NB232_215.1, NB216_232.1, NB232_216.1, NB217_232.1, NB232_217.1, (BL HB.1)⟩)
           skip
           refine box_step ?hg (N := 7) ?hd (cs := #[.int .i64 0, .int .i64 0, .slice none 0 0]) (t := 33) ?hr ?_; (case hd => rfl); (case hg => rfl); (case hr => first | (go_simp; done) | (go_simp; rfl))
           intro gb233 hg w12 hbox hb
           refine E17 (rB HO220.1 hb) (bB BK215.1 hb) (bB BK216.1 hb) (bB BK217.1 hb) (bB BK232.1 hb) (bS HB.1 hb) (hbox) (gX HB.1 hg) (gX HB.1 hg) (nB BK215.1 hg) (nC BK215.1 hg) (nB BK216.1 hg) (nC BK216.1 hg) (nB BK217.1 hg) (nC BK217.1 hg) (nB BK232.1 hg) (nC BK232.1 hg) ?_
           clear HO220 BK215 BK216 BK217 BK232 HB
           intro HO220 BK215 BK216 BK217 BK232 HB BK233 GW233 GE233 NB215_233 NB233_215 NB216_233 NB233_216 NB217_233 NB233_217 NB232_233 NB233_232
           clear hb hbox hg
           refine hK.out _ _ ⟨(blk_cell BK215.1 0).trans rfl, (blk_cell BK215.1 1).trans rfl, (blk_cell BK215.1 2).trans rfl⟩ (fun hHeld => ?_)
           clear hK K
           refine norm_ (a' := ?_) ?_ ?_
           rotate_left
           · show Act.put _ (some 7) _ = _
             simp only [Act.put, List.setIfInBounds_toArray, List.set_cons_zero, List.set_cons_succ, i64_w, i32_w]
             rfl
           exact norm_ NA (hJ2_9_10 ((.slice Ao12 t218.length co12), gb232, gb233) _ ⟨hHeld, (PR HO220.1), (PB BK215.1), (PB BK216.1), (PB BK217.1), (PB BK232.1), (PB BK233.1), GW232.1, GE232.1, NB215_232.1, NB232_215.1, NB216_232.1, NB232_216.1, NB217_232.1, NB232_217.1, NB233_232.1, NB232_233.1, GW233.1, GE233.1, NB215_233.1, NB233_215.1, NB216_233.1, NB233_216.1, NB217_233.1, NB233_217.1, (BL HB.1)⟩)
         skip
         rintro ⟨v219, v227, v230⟩ w12 ⟨hS_, h0_, h1_, h2_, h3_, h4_, h5_, h6_⟩
         refine E7 (show Kd.R (Kd.int .i64) 3 w12 w.heap.size (fun _ => True) v219 t218 from h0_) (show Kd.R k98 98 w12 w.heap.size (fun _ => True) v227 t226 from h1_) (show Kd.S (Kd.slice 3 (Kd.int .i64)) 28 w12 w.heap.size (fun k_ => some k_ ≠ (v219 : Value).ownBlock) v230 t229 from h2_) (show w12.heap[gb215]? = some (.cells #[.int .i64 a0_0, .int .i64 a0_1, .slice A0_2 l0_2.length c0_2] 33 (0, 0)) from h3_) (show w12.heap[gb216]? = some (.cells #[.int .i64 0, .int .i64 0, .int .i64 0] 61 (0, 0)) from h4_) (show w12.heap[gb217]? = some (.cells #[.int .i64 0, .int .i64 0, .slice none 0 0] 33 (0, 0)) from h5_) (show Below w.heap.size w w12 from h6_) ?_
         clear BK215 BK216 BK217 HB h0_ h1_ h2_ h3_ h4_ h5_ h6_
         intro HO220 HO228 HO231 BK215 BK216 BK217 HB
         have hHeld : w12.cell? ⟨gb215, 0, none⟩ = some (.int .i64 a0_0) /\ w12.cell? ⟨gb215, 1, none⟩ = some (.int .i64 a0_1) /\ w12.cell? ⟨gb215, 2, none⟩ = some (.slice A0_2 l0_2.length c0_2) := hS_
         refine norm_ (a' := ?_) ?_ ?_
         rotate_left
         · simp only [putAll, Act.put, List.setIfInBounds_toArray, List.set_cons_zero, List.set_cons_succ]
           rfl
         refine two_ (i := 9) (j := 10) (Ni := some 6) (Nj := some 7) #[Yy,Yy,Yy,Yy,Yy,Yy,Yy,Yy,Yy,Yy,Zz,Zz,Zz,Zz] #[Yy,Yy,Yy,Yy,Yy,Yy,Yy,Yy,Yy,Zz,Yy,Zz,Zz,Zz] rfl rfl rfl rfl (two_of HT_.1 (by kernel_rfl)) (by decide) (by decide) (fun K hK => ?_) (fun K hK => ?_)
         · skip
           refine box_step ?hg (N := 6) ?hd (cs := #[.int .i64 0, .int .i64 0, .int .i64 0]) (t := 61) ?hr ?_; (case hd => rfl); (case hg => rfl); (case hr => first | (go_simp; done) | (go_simp; rfl))
           intro gb232 hg w13 hbox hb
           refine E16 (rB HO220.1 hb) (rB HO228.1 hb) (sB HO231.1 hb) (bB BK215.1 hb) (bB BK216.1 hb) (bB BK217.1 hb) (bS HB.1 hb) (hbox) (gX HB.1 hg) (gX HB.1 hg) (nB BK215.1 hg) (nC BK215.1 hg) (nB BK216.1 hg) (nC BK216.1 hg) (nB BK217.1 hg) (nC BK217.1 hg) ?_
           clear HO220 HO228 HO231 BK215 BK216 BK217 HB
           intro HO220 HO228 HO231 BK215 BK216 BK217 HB BK232 GW232 GE232 NB215_232 NB232_215 NB216_232 NB232_216 NB217_232 NB232_217
           clear hb hbox hg
           refine hK.out _ _ ⟨(blk_cell BK215.1 0).trans rfl, (blk_cell BK215.1 1).trans rfl, (blk_cell BK215.1 2).trans rfl⟩ (fun hHeld => ?_)
           clear hK K
           refine norm_ (a' := ?_) ?_ ?_
           rotate_left
           · show Act.put _ (some 6) _ = _
             simp only [Act.put, List.setIfInBounds_toArray, List.set_cons_zero, List.set_cons_succ, i64_w, i32_w]
             rfl
           exact norm_ NA (hJ2_4_9 (v219, v227, v230, gb232) _ ⟨hHeld, (PR HO220.1), (PR HO228.1), (PS HO231.1), (PB BK215.1), (PB BK216.1), (PB BK217.1), (PB BK232.1), GW232.1, GE232.1, NB215_232.1, NB232_215.1, NB216_232.1, NB232_216.1, NB217_232.1, NB232_217.1, (BL HB.1)⟩)
         skip
         refine box_step ?hg (N := 7) ?hd (cs := #[.int .i64 0, .int .i64 0, .slice none 0 0]) (t := 33) ?hr ?_; (case hd => rfl); (case hg => rfl); (case hr => first | (go_simp; done) | (go_simp; rfl))
         intro gb233 hg w13 hbox hb
         refine E16 (rB HO220.1 hb) (rB HO228.1 hb) (sB HO231.1 hb) (bB BK215.1 hb) (bB BK216.1 hb) (bB BK217.1 hb) (bS HB.1 hb) (hbox) (gX HB.1 hg) (gX HB.1 hg) (nB BK215.1 hg) (nC BK215.1 hg) (nB BK216.1 hg) (nC BK216.1 hg) (nB BK217.1 hg) (nC BK217.1 hg) ?_
         clear HO220 HO228 HO231 BK215 BK216 BK217 HB
         intro HO220 HO228 HO231 BK215 BK216 BK217 HB BK233 GW233 GE233 NB215_233 NB233_215 NB216_233 NB233_216 NB217_233 NB233_217
         clear hb hbox hg
         refine hK.out _ _ ⟨(blk_cell BK215.1 0).trans rfl, (blk_cell BK215.1 1).trans rfl, (blk_cell BK215.1 2).trans rfl⟩ (fun hHeld => ?_)
         clear hK K
         refine norm_ (a' := ?_) ?_ ?_
         rotate_left
         · show Act.put _ (some 7) _ = _
           simp only [Act.put, List.setIfInBounds_toArray, List.set_cons_zero, List.set_cons_succ, i64_w, i32_w]
           rfl
         exact norm_ NA (hJ2_4_10 (v219, v227, v230, gb233) _ ⟨hHeld, (PR HO220.1), (PR HO228.1), (PS HO231.1), (PB BK215.1), (PB BK216.1), (PB BK217.1), (PB BK233.1), GW233.1, GE233.1, NB215_233.1, NB233_215.1, NB216_233.1, NB233_216.1, NB217_233.1, NB233_217.1, (BL HB.1)⟩)
       skip
       rintro ⟨v219, gb232, gb233⟩ w12 ⟨hS_, h0_, h1_, h2_, h3_, h4_, h5_, h6_, h7_, h8_, h9_, h10_, h11_, h12_, h13_, h14_, h15_, h16_, h17_, h18_, h19_, h20_, h21_, h22_, h23_, h24_⟩
       have n0_ : Aside0 (Kd.R (Kd.int .i64) 3 w12 w.heap.size (fun _ => True) v219 t218) := ⟨h0_⟩
       have n1_ : Aside0 (w12.heap[gb215]? = some (.cells #[.int .i64 a0_0, .int .i64 a0_1, .slice A0_2 l0_2.length c0_2] 33 (0, 0))) := ⟨h1_⟩
       have n2_ : Aside0 (w12.heap[gb216]? = some (.cells #[.int .i64 0, .int .i64 0, .int .i64 0] 61 (0, 0))) := ⟨h2_⟩
       have n3_ : Aside0 (w12.heap[gb217]? = some (.cells #[.int .i64 0, .int .i64 0, .slice none 0 0] 33 (0, 0))) := ⟨h3_⟩
       have n4_ : Aside0 (w12.heap[gb232]? = some (.cells #[.int .i64 0, .int .i64 0, .int .i64 0] 61 (0, 0))) := ⟨h4_⟩
       have n5_ : Aside0 (w12.heap[gb233]? = some (.cells #[.int .i64 0, .int .i64 0, .slice none 0 0] 33 (0, 0))) := ⟨h5_⟩
       have n6_ : Aside0 (w.heap.size <= gb232) := ⟨h6_⟩
       have n7_ : Aside0 (w.heap.size <= gb232) := ⟨h7_⟩
       have n8_ : Aside0 (gb215 ≠ gb232) := ⟨h8_⟩
       have n9_ : Aside0 (gb232 ≠ gb215) := ⟨h9_⟩
       have n10_ : Aside0 (gb216 ≠ gb232) := ⟨h10_⟩
       have n11_ : Aside0 (gb232 ≠ gb216) := ⟨h11_⟩
       have n12_ : Aside0 (gb217 ≠ gb232) := ⟨h12_⟩
       have n13_ : Aside0 (gb232 ≠ gb217) := ⟨h13_⟩
       have n14_ : Aside0 (gb233 ≠ gb232) := ⟨h14_⟩
       have n15_ : Aside0 (gb232 ≠ gb233) := ⟨h15_⟩
       have n16_ : Aside0 (w.heap.size <= gb233) := ⟨h16_⟩
       have n17_ : Aside0 (w.heap.size <= gb233) := ⟨h17_⟩
       have n18_ : Aside0 (gb215 ≠ gb233) := ⟨h18_⟩
       have n19_ : Aside0 (gb233 ≠ gb215) := ⟨h19_⟩
       have n20_ : Aside0 (gb216 ≠ gb233) := ⟨h20_⟩
       have n21_ : Aside0 (gb233 ≠ gb216) := ⟨h21_⟩
       have n22_ : Aside0 (gb217 ≠ gb233) := ⟨h22_⟩
       have n23_ : Aside0 (gb233 ≠ gb217) := ⟨h23_⟩
       have n24_ : Aside0 (Below w.heap.size w w12) := ⟨h24_⟩
       clear BK215
       clear BK216
       clear BK217
       clear HB
       clear h0_ h1_ h2_ h3_ h4_ h5_ h6_ h7_ h8_ h9_ h10_ h11_ h12_ h13_ h14_ h15_ h16_ h17_ h18_ h19_ h20_ h21_ h22_ h23_ h24_
       have HO220 := n0_
       have BK215 := n1_
       have BK216 := n2_
       have BK217 := n3_
       have BK232 := n4_
       have BK233 := n5_
       have GW232 := n6_
       have GE232 := n7_
       have NB215_232 := n8_
       have NB232_215 := n9_
       have NB216_232 := n10_
       have NB232_216 := n11_
       have NB217_232 := n12_
       have NB232_217 := n13_
       have NB233_232 := n14_
       have NB232_233 := n15_
       have GW233 := n16_
       have GE233 := n17_
       have NB215_233 := n18_
       have NB233_215 := n19_
       have NB216_233 := n20_
       have NB233_216 := n21_
       have NB217_233 := n22_
       have NB233_217 := n23_
       have HB := n24_
       clear n0_ n1_ n2_ n3_ n4_ n5_ n6_ n7_ n8_ n9_ n10_ n11_ n12_ n13_ n14_ n15_ n16_ n17_ n18_ n19_ n20_ n21_ n22_ n23_ n24_
       have hHeld : w12.cell? ⟨gb215, 0, none⟩ = some (.int .i64 a0_0) /\ w12.cell? ⟨gb215, 1, none⟩ = some (.int .i64 a0_1) /\ w12.cell? ⟨gb215, 2, none⟩ = some (.slice A0_2 l0_2.length c0_2) := hS_
       obtain ⟨Ao13, co13, eo13⟩ := R_slice HO220.1
       (first | subst eo13 | (injection eo13 with f1_ f2_ f3_; have f4_ := f1_.symm; have f5_ := f3_.symm; clear f1_ f2_ f3_; subst f4_; subst f5_))
       refine norm_ (a' := ?_) ?_ ?_
       rotate_left
       · simp only [putAll, Act.put, List.setIfInBounds_toArray, List.set_cons_zero, List.set_cons_succ]
         rfl
       refine one_ (i := 4) (N := some 14) #[Yy,Yy,Yy,Yy,Yy,Zz,Zz,Zz,Zz,Yy,Yy,Zz,Zz,Zz] rfl rfl (one_of HT_.1 (by kernel_rfl)) (by decide) (fun K hK => ?_)
       refine goes_ Try.func72 (by kernel_rfl) rfl #[.agg #[.int .i64 a0_0, .int .i64 a0_1, .slice A0_2 l0_2.length c0_2], .slice Ao13 t218.length co13, .int .i64 a1] (by rfl) rfl rfl (by (try simp only [List.map_toArray, List.map_cons, List.map_nil]); first | done | rfl | (simp only [List.length_drop, List.length_take]; rfl)) ?_
       with_reducible refine (spec_flGo.calls k a0_0 a0_1 _ _ l0_2 _ _ t218 a1 t221 t222 t223 t224 t225 t226 t229 _ ?side1 ?side2 ?side3 ?side4 A4.1).mono ?_
       (case side1 => exact CB (C_below HR0_2.1 HB.1))
       (case side2 => exact HC0_2.1)
       (case side3 => exact CB (R_reads' HO220.1).2.2)
       (case side4 => exact (R_reads' HO220.1).2.1)
       rintro e w14 ⟨v227, v230, rfl, ho0, ho1, hb⟩
       refine ⟨_, rfl, ?_⟩
       refine E9 (rB HO220.1 hb) (R_lower ho0 (bZ HB.1)) (S_lower (S_new' ho1 (R_lt (PR HO220.1))) (bZ HB.1)) (bB BK215.1 hb) (bB BK216.1 hb) (bB BK217.1 hb) (bB BK232.1 hb) (bB BK233.1 hb) (bS HB.1 hb) ?_
       clear HO220 BK215 BK216 BK217 BK232 BK233 HB
       intro HO220 HO228 HO231 BK215 BK216 BK217 BK232 BK233 HB
       (try clear hb)
       (try clear hb2)
       (try clear hk)
       (try clear hi)
       (try clear ho0)
       (try clear ho1)
       refine hK.out _ _ ⟨(blk_cell BK215.1 0).trans rfl, (blk_cell BK215.1 1).trans rfl, (blk_cell BK215.1 2).trans rfl⟩ (fun hHeld => ?_)
       clear hK K
       refine norm_ (a' := ?_) ?_ ?_
       rotate_left
       · show Act.put _ (some 14) _ = _
         simp only [Act.put, List.setIfInBounds_toArray, List.set_cons_zero, List.set_cons_succ, i64_w, i32_w]
         rfl
       refine pureF 5 (N := some 9) HT_.1 ?_
       refine pureF 6 (N := some 15) HT_.1 ?_
       refine pureF 7 (N := some 16) HT_.1 ?_
       refine pureF 8 (N := some 17) HT_.1 ?_
       exact norm_ NA (hJ2_4_9_10 (.slice Ao13 t218.length co13, v227, v230, gb232, gb233) _ ⟨hHeld, (PR HO220.1), (PR HO228.1), (SPE (S_mono HO231.1 (fun _ hk => hk.2))), (PB BK215.1), (PB BK216.1), (PB BK217.1), (PB BK232.1), (PB BK233.1), GW232.1, GE232.1, NB215_232.1, NB232_215.1, NB216_232.1, NB232_216.1, NB217_232.1, NB232_217.1, NB233_232.1, NB232_233.1, GW233.1, GE233.1, NB215_233.1, NB233_215.1, NB216_233.1, NB233_216.1, NB217_233.1, NB233_217.1, (BL HB.1)⟩)
     skip
     rintro ⟨v219, v227, v230, gb233⟩ w13 ⟨hS_, h0_, h1_, h2_, h3_, h4_, h5_, h6_, h7_, h8_, h9_, h10_, h11_, h12_, h13_, h14_, h15_⟩
     refine E16 (show Kd.R (Kd.int .i64) 3 w13 w.heap.size (fun _ => True) v219 t218 from h0_) (show Kd.R k98 98 w13 w.heap.size (fun _ => True) v227 t226 from h1_) (show Kd.S (Kd.slice 3 (Kd.int .i64)) 28 w13 w.heap.size (fun k_ => some k_ ≠ (v219 : Value).ownBlock) v230 t229 from h2_) (show w13.heap[gb215]? = some (.cells #[.int .i64 a0_0, .int .i64 a0_1, .slice A0_2 l0_2.length c0_2] 33 (0, 0)) from h3_) (show w13.heap[gb216]? = some (.cells #[.int .i64 0, .int .i64 0, .int .i64 0] 61 (0, 0)) from h4_) (show w13.heap[gb217]? = some (.cells #[.int .i64 0, .int .i64 0, .slice none 0 0] 33 (0, 0)) from h5_) (show w13.heap[gb233]? = some (.cells #[.int .i64 0, .int .i64 0, .slice none 0 0] 33 (0, 0)) from h6_) (show w.heap.size <= gb233 from h7_) (show w.heap.size <= gb233 from h8_) (show gb215 ≠ gb233 from h9_) (show gb233 ≠ gb215 from h10_) (show gb216 ≠ gb233 from h11_) (show gb233 ≠ gb216 from h12_) (show gb217 ≠ gb233 from h13_) (show gb233 ≠ gb217 from h14_) (show Below w.heap.size w w13 from h15_) ?_
     clear BK215 BK216 BK217 HB h0_ h1_ h2_ h3_ h4_ h5_ h6_ h7_ h8_ h9_ h10_ h11_ h12_ h13_ h14_ h15_
     intro HO220 HO228 HO231 BK215 BK216 BK217 BK233 GW233 GE233 NB215_233 NB233_215 NB216_233 NB233_216 NB217_233 NB233_217 HB
     have hHeld : w13.cell? ⟨gb215, 0, none⟩ = some (.int .i64 a0_0) /\ w13.cell? ⟨gb215, 1, none⟩ = some (.int .i64 a0_1) /\ w13.cell? ⟨gb215, 2, none⟩ = some (.slice A0_2 l0_2.length c0_2) := hS_
     refine norm_ (a' := ?_) ?_ ?_
     rotate_left
     · simp only [putAll, Act.put, List.setIfInBounds_toArray, List.set_cons_zero, List.set_cons_succ]
       rfl
     refine one_ (i := 9) (N := some 6) #[Yy,Yy,Yy,Yy,Yy,Yy,Yy,Yy,Yy,Yy,Yy,Zz,Zz,Zz] rfl rfl (one_of HT_.1 (by kernel_rfl)) (by decide) (fun K hK => ?_)
     refine box_step ?hg (N := 6) ?hd (cs := #[.int .i64 0, .int .i64 0, .int .i64 0]) (t := 61) ?hr ?_; (case hd => rfl); (case hg => rfl); (case hr => first | (go_simp; done) | (go_simp; rfl))
     intro gb232 hg w14 hbox hb
     refine E19 (rB HO220.1 hb) (rB HO228.1 hb) (sB HO231.1 hb) (bB BK215.1 hb) (bB BK216.1 hb) (bB BK217.1 hb) (bB BK233.1 hb) (bS HB.1 hb) (hbox) (gX HB.1 hg) (gX HB.1 hg) (nB BK215.1 hg) (nC BK215.1 hg) (nB BK216.1 hg) (nC BK216.1 hg) (nB BK217.1 hg) (nC BK217.1 hg) (nB BK233.1 hg) (nC BK233.1 hg) ?_
     clear HO220 HO228 HO231 BK215 BK216 BK217 BK233 HB
     intro HO220 HO228 HO231 BK215 BK216 BK217 BK233 HB BK232 GW232 GE232 NB215_232 NB232_215 NB216_232 NB232_216 NB217_232 NB232_217 NB233_232 NB232_233
     clear hb hbox hg
     refine hK.out _ _ ⟨(blk_cell BK215.1 0).trans rfl, (blk_cell BK215.1 1).trans rfl, (blk_cell BK215.1 2).trans rfl⟩ (fun hHeld => ?_)
     clear hK K
     refine norm_ (a' := ?_) ?_ ?_
     rotate_left
     · show Act.put _ (some 6) _ = _
       simp only [Act.put, List.setIfInBounds_toArray, List.set_cons_zero, List.set_cons_succ, i64_w, i32_w]
       rfl
     exact norm_ NA (hJ2_4_9_10 (v219, v227, v230, gb232, gb233) _ ⟨hHeld, (PR HO220.1), (PR HO228.1), (PS HO231.1), (PB BK215.1), (PB BK216.1), (PB BK217.1), (PB BK232.1), (PB BK233.1), GW232.1, GE232.1, NB215_232.1, NB232_215.1, NB216_232.1, NB232_216.1, NB217_232.1, NB232_217.1, NB233_232.1, NB232_233.1, GW233.1, GE233.1, NB215_233.1, NB233_215.1, NB216_233.1, NB233_216.1, NB217_233.1, NB233_217.1, (BL HB.1)⟩)
   skip
   rintro ⟨v219, v227, v230, gb232⟩ w13 ⟨hS_, h0_, h1_, h2_, h3_, h4_, h5_, h6_, h7_, h8_, h9_, h10_, h11_, h12_, h13_, h14_, h15_⟩
   refine E16 (show Kd.R (Kd.int .i64) 3 w13 w.heap.size (fun _ => True) v219 t218 from h0_) (show Kd.R k98 98 w13 w.heap.size (fun _ => True) v227 t226 from h1_) (show Kd.S (Kd.slice 3 (Kd.int .i64)) 28 w13 w.heap.size (fun k_ => some k_ ≠ (v219 : Value).ownBlock) v230 t229 from h2_) (show w13.heap[gb215]? = some (.cells #[.int .i64 a0_0, .int .i64 a0_1, .slice A0_2 l0_2.length c0_2] 33 (0, 0)) from h3_) (show w13.heap[gb216]? = some (.cells #[.int .i64 0, .int .i64 0, .int .i64 0] 61 (0, 0)) from h4_) (show w13.heap[gb217]? = some (.cells #[.int .i64 0, .int .i64 0, .slice none 0 0] 33 (0, 0)) from h5_) (show w13.heap[gb232]? = some (.cells #[.int .i64 0, .int .i64 0, .int .i64 0] 61 (0, 0)) from h6_) (show w.heap.size <= gb232 from h7_) (show w.heap.size <= gb232 from h8_) (show gb215 ≠ gb232 from h9_) (show gb232 ≠ gb215 from h10_) (show gb216 ≠ gb232 from h11_) (show gb232 ≠ gb216 from h12_) (show gb217 ≠ gb232 from h13_) (show gb232 ≠ gb217 from h14_) (show Below w.heap.size w w13 from h15_) ?_
   clear BK215 BK216 BK217 HB h0_ h1_ h2_ h3_ h4_ h5_ h6_ h7_ h8_ h9_ h10_ h11_ h12_ h13_ h14_ h15_
   intro HO220 HO228 HO231 BK215 BK216 BK217 BK232 GW232 GE232 NB215_232 NB232_215 NB216_232 NB232_216 NB217_232 NB232_217 HB
   have hHeld : w13.cell? ⟨gb215, 0, none⟩ = some (.int .i64 a0_0) /\ w13.cell? ⟨gb215, 1, none⟩ = some (.int .i64 a0_1) /\ w13.cell? ⟨gb215, 2, none⟩ = some (.slice A0_2 l0_2.length c0_2) := hS_
   refine norm_ (a' := ?_) ?_ ?_
   rotate_left
   · simp only [putAll, Act.put, List.setIfInBounds_toArray, List.set_cons_zero, List.set_cons_succ]
     rfl
   refine one_ (i := 10) (N := some 7) #[Yy,Yy,Yy,Yy,Yy,Yy,Yy,Yy,Yy,Yy,Yy,Zz,Zz,Zz] rfl rfl (one_of HT_.1 (by kernel_rfl)) (by decide) (fun K hK => ?_)
   refine box_step ?hg (N := 7) ?hd (cs := #[.int .i64 0, .int .i64 0, .slice none 0 0]) (t := 33) ?hr ?_; (case hd => rfl); (case hg => rfl); (case hr => first | (go_simp; done) | (go_simp; rfl))
   intro gb233 hg w14 hbox hb
   refine E19 (rB HO220.1 hb) (rB HO228.1 hb) (sB HO231.1 hb) (bB BK215.1 hb) (bB BK216.1 hb) (bB BK217.1 hb) (bB BK232.1 hb) (bS HB.1 hb) (hbox) (gX HB.1 hg) (gX HB.1 hg) (nB BK215.1 hg) (nC BK215.1 hg) (nB BK216.1 hg) (nC BK216.1 hg) (nB BK217.1 hg) (nC BK217.1 hg) (nB BK232.1 hg) (nC BK232.1 hg) ?_
   clear HO220 HO228 HO231 BK215 BK216 BK217 BK232 HB
   intro HO220 HO228 HO231 BK215 BK216 BK217 BK232 HB BK233 GW233 GE233 NB215_233 NB233_215 NB216_233 NB233_216 NB217_233 NB233_217 NB232_233 NB233_232
   clear hb hbox hg
   refine hK.out _ _ ⟨(blk_cell BK215.1 0).trans rfl, (blk_cell BK215.1 1).trans rfl, (blk_cell BK215.1 2).trans rfl⟩ (fun hHeld => ?_)
   clear hK K
   refine norm_ (a' := ?_) ?_ ?_
   rotate_left
   · show Act.put _ (some 7) _ = _
     simp only [Act.put, List.setIfInBounds_toArray, List.set_cons_zero, List.set_cons_succ, i64_w, i32_w]
     rfl
   exact norm_ NA (hJ2_4_9_10 (v219, v227, v230, gb232, gb233) _ ⟨hHeld, (PR HO220.1), (PR HO228.1), (PS HO231.1), (PB BK215.1), (PB BK216.1), (PB BK217.1), (PB BK232.1), (PB BK233.1), GW232.1, GE232.1, NB215_232.1, NB232_215.1, NB216_232.1, NB232_216.1, NB217_232.1, NB232_217.1, NB233_232.1, NB232_233.1, GW233.1, GE233.1, NB215_233.1, NB233_215.1, NB216_233.1, NB233_216.1, NB217_233.1, NB233_217.1, (BL HB.1)⟩)
 rintro ⟨v219, v227, v230, gb232, gb233⟩ w14 ⟨hS_, h0_, h1_, h2_, h3_, h4_, h5_, h6_, h7_, h8_, h9_, h10_, h11_, h12_, h13_, h14_, h15_, h16_, h17_, h18_, h19_, h20_, h21_, h22_, h23_, h24_, h25_, h26_⟩
 have n0_ : Aside0 (Kd.R (Kd.int .i64) 3 w14 w.heap.size (fun _ => True) v219 t218) := ⟨h0_⟩
 have n1_ : Aside0 (Kd.R k98 98 w14 w.heap.size (fun _ => True) v227 t226) := ⟨h1_⟩
 have n2_ : Aside0 (Kd.S (Kd.slice 3 (Kd.int .i64)) 28 w14 w.heap.size (fun k_ => some k_ ≠ (v219 : Value).ownBlock) v230 t229) := ⟨h2_⟩
 have n3_ : Aside0 (w14.heap[gb215]? = some (.cells #[.int .i64 a0_0, .int .i64 a0_1, .slice A0_2 l0_2.length c0_2] 33 (0, 0))) := ⟨h3_⟩
 have n4_ : Aside0 (w14.heap[gb216]? = some (.cells #[.int .i64 0, .int .i64 0, .int .i64 0] 61 (0, 0))) := ⟨h4_⟩
 have n5_ : Aside0 (w14.heap[gb217]? = some (.cells #[.int .i64 0, .int .i64 0, .slice none 0 0] 33 (0, 0))) := ⟨h5_⟩
 have n6_ : Aside0 (w14.heap[gb232]? = some (.cells #[.int .i64 0, .int .i64 0, .int .i64 0] 61 (0, 0))) := ⟨h6_⟩
 have n7_ : Aside0 (w14.heap[gb233]? = some (.cells #[.int .i64 0, .int .i64 0, .slice none 0 0] 33 (0, 0))) := ⟨h7_⟩
 have n8_ : Aside0 (w.heap.size <= gb232) := ⟨h8_⟩
 have n9_ : Aside0 (w.heap.size <= gb232) := ⟨h9_⟩
 have n10_ : Aside0 (gb215 ≠ gb232) := ⟨h10_⟩
 have n11_ : Aside0 (gb232 ≠ gb215) := ⟨h11_⟩
 have n12_ : Aside0 (gb216 ≠ gb232) := ⟨h12_⟩
 have n13_ : Aside0 (gb232 ≠ gb216) := ⟨h13_⟩
 have n14_ : Aside0 (gb217 ≠ gb232) := ⟨h14_⟩
 have n15_ : Aside0 (gb232 ≠ gb217) := ⟨h15_⟩
 have n16_ : Aside0 (gb233 ≠ gb232) := ⟨h16_⟩
 have n17_ : Aside0 (gb232 ≠ gb233) := ⟨h17_⟩
 have n18_ : Aside0 (w.heap.size <= gb233) := ⟨h18_⟩
 have n19_ : Aside0 (w.heap.size <= gb233) := ⟨h19_⟩
 have n20_ : Aside0 (gb215 ≠ gb233) := ⟨h20_⟩
 have n21_ : Aside0 (gb233 ≠ gb215) := ⟨h21_⟩
 have n22_ : Aside0 (gb216 ≠ gb233) := ⟨h22_⟩
 have n23_ : Aside0 (gb233 ≠ gb216) := ⟨h23_⟩
 have n24_ : Aside0 (gb217 ≠ gb233) := ⟨h24_⟩
 have n25_ : Aside0 (gb233 ≠ gb217) := ⟨h25_⟩
 have n26_ : Aside0 (Below w.heap.size w w14) := ⟨h26_⟩
 clear BK215
 clear BK216
 clear BK217
 clear HB
 clear h0_ h1_ h2_ h3_ h4_ h5_ h6_ h7_ h8_ h9_ h10_ h11_ h12_ h13_ h14_ h15_ h16_ h17_ h18_ h19_ h20_ h21_ h22_ h23_ h24_ h25_ h26_
 have HO220 := n0_
 have HO228 := n1_
 have HO231 := n2_
 have BK215 := n3_
 have BK216 := n4_
 have BK217 := n5_
 have BK232 := n6_
 have BK233 := n7_
 have GW232 := n8_
 have GE232 := n9_
 have NB215_232 := n10_
 have NB232_215 := n11_
 have NB216_232 := n12_
 have NB232_216 := n13_
 have NB217_232 := n14_
 have NB232_217 := n15_
 have NB233_232 := n16_
 have NB232_233 := n17_
 have GW233 := n18_
 have GE233 := n19_
 have NB215_233 := n20_
 have NB233_215 := n21_
 have NB216_233 := n22_
 have NB233_216 := n23_
 have NB217_233 := n24_
 have NB233_217 := n25_
 have HB := n26_
 clear n0_ n1_ n2_ n3_ n4_ n5_ n6_ n7_ n8_ n9_ n10_ n11_ n12_ n13_ n14_ n15_ n16_ n17_ n18_ n19_ n20_ n21_ n22_ n23_ n24_ n25_ n26_
 have hHeld : w14.cell? ⟨gb215, 0, none⟩ = some (.int .i64 a0_0) /\ w14.cell? ⟨gb215, 1, none⟩ = some (.int .i64 a0_1) /\ w14.cell? ⟨gb215, 2, none⟩ = some (.slice A0_2 l0_2.length c0_2) := hS_
 obtain ⟨Ao20, co20, eo20⟩ := R_slice HO228.1
 (first | subst eo20 | (injection eo20 with f1_ f2_ f3_; have f4_ := f1_.symm; have f5_ := f3_.symm; clear f1_ f2_ f3_; subst f4_; subst f5_))
 refine norm_ (a' := ?_) ?_ ?_
 rotate_left
 · simp only [putAll, Act.put, List.setIfInBounds_toArray, List.set_cons_zero, List.set_cons_succ]
   rfl
 refine one_ (i := 11) (N := none) #[Yy,Yy,Yy,Yy,Yy,Yy,Yy,Yy,Yy,Yy,Yy,Yy,Zz,Zz] rfl rfl (one_of HT_.1 (by kernel_rfl)) (by decide) (fun K hK => ?_)
 obtain ⟨hs15, hs16, hs17, hfs15, hfs16, hfs17⟩ := cz3 BK232.1
 have hns15_0 := NB215_232.1
 have hns15_1 := NB216_232.1
 have hns15_2 := NB217_232.1
 have hns15_4 := NB233_232.1
 have hms15_0 := NB232_215.1
 have hms15_1 := NB232_216.1
 have hms15_2 := NB232_217.1
 have hms15_4 := NB232_233.1
 refine skip_ (w1 := ?_) (by rfl) rfl ?_ ?_
 rotate_left
 · go_simp
   rfl
 refine hK.out _ _ ⟨(CF3 NB215_232.1 hHeld.1), (CF3 NB215_232.1 hHeld.2.1), (CF3 NB215_232.1 hHeld.2.2)⟩ (fun hHeld => ?_)
 clear hK K
 refine one_ (i := 12) (N := none) #[Yy,Yy,Yy,Yy,Yy,Yy,Yy,Yy,Yy,Yy,Yy,Yy,Yy,Zz] rfl rfl (one_of HT_.1 (by kernel_rfl)) (by decide) (fun K hK => ?_)
 obtain ⟨hs18, hs19, hs21, hfs18, hfs19, hfs21⟩ := cz3 BK233.1
 have hns18_0 := NB215_233.1
 have hns18_1 := NB216_233.1
 have hns18_2 := NB217_233.1
 have hms18_0 := NB233_215.1
 have hms18_1 := NB233_216.1
 have hms18_2 := NB233_217.1
 refine skip_ (w1 := ?_) (by rfl) rfl ?_ ?_
 rotate_left
 · go_simp
   rfl
 refine hK.out _ _ ⟨(CF3 NB215_233.1 hHeld.1), (CF3 NB215_233.1 hHeld.2.1), (CF3 NB215_233.1 hHeld.2.2)⟩ (fun hHeld => ?_)
 clear hK K
 refine pureF 13 (N := some 8) HT_.1 ?_
 refine done_ (done_of HT_.1 (by kernel_rfl)) ?_
 try go_wp2
 have n_ : (fun w22 : World => (Kd.R (Kd.int .i64) 3 w22 w.heap.size (fun _ => True) v219 t218) /\ (Kd.R k98 98 w22 w.heap.size (fun _ => True) (.slice Ao20 t226.length co20) t226) /\ (Kd.S (Kd.slice 3 (Kd.int .i64)) 28 w22 w.heap.size (fun k_ => some k_ ≠ (v219 : Value).ownBlock) v230 t229) /\ (w22.heap[gb215]? = some (.cells #[.int .i64 a0_0, .int .i64 a0_1, .slice A0_2 l0_2.length c0_2] 33 (0, 0))) /\ (w22.heap[gb216]? = some (.cells #[.int .i64 0, .int .i64 0, .int .i64 0] 61 (0, 0))) /\ (w22.heap[gb217]? = some (.cells #[.int .i64 0, .int .i64 0, .slice none 0 0] 33 (0, 0))) /\ (w22.heap[gb232]? = some (.cells #[.int .i64 t221, .int .i64 t222, .int .i64 t223] 61 (0, 0))) /\ (w22.heap[gb233]? = some (.cells #[.int .i64 t224, .int .i64 t225, .slice Ao20 t226.length co20] 33 (0, 0))) /\ (Below w.heap.size w w22)) ((((((w14.setCell ⟨gb232, 0, none⟩ (.int .i64 t221)).setCell ⟨gb232, 1, none⟩ (.int .i64 t222)).setCell ⟨gb232, 2, none⟩ (.int .i64 t223)).setCell ⟨gb233, 0, none⟩ (.int .i64 t224)).setCell ⟨gb233, 1, none⟩ (.int .i64 t225)).setCell ⟨gb233, 2, none⟩ (.slice Ao20 t226.length co20)) := ⟨by (with_reducible repeat (first | apply R_alloc | apply R_drewN | apply R_drew)); exact R_mono (RQ gb233 2 (RQ gb233 1 (RQ gb233 0 (R_far (p := ⟨gb232, 2, none⟩) (R_far (p := ⟨gb232, 1, none⟩) (R_far (p := ⟨gb232, 0, none⟩) (R_types (R_types HO220.1 BK232.1 (by decide)) BK233.1 (by decide)) (fun _ hk => hk.1.2) (.int .i64 t221)) (fun _ hk => hk.1.2) (.int .i64 t222)) (fun _ hk => hk.1.2) (.int .i64 t223)) _) _) _) (fun _ hk => trivial), by (with_reducible repeat (first | apply R_alloc | apply R_drewN | apply R_drew)); exact R_mono (RQ gb233 2 (RQ gb233 1 (RQ gb233 0 (R_far (p := ⟨gb232, 2, none⟩) (R_far (p := ⟨gb232, 1, none⟩) (R_far (p := ⟨gb232, 0, none⟩) (R_types (R_types HO228.1 BK232.1 (by decide)) BK233.1 (by decide)) (fun _ hk => hk.1.2) (.int .i64 t221)) (fun _ hk => hk.1.2) (.int .i64 t222)) (fun _ hk => hk.1.2) (.int .i64 t223)) _) _) _) (fun _ hk => trivial), by (with_reducible repeat (first | apply S_alloc | apply S_drewN | apply S_drew)); exact S_mono (SQ gb233 2 (SQ gb233 1 (SQ gb233 0 (S_far (p := ⟨gb232, 2, none⟩) (S_far (p := ⟨gb232, 1, none⟩) (S_far (p := ⟨gb232, 0, none⟩) (S_types (S_types HO231.1 BK232.1 (by decide)) BK233.1 (by decide)) (fun _ hk => hk.1.2) (.int .i64 t221)) (fun _ hk => hk.1.2) (.int .i64 t222)) (fun _ hk => hk.1.2) (.int .i64 t223)) _) _) _) (fun _ hk => hk.1.1), by (with_reducible repeat (first | refine blk_drewN ?_ _ | refine blk_drew ?_ | refine blk_alloc ?_ _)); refine blk_far ?_ NB215_233.1 _; (with_reducible repeat (first | refine blk_drewN ?_ _ | refine blk_drew ?_ | refine blk_alloc ?_ _)); refine blk_far ?_ NB215_233.1 _; (with_reducible repeat (first | refine blk_drewN ?_ _ | refine blk_drew ?_ | refine blk_alloc ?_ _)); refine blk_far ?_ NB215_233.1 _; (with_reducible repeat (first | refine blk_drewN ?_ _ | refine blk_drew ?_ | refine blk_alloc ?_ _)); refine blk_far ?_ NB215_232.1 _; (with_reducible repeat (first | refine blk_drewN ?_ _ | refine blk_drew ?_ | refine blk_alloc ?_ _)); refine blk_far ?_ NB215_232.1 _; (with_reducible repeat (first | refine blk_drewN ?_ _ | refine blk_drew ?_ | refine blk_alloc ?_ _)); refine blk_far ?_ NB215_232.1 _; (with_reducible repeat (first | refine blk_drewN ?_ _ | refine blk_drew ?_ | refine blk_alloc ?_ _)); exact BK215.1, by (with_reducible repeat (first | refine blk_drewN ?_ _ | refine blk_drew ?_ | refine blk_alloc ?_ _)); refine blk_far ?_ NB216_233.1 _; (with_reducible repeat (first | refine blk_drewN ?_ _ | refine blk_drew ?_ | refine blk_alloc ?_ _)); refine blk_far ?_ NB216_233.1 _; (with_reducible repeat (first | refine blk_drewN ?_ _ | refine blk_drew ?_ | refine blk_alloc ?_ _)); refine blk_far ?_ NB216_233.1 _; (with_reducible repeat (first | refine blk_drewN ?_ _ | refine blk_drew ?_ | refine blk_alloc ?_ _)); refine blk_far ?_ NB216_232.1 _; (with_reducible repeat (first | refine blk_drewN ?_ _ | refine blk_drew ?_ | refine blk_alloc ?_ _)); refine blk_far ?_ NB216_232.1 _; (with_reducible repeat (first | refine blk_drewN ?_ _ | refine blk_drew ?_ | refine blk_alloc ?_ _)); refine blk_far ?_ NB216_232.1 _; (with_reducible repeat (first | refine blk_drewN ?_ _ | refine blk_drew ?_ | refine blk_alloc ?_ _)); exact BK216.1, by (with_reducible repeat (first | refine blk_drewN ?_ _ | refine blk_drew ?_ | refine blk_alloc ?_ _)); refine blk_far ?_ NB217_233.1 _; (with_reducible repeat (first | refine blk_drewN ?_ _ | refine blk_drew ?_ | refine blk_alloc ?_ _)); refine blk_far ?_ NB217_233.1 _; (with_reducible repeat (first | refine blk_drewN ?_ _ | refine blk_drew ?_ | refine blk_alloc ?_ _)); refine blk_far ?_ NB217_233.1 _; (with_reducible repeat (first | refine blk_drewN ?_ _ | refine blk_drew ?_ | refine blk_alloc ?_ _)); refine blk_far ?_ NB217_232.1 _; (with_reducible repeat (first | refine blk_drewN ?_ _ | refine blk_drew ?_ | refine blk_alloc ?_ _)); refine blk_far ?_ NB217_232.1 _; (with_reducible repeat (first | refine blk_drewN ?_ _ | refine blk_drew ?_ | refine blk_alloc ?_ _)); refine blk_far ?_ NB217_232.1 _; (with_reducible repeat (first | refine blk_drewN ?_ _ | refine blk_drew ?_ | refine blk_alloc ?_ _)); exact BK217.1, by (with_reducible repeat (first | refine blk_drewN ?_ _ | refine blk_drew ?_ | refine blk_alloc ?_ _)); refine blk_far ?_ NB232_233.1 _; (with_reducible repeat (first | refine blk_drewN ?_ _ | refine blk_drew ?_ | refine blk_alloc ?_ _)); refine blk_far ?_ NB232_233.1 _; (with_reducible repeat (first | refine blk_drewN ?_ _ | refine blk_drew ?_ | refine blk_alloc ?_ _)); refine blk_far ?_ NB232_233.1 _; (with_reducible repeat (first | refine blk_drewN ?_ _ | refine blk_drew ?_ | refine blk_alloc ?_ _)); refine blk_put (cs := #[.int .i64 t221, .int .i64 t222, .int .i64 0]) ?_ 2 _ rfl; (with_reducible repeat (first | refine blk_drewN ?_ _ | refine blk_drew ?_ | refine blk_alloc ?_ _)); refine blk_put (cs := #[.int .i64 t221, .int .i64 0, .int .i64 0]) ?_ 1 _ rfl; (with_reducible repeat (first | refine blk_drewN ?_ _ | refine blk_drew ?_ | refine blk_alloc ?_ _)); refine blk_put (cs := #[.int .i64 0, .int .i64 0, .int .i64 0]) ?_ 0 _ rfl; (with_reducible repeat (first | refine blk_drewN ?_ _ | refine blk_drew ?_ | refine blk_alloc ?_ _)); exact BK232.1, by (with_reducible repeat (first | refine blk_drewN ?_ _ | refine blk_drew ?_ | refine blk_alloc ?_ _)); refine blk_put (cs := #[.int .i64 t224, .int .i64 t225, .slice none 0 0]) ?_ 2 _ rfl; (with_reducible repeat (first | refine blk_drewN ?_ _ | refine blk_drew ?_ | refine blk_alloc ?_ _)); refine blk_put (cs := #[.int .i64 t224, .int .i64 0, .slice none 0 0]) ?_ 1 _ rfl; (with_reducible repeat (first | refine blk_drewN ?_ _ | refine blk_drew ?_ | refine blk_alloc ?_ _)); refine blk_put (cs := #[.int .i64 0, .int .i64 0, .slice none 0 0]) ?_ 0 _ rfl; (with_reducible repeat (first | refine blk_drewN ?_ _ | refine blk_drew ?_ | refine blk_alloc ?_ _)); refine blk_far ?_ NB233_232.1 _; (with_reducible repeat (first | refine blk_drewN ?_ _ | refine blk_drew ?_ | refine blk_alloc ?_ _)); refine blk_far ?_ NB233_232.1 _; (with_reducible repeat (first | refine blk_drewN ?_ _ | refine blk_drew ?_ | refine blk_alloc ?_ _)); refine blk_far ?_ NB233_232.1 _; (with_reducible repeat (first | refine blk_drewN ?_ _ | refine blk_drew ?_ | refine blk_alloc ?_ _)); exact BK233.1, BL HB.1⟩
 (try clear HO220)
 (try clear HO228)
 (try clear HO231)
 (try clear BK215)
 (try clear BK216)
 (try clear BK217)
 (try clear BK232)
 (try clear BK233)
 (try clear HB)
 generalize ((((((w14.setCell ⟨gb232, 0, none⟩ (.int .i64 t221)).setCell ⟨gb232, 1, none⟩ (.int .i64 t222)).setCell ⟨gb232, 2, none⟩ (.int .i64 t223)).setCell ⟨gb233, 0, none⟩ (.int .i64 t224)).setCell ⟨gb233, 1, none⟩ (.int .i64 t225)).setCell ⟨gb233, 2, none⟩ (.slice Ao20 t226.length co20)) = w22 at n_ ⊢
 obtain ⟨h0_, h1_, h2_, h3_, h4_, h5_, h6_, h7_, h8_⟩ := n_
 refine E9 h0_ h1_ h2_ h3_ h4_ h5_ h6_ h7_ h8_ ?_
 clear h0_ h1_ h2_ h3_ h4_ h5_ h6_ h7_ h8_
 intro HO220 HO228 HO231 BK215 BK216 BK217 BK232 BK233 HB
 refine E9 (R_drew HO220.1) (R_drew HO228.1) (S_drew HO231.1) (blk_drew BK215.1) (blk_drew BK216.1) (blk_drew BK217.1) (blk_drew BK232.1) (blk_drew BK233.1) (below_drew1 HB.1) ?_
 clear HO220 HO228 HO231 BK215 BK216 BK217 BK232 BK233 HB
 intro HO220 HO228 HO231 BK215 BK216 BK217 BK232 BK233 HB
 refine start_ (n := 4) (S := fun w' => w'.cell? ⟨gb232, 0, none⟩ = some (.int .i64 t221) /\ w'.cell? ⟨gb232, 1, none⟩ = some (.int .i64 t222) /\ w'.cell? ⟨gb232, 2, none⟩ = some (.int .i64 t223) /\ w'.cell? ⟨gb233, 0, none⟩ = some (.int .i64 t224) /\ w'.cell? ⟨gb233, 1, none⟩ = some (.int .i64 t225) /\ w'.cell? ⟨gb233, 2, none⟩ = some (.slice Ao20 t226.length co20)) (ds := []) #[Zz,Zz,Zz,Zz] (by kernel_rfl) rfl rfl ⟨(blk_cell BK232.1 0).trans rfl, (blk_cell BK232.1 1).trans rfl, (blk_cell BK232.1 2).trans rfl, (blk_cell BK233.1 0).trans rfl, (blk_cell BK233.1 1).trans rfl, (blk_cell BK233.1 2).trans rfl⟩ (fun hHeld => ?_)
 generalize w22.drew = w23 at HO220 HO228 HO231 BK215 BK216 BK217 BK232 BK233 HB hHeld ⊢
 refine takeF 0 (N := some 18) hHeld ?_
 refine takeF 1 (N := some 19) hHeld ?_
 refine one_ (i := 2) (N := none) #[Yy,Yy,Yy,Zz] rfl rfl (by kernel_rfl) (by decide) (fun K hK => ?_)
 obtain ⟨hs24, hs25, hs26, hfs24, hfs25, hfs26⟩ := cz3 BK216.1
 have hns24_0 := NB215_216.1
 have hns24_2 := NB217_216.1
 have hms24_0 := NB216_215.1
 have hms24_2 := NB216_217.1
 refine skip_ (w1 := ?_) (by rfl) rfl ?_ ?_
 rotate_left
 · go_simp
   rfl
 refine hK.out _ _ ⟨(CF3 NB232_216.1 hHeld.1), (CF3 NB232_216.1 hHeld.2.1), (CF3 NB232_216.1 hHeld.2.2.1), (CF3 NB233_216.1 hHeld.2.2.2.1), (CF3 NB233_216.1 hHeld.2.2.2.2.1), (CF3 NB233_216.1 hHeld.2.2.2.2.2)⟩ (fun hHeld => ?_)
 clear hK K
 refine one_ (i := 3) (N := none) #[Yy,Yy,Yy,Yy] rfl rfl (by kernel_rfl) (by decide) (fun K hK => ?_)
 obtain ⟨hs27, hs28, hs29, hfs27, hfs28, hfs29⟩ := cz3 BK217.1
 have hns27_0 := NB215_217.1
 have hms27_0 := NB217_215.1
 refine skip_ (w1 := ?_) (by rfl) rfl ?_ ?_
 rotate_left
 · go_simp
   rfl
 refine hK.out _ _ ⟨(CF3 NB232_217.1 hHeld.1), (CF3 NB232_217.1 hHeld.2.1), (CF3 NB232_217.1 hHeld.2.2.1), (CF3 NB233_217.1 hHeld.2.2.2.1), (CF3 NB233_217.1 hHeld.2.2.2.2.1), (CF3 NB233_217.1 hHeld.2.2.2.2.2)⟩ (fun hHeld => ?_)
 clear hK K
 refine done_ (by kernel_rfl) ?_
 try go_wp2
 refine bodyPost_ret (results_cc rfl _ _ gb216 gb217 61 33 #[.int .i64 t221, .int .i64 t222, .int .i64 t223] #[.int .i64 t224, .int .i64 t225, .slice Ao20 t226.length co20] (0, 0) (0, 0) _ _ rfl (PF1 NB216_217.1 BK216.1) Try.underlying61 rfl (by kernel_rfl) rfl (PF1 NB217_216.1 BK217.1) Try.underlying33 rfl (by kernel_rfl)) rfl ?_
 exact ⟨_, RF, by (with_reducible repeat (first | apply R_alloc | apply R_drewN | apply R_drew)); exact R_mono (RQ gb217 2 (RQ gb217 1 (RQ gb217 0 (R_far (p := ⟨gb216, 2, none⟩) (R_far (p := ⟨gb216, 1, none⟩) (R_far (p := ⟨gb216, 0, none⟩) (R_types (R_types HO228.1 BK216.1 (by decide)) BK217.1 (by decide)) (fun _ hk => hk.1.2) (.int .i64 t221)) (fun _ hk => hk.1.2) (.int .i64 t222)) (fun _ hk => hk.1.2) (.int .i64 t223)) _) _) _) (fun _ hk => trivial), BL HB.1⟩

end Go.Proofs.Ythnehlphifegaaa.P
