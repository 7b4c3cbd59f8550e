-- PRINTED by print.py (a twelfth state) out of the translation. Not trusted: Lean checks it.
import Derived.Test.YtbpfdbjnnlmdjaaPx0
import Derived.Test.YtbpfdbjnnlmdjaaPx1
import Derived.Test.YtbpfdbjnnlmdjaaPx2
namespace Go.Proofs.Ytbpfdbjnnlmdjaa.P
open Go.RowKit Go.Proofs.YtbpfdbjnnlmdjaaW.PrintWords Go.Proofs.YtbpfdbjnnlmdjaaW.PrintLast Go.Proofs.YtbpfdbjnnlmdjaaW.PrintMore
attribute [local go_sem] max2_int min2_int max_two min_two max_three min_three max_four min_four   -- for this text's walks alone
set_option linter.unusedVariables false
set_option linter.unusedSimpArgs false

/-! ### spec_flRun: function 69 -/
def spec_flRun.f (k : Nat) (a0_0 : Int) (a0_1 : Int) (l0_2 : List (S83)) (a1 : Int) : Option (Int × Int × Int × Int × Int × (List (S83))) := (spec_ggGroups.f k a0_0 a0_1 l0_2).bind fun t264 => ((spec_flGo.f k a0_0 a0_1 l0_2 t264 a1).bind fun bt267 => (some (bt267.1, bt267.2.1, bt267.2.2.1, bt267.2.2.2.1, bt267.2.2.2.2.1, bt267.2.2.2.2.2.1)))
theorem spec_flRun.mono : ∀ a0 a1 a2 a3 k, LeO (spec_flRun.f k a0 a1 a2 a3) (spec_flRun.f (k + 1) a0 a1 a2 a3) := by
  intro a0 a1 a2 a3 k
  unfold spec_flRun.f
  repeat' first
      | (with_reducible exact spec_flGo.mono _ _ _ _ _ _)
      | (with_reducible exact spec_ggGroups.mono _ _ _ _)
      | (with_reducible exact LeO.refl _)
      | (with_reducible exact LeO.none _)
      | (with_reducible refine LeO.ite ?_ ?_)
      | (with_reducible refine LeO.bind ?_ (fun _ => ?_))
      | exact spec_flGo.mono _ _ _ _ _ _
      | exact spec_ggGroups.mono _ _ _ _
      | exact LeO.none _
      | refine LeO.ite ?_ ?_
      | refine LeO.bind ?_ (fun _ => ?_)
def spec_flRun.T1 : Bool × List (List Nat × List Nat) := (true, [([], []), ([], []), ([1], [1]), ([], []), ([0, 2, 3, 2], [0, 2, 3]), ([4], [4]), ([5], [5]), ([5], [5]), ([5], [5]), ([], []), ([], []), ([9, 6, 4, 0, 1, 2, 3, 4, 5, 6, 9, 10], [6, 9]), ([10, 7, 11, 0, 1, 2, 3, 4, 5, 6, 7, 9, 10, 11], [7, 10]), ([8, 12, 0, 1, 2, 3, 4, 5, 6, 7, 8, 9, 10, 11, 12], [8])])
def spec_flRun.B1 : List Nat := [0, 0, 2, 0, 15, 31, 63, 63, 63, 0, 0, 1663, 3839, 8191]
theorem spec_flRun.tab1 : rtab .any (opsOf Try.f69 1) = spec_flRun.T1 := by kernel_rfl
theorem spec_flRun.bits1 : waitsOk spec_flRun.T1.2 spec_flRun.B1 = true := by kernel_rfl
set_option maxHeartbeats 8000000 in
set_option maxRecDepth 100000 in
theorem spec_flRun.calls (k : Nat) (a0_0 : Int) (a0_1 : Int) (A0_2 : Option Addr) (c0_2 : Nat) (l0_2 : List (S83)) (a1 : Int) (r1 : Int) (r2 : Int) (r3 : Int) (r4 : Int) (r5 : Int) (r6 : List (S83)) (w : World) (hr0_2 : Kd.C k83 w A0_2 l0_2.length l0_2) (hc0_2 : l0_2.length ≤ c0_2) (h : spec_flRun.f k a0_0 a0_1 l0_2 a1 = some (r1, r2, r3, r4, r5, r6)) :
    Calls Try.prog 69 #[.agg #[.int .i64 a0_0, .int .i64 a0_1, .slice A0_2 l0_2.length c0_2], .int .i64 a1] w fun e w' => ∃ v5_ : Value, e = .returned (.tuple #[.agg #[.int .i64 r1, .int .i64 r2, .int .i64 r3], .agg #[.int .i64 r4, .int .i64 r5, v5_]]) ∧ Kd.R k83 83 w' w.heap.size (fun _ => True) v5_ r6 ∧ Below w.heap.size w w' := by
  have hu30 := Try.underlying30
  have hu54 := Try.underlying54
  have HR0_2 := Aside0.mk hr0_2
  have HC0_2 := Aside0.mk hc0_2
  clear hr0_2 hc0_2
  have HB := Aside0.mk (Below.refl w.heap.size w)
  have H := h
  clear h
  unfold spec_flRun.f at H
  replace H := bindA H; obtain ⟨t264, A3, H⟩ := H
  replace H := bindA H; obtain ⟨⟨t267, t268, t269, t270, t271, t272, t275⟩, A4, H⟩ := H
  dsimp only at H
  simp only [Option.some.injEq, Prod.mk.injEq] at H
  obtain ⟨rfl, rfl, rfl, rfl, rfl, rfl⟩ := H
  go_enter Try.func69, Try.ntmps69
  try go_wp2_with (first | ((with_reducible refine gate_dst (N := 2) rfl ?_); refine boxE (cs := #[.int .i64 a0_0, .int .i64 a0_1, .slice A0_2 l0_2.length c0_2]) (t := 30) ?_; intro gb261 hg w5 hbox hb; refine E4b HB.1 hg hbox hb ?_; clear HB; intro HB BK261 GW261 GE261; clear hb hbox hg) | ((with_reducible refine gate_dst (N := 4) rfl ?_); refine boxE (cs := #[.int .i64 0, .int .i64 0, .int .i64 0]) (t := 54) ?_; intro gb262 hg w6 hbox hb; refine E7 (bB BK261.1 hb) (below_step (BL HB.1) hb) (hbox) (gX HB.1 hg) (gX HB.1 hg) (nB BK261.1 hg) (nC BK261.1 hg) ?_; clear BK261 HB; intro BK261 HB BK262 GW262 GE262 NB261_262 NB262_261; clear hb hbox hg) | ((with_reducible refine gate_dst (N := 5) rfl ?_); refine boxE (cs := #[.int .i64 0, .int .i64 0, .slice none 0 0]) (t := 30) ?_; intro gb263 hg w7 hbox hb; refine E10 (bB BK261.1 hb) (bB BK262.1 hb) (below_step (BL HB.1) hb) (hbox) (gX HB.1 hg) (gX HB.1 hg) (nB BK261.1 hg) (nC BK261.1 hg) (nB BK262.1 hg) (nC BK262.1 hg) ?_; clear BK261 BK262 HB; intro BK261 BK262 HB BK263 GW263 GE263 NB261_263 NB263_261 NB262_263 NB263_262; clear hb hbox hg))
  refine E4 (blk_drew BK261.1) (blk_drew BK262.1) (blk_drew BK263.1) (below_drew1 HB.1) ?_
  clear BK261 BK262 BK263 HB
  intro BK261 BK262 BK263 HB
  refine start_ (n := 14) (S := fun w' => w'.cell? ⟨gb261, 0, none⟩ = some (.int .i64 a0_0) ∧ w'.cell? ⟨gb261, 1, none⟩ = some (.int .i64 a0_1) ∧ w'.cell? ⟨gb261, 2, none⟩ = some (.slice A0_2 l0_2.length c0_2)) (ds := []) #[Zz,Zz,Zz,Zz,Zz,Zz,Zz,Zz,Zz,Zz,Zz,Zz,Zz,Zz] (by kernel_rfl) rfl rfl ⟨(blk_cell BK261.1 0).trans rfl, (blk_cell BK261.1 1).trans rfl, (blk_cell BK261.1 2).trans rfl⟩ (fun hHeld => ?_); refine with_tabW spec_flRun.tab1 spec_flRun.bits1 (fun HT_ HW_ => ?_)
  generalize w7.drew = w8 at BK261 BK262 BK263 HB hHeld ⊢
  refine pureE (i := 3) (N := some 13) #[Zz,Zz,Zz,Yy,Zz,Zz,Zz,Zz,Zz,Zz,Zz,Zz,Zz,Zz] HT_.1 ?_
  refine take_ (i := 0) (N := some 10) (v := ?_) (a' := ?_) #[Yy,Zz,Zz,Yy,Zz,Zz,Zz,Zz,Zz,Zz,Zz,Zz,Zz,Zz] rfl rfl (take_ofW HT_.1 HW_.1 (by kernel_rfl)) (fun _ _ _ h => h) (Or.inl ⟨by rfl, ?_⟩) hHeld ?_ ?_
  rotate_left
  · rintro w' ⟨s0, s1, s2⟩
    go_simp
    with_reducible rfl
  rotate_left
  · simp only [Act.put, List.setIfInBounds_toArray, List.set_cons_zero, List.set_cons_succ, i64_w, i32_w]
    rfl
  refine take_ (i := 1) (N := some 11) (v := ?_) (a' := ?_) #[Yy,Yy,Zz,Yy,Zz,Zz,Zz,Zz,Zz,Zz,Zz,Zz,Zz,Zz] rfl rfl (take_ofW HT_.1 HW_.1 (by kernel_rfl)) (fun _ _ _ h => h) (Or.inl ⟨by rfl, ?_⟩) hHeld ?_ ?_
  rotate_left
  · rintro w' ⟨s0, s1, s2⟩
    go_simp
    with_reducible rfl
  rotate_left
  · simp only [Act.put, List.setIfInBounds_toArray, List.set_cons_zero, List.set_cons_succ, i64_w, i32_w]
    rfl
  refine join_ (σ := Value × Value × Value × Nat × Nat) 3 #[Yy,Yy,Yy,Yy,Yy,Yy,Yy,Yy,Yy,Yy,Yy,Zz,Zz,Zz] (fun s_ => [(12, s_.1), (14, .tuple #[.agg #[.int .i64 t267, .int .i64 t268, .int .i64 t269], .agg #[.int .i64 t270, .int .i64 t271, s_.2.1], s_.2.2.1]), (6, .pointer (some ⟨s_.2.2.2.1, 0, none⟩)), (7, .pointer (some ⟨s_.2.2.2.2, 0, none⟩)), (9, .tuple #[.agg #[.int .i64 t267, .int .i64 t268, .int .i64 t269], .agg #[.int .i64 t270, .int .i64 t271, s_.2.1], s_.2.2.1]), (15, .agg #[.int .i64 t267, .int .i64 t268, .int .i64 t269]), (16, .agg #[.int .i64 t270, .int .i64 t271, s_.2.1]), (17, s_.2.2.1)]) (fun s_ w' => (w'.cell? ⟨gb261, 0, none⟩ = some (.int .i64 a0_0) ∧ w'.cell? ⟨gb261, 1, none⟩ = some (.int .i64 a0_1) ∧ w'.cell? ⟨gb261, 2, none⟩ = some (.slice A0_2 l0_2.length c0_2)) ∧ (Kd.R (Kd.int .i64) 3 w' w.heap.size (fun _ => True) s_.1 t264) ∧ (Kd.R k83 83 w' w.heap.size (fun _ => True) s_.2.1 t272) ∧ (Kd.S (Kd.slice 3 (Kd.int .i64)) 38 w' w.heap.size (fun k_ => some k_ ≠ (s_.1 : Value).ownBlock) s_.2.2.1 t275) ∧ (w'.heap[gb261]? = some (.cells #[.int .i64 a0_0, .int .i64 a0_1, .slice A0_2 l0_2.length c0_2] 30 (0, 0))) ∧ (w'.heap[gb262]? = some (.cells #[.int .i64 0, .int .i64 0, .int .i64 0] 54 (0, 0))) ∧ (w'.heap[gb263]? = some (.cells #[.int .i64 0, .int .i64 0, .slice none 0 0] 30 (0, 0))) ∧ (w'.heap[s_.2.2.2.1]? = some (.cells #[.int .i64 0, .int .i64 0, .int .i64 0] 54 (0, 0))) ∧ (w'.heap[s_.2.2.2.2]? = some (.cells #[.int .i64 0, .int .i64 0, .slice none 0 0] 30 (0, 0))) ∧ (w.heap.size ≤ s_.2.2.2.1) ∧ (w.heap.size ≤ s_.2.2.2.1) ∧ (gb261 ≠ s_.2.2.2.1) ∧ (s_.2.2.2.1 ≠ gb261) ∧ (gb262 ≠ s_.2.2.2.1) ∧ (s_.2.2.2.1 ≠ gb262) ∧ (gb263 ≠ s_.2.2.2.1) ∧ (s_.2.2.2.1 ≠ gb263) ∧ (s_.2.2.2.2 ≠ s_.2.2.2.1) ∧ (s_.2.2.2.1 ≠ s_.2.2.2.2) ∧ (w.heap.size ≤ s_.2.2.2.2) ∧ (w.heap.size ≤ s_.2.2.2.2) ∧ (gb261 ≠ s_.2.2.2.2) ∧ (s_.2.2.2.2 ≠ gb261) ∧ (gb262 ≠ s_.2.2.2.2) ∧ (s_.2.2.2.2 ≠ gb262) ∧ (gb263 ≠ s_.2.2.2.2) ∧ (s_.2.2.2.2 ≠ gb263) ∧ (Below w.heap.size w w')) ?_ ?_
  rotate_left
  · intro hJ2_4_9_10
    refine join_ (σ := Value × Value × Value × Nat) 4 #[Yy,Yy,Yy,Yy,Yy,Yy,Yy,Yy,Yy,Yy,Zz,Zz,Zz,Zz] (fun s_ => [(12, s_.1), (14, .tuple #[.agg #[.int .i64 t267, .int .i64 t268, .int .i64 t269], .agg #[.int .i64 t270, .int .i64 t271, s_.2.1], s_.2.2.1]), (6, .pointer (some ⟨s_.2.2.2, 0, none⟩)), (9, .tuple #[.agg #[.int .i64 t267, .int .i64 t268, .int .i64 t269], .agg #[.int .i64 t270, .int .i64 t271, s_.2.1], s_.2.2.1]), (15, .agg #[.int .i64 t267, .int .i64 t268, .int .i64 t269]), (16, .agg #[.int .i64 t270, .int .i64 t271, s_.2.1]), (17, s_.2.2.1)]) (fun s_ w' => (w'.cell? ⟨gb261, 0, none⟩ = some (.int .i64 a0_0) ∧ w'.cell? ⟨gb261, 1, none⟩ = some (.int .i64 a0_1) ∧ w'.cell? ⟨gb261, 2, none⟩ = some (.slice A0_2 l0_2.length c0_2)) ∧ (Kd.R (Kd.int .i64) 3 w' w.heap.size (fun _ => True) s_.1 t264) ∧ (Kd.R k83 83 w' w.heap.size (fun _ => True) s_.2.1 t272) ∧ (Kd.S (Kd.slice 3 (Kd.int .i64)) 38 w' w.heap.size (fun k_ => some k_ ≠ (s_.1 : Value).ownBlock) s_.2.2.1 t275) ∧ (w'.heap[gb261]? = some (.cells #[.int .i64 a0_0, .int .i64 a0_1, .slice A0_2 l0_2.length c0_2] 30 (0, 0))) ∧ (w'.heap[gb262]? = some (.cells #[.int .i64 0, .int .i64 0, .int .i64 0] 54 (0, 0))) ∧ (w'.heap[gb263]? = some (.cells #[.int .i64 0, .int .i64 0, .slice none 0 0] 30 (0, 0))) ∧ (w'.heap[s_.2.2.2]? = some (.cells #[.int .i64 0, .int .i64 0, .int .i64 0] 54 (0, 0))) ∧ (w.heap.size ≤ s_.2.2.2) ∧ (w.heap.size ≤ s_.2.2.2) ∧ (gb261 ≠ s_.2.2.2) ∧ (s_.2.2.2 ≠ gb261) ∧ (gb262 ≠ s_.2.2.2) ∧ (s_.2.2.2 ≠ gb262) ∧ (gb263 ≠ s_.2.2.2) ∧ (s_.2.2.2 ≠ gb263) ∧ (Below w.heap.size w w')) ?_ ?_
    rotate_left
    · intro hJ2_4_9
      refine join_ (σ := Value × Value × Value × Nat) 4 #[Yy,Yy,Yy,Yy,Yy,Yy,Yy,Yy,Yy,Zz,Yy,Zz,Zz,Zz] (fun s_ => [(12, s_.1), (14, .tuple #[.agg #[.int .i64 t267, .int .i64 t268, .int .i64 t269], .agg #[.int .i64 t270, .int .i64 t271, s_.2.1], s_.2.2.1]), (7, .pointer (some ⟨s_.2.2.2, 0, none⟩)), (9, .tuple #[.agg #[.int .i64 t267, .int .i64 t268, .int .i64 t269], .agg #[.int .i64 t270, .int .i64 t271, s_.2.1], s_.2.2.1]), (15, .agg #[.int .i64 t267, .int .i64 t268, .int .i64 t269]), (16, .agg #[.int .i64 t270, .int .i64 t271, s_.2.1]), (17, s_.2.2.1)]) (fun s_ w' => (w'.cell? ⟨gb261, 0, none⟩ = some (.int .i64 a0_0) ∧ w'.cell? ⟨gb261, 1, none⟩ = some (.int .i64 a0_1) ∧ w'.cell? ⟨gb261, 2, none⟩ = some (.slice A0_2 l0_2.length c0_2)) ∧ (Kd.R (Kd.int .i64) 3 w' w.heap.size (fun _ => True) s_.1 t264) ∧ (Kd.R k83 83 w' w.heap.size (fun _ => True) s_.2.1 t272) ∧ (Kd.S (Kd.slice 3 (Kd.int .i64)) 38 w' w.heap.size (fun k_ => some k_ ≠ (s_.1 : Value).ownBlock) s_.2.2.1 t275) ∧ (w'.heap[gb261]? = some (.cells #[.int .i64 a0_0, .int .i64 a0_1, .slice A0_2 l0_2.length c0_2] 30 (0, 0))) ∧ (w'.heap[gb262]? = some (.cells #[.int .i64 0, .int .i64 0, .int .i64 0] 54 (0, 0))) ∧ (w'.heap[gb263]? = some (.cells #[.int .i64 0, .int .i64 0, .slice none 0 0] 30 (0, 0))) ∧ (w'.heap[s_.2.2.2]? = some (.cells #[.int .i64 0, .int .i64 0, .slice none 0 0] 30 (0, 0))) ∧ (w.heap.size ≤ s_.2.2.2) ∧ (w.heap.size ≤ s_.2.2.2) ∧ (gb261 ≠ s_.2.2.2) ∧ (s_.2.2.2 ≠ gb261) ∧ (gb262 ≠ s_.2.2.2) ∧ (s_.2.2.2 ≠ gb262) ∧ (gb263 ≠ s_.2.2.2) ∧ (s_.2.2.2 ≠ gb263) ∧ (Below w.heap.size w w')) ?_ ?_
      rotate_left
      · intro hJ2_4_10
        refine join_ (σ := Value × Nat × Nat) 8 #[Yy,Yy,Yy,Yy,Zz,Zz,Zz,Zz,Zz,Yy,Yy,Zz,Zz,Zz] (fun s_ => [(12, s_.1), (6, .pointer (some ⟨s_.2.1, 0, none⟩)), (7, .pointer (some ⟨s_.2.2, 0, none⟩))]) (fun s_ w' => (w'.cell? ⟨gb261, 0, none⟩ = some (.int .i64 a0_0) ∧ w'.cell? ⟨gb261, 1, none⟩ = some (.int .i64 a0_1) ∧ w'.cell? ⟨gb261, 2, none⟩ = some (.slice A0_2 l0_2.length c0_2)) ∧ (Kd.R (Kd.int .i64) 3 w' w.heap.size (fun _ => True) s_.1 t264) ∧ (w'.heap[gb261]? = some (.cells #[.int .i64 a0_0, .int .i64 a0_1, .slice A0_2 l0_2.length c0_2] 30 (0, 0))) ∧ (w'.heap[gb262]? = some (.cells #[.int .i64 0, .int .i64 0, .int .i64 0] 54 (0, 0))) ∧ (w'.heap[gb263]? = some (.cells #[.int .i64 0, .int .i64 0, .slice none 0 0] 30 (0, 0))) ∧ (w'.heap[s_.2.1]? = some (.cells #[.int .i64 0, .int .i64 0, .int .i64 0] 54 (0, 0))) ∧ (w'.heap[s_.2.2]? = some (.cells #[.int .i64 0, .int .i64 0, .slice none 0 0] 30 (0, 0))) ∧ (w.heap.size ≤ s_.2.1) ∧ (w.heap.size ≤ s_.2.1) ∧ (gb261 ≠ s_.2.1) ∧ (s_.2.1 ≠ gb261) ∧ (gb262 ≠ s_.2.1) ∧ (s_.2.1 ≠ gb262) ∧ (gb263 ≠ s_.2.1) ∧ (s_.2.1 ≠ gb263) ∧ (s_.2.2 ≠ s_.2.1) ∧ (s_.2.1 ≠ s_.2.2) ∧ (w.heap.size ≤ s_.2.2) ∧ (w.heap.size ≤ s_.2.2) ∧ (gb261 ≠ s_.2.2) ∧ (s_.2.2 ≠ gb261) ∧ (gb262 ≠ s_.2.2) ∧ (s_.2.2 ≠ gb262) ∧ (gb263 ≠ s_.2.2) ∧ (s_.2.2 ≠ gb263) ∧ (Below w.heap.size w w')) ?_ ?_
        rotate_left
        · intro hJ2_9_10
          refine join_ (σ := Value × Value × Value) 5 #[Yy,Yy,Yy,Yy,Yy,Yy,Yy,Yy,Yy,Zz,Zz,Zz,Zz,Zz] (fun s_ => [(12, s_.1), (14, .tuple #[.agg #[.int .i64 t267, .int .i64 t268, .int .i64 t269], .agg #[.int .i64 t270, .int .i64 t271, s_.2.1], s_.2.2]), (9, .tuple #[.agg #[.int .i64 t267, .int .i64 t268, .int .i64 t269], .agg #[.int .i64 t270, .int .i64 t271, s_.2.1], s_.2.2]), (15, .agg #[.int .i64 t267, .int .i64 t268, .int .i64 t269]), (16, .agg #[.int .i64 t270, .int .i64 t271, s_.2.1]), (17, s_.2.2)]) (fun s_ w' => (w'.cell? ⟨gb261, 0, none⟩ = some (.int .i64 a0_0) ∧ w'.cell? ⟨gb261, 1, none⟩ = some (.int .i64 a0_1) ∧ w'.cell? ⟨gb261, 2, none⟩ = some (.slice A0_2 l0_2.length c0_2)) ∧ (Kd.R (Kd.int .i64) 3 w' w.heap.size (fun _ => True) s_.1 t264) ∧ (Kd.R k83 83 w' w.heap.size (fun _ => True) s_.2.1 t272) ∧ (Kd.S (Kd.slice 3 (Kd.int .i64)) 38 w' w.heap.size (fun k_ => some k_ ≠ (s_.1 : Value).ownBlock) s_.2.2 t275) ∧ (w'.heap[gb261]? = some (.cells #[.int .i64 a0_0, .int .i64 a0_1, .slice A0_2 l0_2.length c0_2] 30 (0, 0))) ∧ (w'.heap[gb262]? = some (.cells #[.int .i64 0, .int .i64 0, .int .i64 0] 54 (0, 0))) ∧ (w'.heap[gb263]? = some (.cells #[.int .i64 0, .int .i64 0, .slice none 0 0] 30 (0, 0))) ∧ (Below w.heap.size w w')) ?_ ?_
          rotate_left
          · intro hJ2_4
            refine join_ (σ := Value × Nat) 9 #[Yy,Yy,Yy,Yy,Zz,Zz,Zz,Zz,Zz,Yy,Zz,Zz,Zz,Zz] (fun s_ => [(12, s_.1), (6, .pointer (some ⟨s_.2, 0, none⟩))]) (fun s_ w' => (w'.cell? ⟨gb261, 0, none⟩ = some (.int .i64 a0_0) ∧ w'.cell? ⟨gb261, 1, none⟩ = some (.int .i64 a0_1) ∧ w'.cell? ⟨gb261, 2, none⟩ = some (.slice A0_2 l0_2.length c0_2)) ∧ (Kd.R (Kd.int .i64) 3 w' w.heap.size (fun _ => True) s_.1 t264) ∧ (w'.heap[gb261]? = some (.cells #[.int .i64 a0_0, .int .i64 a0_1, .slice A0_2 l0_2.length c0_2] 30 (0, 0))) ∧ (w'.heap[gb262]? = some (.cells #[.int .i64 0, .int .i64 0, .int .i64 0] 54 (0, 0))) ∧ (w'.heap[gb263]? = some (.cells #[.int .i64 0, .int .i64 0, .slice none 0 0] 30 (0, 0))) ∧ (w'.heap[s_.2]? = some (.cells #[.int .i64 0, .int .i64 0, .int .i64 0] 54 (0, 0))) ∧ (w.heap.size ≤ s_.2) ∧ (w.heap.size ≤ s_.2) ∧ (gb261 ≠ s_.2) ∧ (s_.2 ≠ gb261) ∧ (gb262 ≠ s_.2) ∧ (s_.2 ≠ gb262) ∧ (gb263 ≠ s_.2) ∧ (s_.2 ≠ gb263) ∧ (Below w.heap.size w w')) ?_ ?_
            rotate_left
            · intro hJ2_9
              refine join_ (σ := Value × Nat) 9 #[Yy,Yy,Yy,Yy,Zz,Zz,Zz,Zz,Zz,Zz,Yy,Zz,Zz,Zz] (fun s_ => [(12, s_.1), (7, .pointer (some ⟨s_.2, 0, none⟩))]) (fun s_ w' => (w'.cell? ⟨gb261, 0, none⟩ = some (.int .i64 a0_0) ∧ w'.cell? ⟨gb261, 1, none⟩ = some (.int .i64 a0_1) ∧ w'.cell? ⟨gb261, 2, none⟩ = some (.slice A0_2 l0_2.length c0_2)) ∧ (Kd.R (Kd.int .i64) 3 w' w.heap.size (fun _ => True) s_.1 t264) ∧ (w'.heap[gb261]? = some (.cells #[.int .i64 a0_0, .int .i64 a0_1, .slice A0_2 l0_2.length c0_2] 30 (0, 0))) ∧ (w'.heap[gb262]? = some (.cells #[.int .i64 0, .int .i64 0, .int .i64 0] 54 (0, 0))) ∧ (w'.heap[gb263]? = some (.cells #[.int .i64 0, .int .i64 0, .slice none 0 0] 30 (0, 0))) ∧ (w'.heap[s_.2]? = some (.cells #[.int .i64 0, .int .i64 0, .slice none 0 0] 30 (0, 0))) ∧ (w.heap.size ≤ s_.2) ∧ (w.heap.size ≤ s_.2) ∧ (gb261 ≠ s_.2) ∧ (s_.2 ≠ gb261) ∧ (gb262 ≠ s_.2) ∧ (s_.2 ≠ gb262) ∧ (gb263 ≠ s_.2) ∧ (s_.2 ≠ gb263) ∧ (Below w.heap.size w w')) ?_ ?_
              rotate_left
              · intro hJ2_10
                refine join_ (σ := Nat × Nat) 9 #[Yy,Yy,Zz,Yy,Zz,Zz,Zz,Zz,Zz,Yy,Yy,Zz,Zz,Zz] (fun s_ => [(6, .pointer (some ⟨s_.1, 0, none⟩)), (7, .pointer (some ⟨s_.2, 0, none⟩))]) (fun s_ w' => (w'.cell? ⟨gb261, 0, none⟩ = some (.int .i64 a0_0) ∧ w'.cell? ⟨gb261, 1, none⟩ = some (.int .i64 a0_1) ∧ w'.cell? ⟨gb261, 2, none⟩ = some (.slice A0_2 l0_2.length c0_2)) ∧ (w'.heap[gb261]? = some (.cells #[.int .i64 a0_0, .int .i64 a0_1, .slice A0_2 l0_2.length c0_2] 30 (0, 0))) ∧ (w'.heap[gb262]? = some (.cells #[.int .i64 0, .int .i64 0, .int .i64 0] 54 (0, 0))) ∧ (w'.heap[gb263]? = some (.cells #[.int .i64 0, .int .i64 0, .slice none 0 0] 30 (0, 0))) ∧ (w'.heap[s_.1]? = some (.cells #[.int .i64 0, .int .i64 0, .int .i64 0] 54 (0, 0))) ∧ (w'.heap[s_.2]? = some (.cells #[.int .i64 0, .int .i64 0, .slice none 0 0] 30 (0, 0))) ∧ (w.heap.size ≤ s_.1) ∧ (w.heap.size ≤ s_.1) ∧ (gb261 ≠ s_.1) ∧ (s_.1 ≠ gb261) ∧ (gb262 ≠ s_.1) ∧ (s_.1 ≠ gb262) ∧ (gb263 ≠ s_.1) ∧ (s_.1 ≠ gb263) ∧ (s_.2 ≠ s_.1) ∧ (s_.1 ≠ s_.2) ∧ (w.heap.size ≤ s_.2) ∧ (w.heap.size ≤ s_.2) ∧ (gb261 ≠ s_.2) ∧ (s_.2 ≠ gb261) ∧ (gb262 ≠ s_.2) ∧ (s_.2 ≠ gb262) ∧ (gb263 ≠ s_.2) ∧ (s_.2 ≠ gb263) ∧ (Below w.heap.size w w')) ?_ ?_
                rotate_left
                · intro hJ9_10
                  refine join_ (σ := Value) 10 #[Yy,Yy,Yy,Yy,Zz,Zz,Zz,Zz,Zz,Zz,Zz,Zz,Zz,Zz] (fun s_ => [(12, s_)]) (fun s_ w' => (w'.cell? ⟨gb261, 0, none⟩ = some (.int .i64 a0_0) ∧ w'.cell? ⟨gb261, 1, none⟩ = some (.int .i64 a0_1) ∧ w'.cell? ⟨gb261, 2, none⟩ = some (.slice A0_2 l0_2.length c0_2)) ∧ (Kd.R (Kd.int .i64) 3 w' w.heap.size (fun _ => True) s_ t264) ∧ (w'.heap[gb261]? = some (.cells #[.int .i64 a0_0, .int .i64 a0_1, .slice A0_2 l0_2.length c0_2] 30 (0, 0))) ∧ (w'.heap[gb262]? = some (.cells #[.int .i64 0, .int .i64 0, .int .i64 0] 54 (0, 0))) ∧ (w'.heap[gb263]? = some (.cells #[.int .i64 0, .int .i64 0, .slice none 0 0] 30 (0, 0))) ∧ (Below w.heap.size w w')) ?_ ?_
                  rotate_left
                  · intro hJ2
                    refine join_ (σ := Nat) 10 #[Yy,Yy,Zz,Yy,Zz,Zz,Zz,Zz,Zz,Yy,Zz,Zz,Zz,Zz] (fun s_ => [(6, .pointer (some ⟨s_, 0, none⟩))]) (fun s_ w' => (w'.cell? ⟨gb261, 0, none⟩ = some (.int .i64 a0_0) ∧ w'.cell? ⟨gb261, 1, none⟩ = some (.int .i64 a0_1) ∧ w'.cell? ⟨gb261, 2, none⟩ = some (.slice A0_2 l0_2.length c0_2)) ∧ (w'.heap[gb261]? = some (.cells #[.int .i64 a0_0, .int .i64 a0_1, .slice A0_2 l0_2.length c0_2] 30 (0, 0))) ∧ (w'.heap[gb262]? = some (.cells #[.int .i64 0, .int .i64 0, .int .i64 0] 54 (0, 0))) ∧ (w'.heap[gb263]? = some (.cells #[.int .i64 0, .int .i64 0, .slice none 0 0] 30 (0, 0))) ∧ (w'.heap[s_]? = some (.cells #[.int .i64 0, .int .i64 0, .int .i64 0] 54 (0, 0))) ∧ (w.heap.size ≤ s_) ∧ (w.heap.size ≤ s_) ∧ (gb261 ≠ s_) ∧ (s_ ≠ gb261) ∧ (gb262 ≠ s_) ∧ (s_ ≠ gb262) ∧ (gb263 ≠ s_) ∧ (s_ ≠ gb263) ∧ (Below w.heap.size w w')) ?_ ?_
                    rotate_left
                    · intro hJ9
                      refine join_ (σ := Nat) 10 #[Yy,Yy,Zz,Yy,Zz,Zz,Zz,Zz,Zz,Zz,Yy,Zz,Zz,Zz] (fun s_ => [(7, .pointer (some ⟨s_, 0, none⟩))]) (fun s_ w' => (w'.cell? ⟨gb261, 0, none⟩ = some (.int .i64 a0_0) ∧ w'.cell? ⟨gb261, 1, none⟩ = some (.int .i64 a0_1) ∧ w'.cell? ⟨gb261, 2, none⟩ = some (.slice A0_2 l0_2.length c0_2)) ∧ (w'.heap[gb261]? = some (.cells #[.int .i64 a0_0, .int .i64 a0_1, .slice A0_2 l0_2.length c0_2] 30 (0, 0))) ∧ (w'.heap[gb262]? = some (.cells #[.int .i64 0, .int .i64 0, .int .i64 0] 54 (0, 0))) ∧ (w'.heap[gb263]? = some (.cells #[.int .i64 0, .int .i64 0, .slice none 0 0] 30 (0, 0))) ∧ (w'.heap[s_]? = some (.cells #[.int .i64 0, .int .i64 0, .slice none 0 0] 30 (0, 0))) ∧ (w.heap.size ≤ s_) ∧ (w.heap.size ≤ s_) ∧ (gb261 ≠ s_) ∧ (s_ ≠ gb261) ∧ (gb262 ≠ s_) ∧ (s_ ≠ gb262) ∧ (gb263 ≠ s_) ∧ (s_ ≠ gb263) ∧ (Below w.heap.size w w')) ?_ ?_
                      rotate_left
                      · intro hJ10
                        refine three_ (i := 2) (j := 9) (k := 10) (Ni := some 12) (Nj := some 6) (Nk := some 7) #[Yy,Yy,Yy,Yy,Zz,Zz,Zz,Zz,Zz,Zz,Zz,Zz,Zz,Zz] #[Yy,Yy,Zz,Yy,Zz,Zz,Zz,Zz,Zz,Yy,Zz,Zz,Zz,Zz] #[Yy,Yy,Zz,Yy,Zz,Zz,Zz,Zz,Zz,Zz,Yy,Zz,Zz,Zz] rfl rfl rfl rfl rfl rfl (three_of HT_.1 (by kernel_rfl)) (by decide) (by decide) (by decide) (fun K hK => ?_) (fun K hK => ?_) (fun K hK => ?_)
                        · skip
                          refine goes_ Try.func80 (by kernel_rfl) rfl #[.agg #[.int .i64 a0_0, .int .i64 a0_1, .slice A0_2 l0_2.length c0_2]] (by rfl) rfl rfl (by (try simp only [List.map_toArray, List.map_cons, List.map_nil]); first | done | rfl | (simp only [List.length_drop, List.length_take]; rfl)) ?_
                          with_reducible refine (spec_ggGroups.calls k a0_0 a0_1 _ _ l0_2 t264 _ ?side1 ?side2 A3.1).mono ?_
                          (case side1 => exact CB (Kd.C_below HR0_2.1 HB.1))
                          (case side2 => exact HC0_2.1)
                          rintro e w9 ⟨v265, rfl, ho0, hb⟩
                          refine ⟨_, rfl, ?_⟩
                          refine E5 (Kd.R_lower ho0 (below_size (BL HB.1))) (bB BK261.1 hb) (bB BK262.1 hb) (bB BK263.1 hb) (below_step (BL HB.1) hb) ?_
                          clear BK261 BK262 BK263 HB
                          intro HO266 BK261 BK262 BK263 HB
                          (try clear hb)
                          (try clear hb2)
                          (try clear hk)
                          (try clear hi)
                          (try clear ho0)
                          refine hK.out _ _ ⟨(blk_cell BK261.1 0).trans rfl, (blk_cell BK261.1 1).trans rfl, (blk_cell BK261.1 2).trans rfl⟩ (fun hHeld => ?_)
                          clear hK K
                          refine norm_ (a' := ?_) ?_ ?_
                          rotate_left
                          · show Act.put _ (some 12) _ = _
                            simp only [Act.put, List.setIfInBounds_toArray, List.set_cons_zero, List.set_cons_succ, i64_w, i32_w]
                            rfl
                          exact norm_ (by first | (simp only [putAll, Act.put, List.setIfInBounds_toArray, List.set_cons_zero, List.set_cons_succ]; done) | (simp only [putAll, Act.put, List.setIfInBounds_toArray, List.set_cons_zero, List.set_cons_succ]; rfl)) (hJ2 (v265) _ ⟨hHeld, (PR HO266.1), (PB BK261.1), (PB BK262.1), (PB BK263.1), (BL HB.1)⟩)
                        · skip
                          refine box_step ?hg (N := 6) ?hd (cs := #[.int .i64 0, .int .i64 0, .int .i64 0]) (t := 54) ?hr ?_; (case hd => rfl); (case hg => rfl); (case hr => first | (go_simp; done) | (go_simp; rfl))
                          intro gb278 hg w9 hbox hb
                          refine E13 (bB BK261.1 hb) (bB BK262.1 hb) (bB BK263.1 hb) (below_step (BL HB.1) hb) (hbox) (gX HB.1 hg) (gX HB.1 hg) (nB BK261.1 hg) (nC BK261.1 hg) (nB BK262.1 hg) (nC BK262.1 hg) (nB BK263.1 hg) (nC BK263.1 hg) ?_
                          clear BK261 BK262 BK263 HB
                          intro BK261 BK262 BK263 HB BK278 GW278 GE278 NB261_278 NB278_261 NB262_278 NB278_262 NB263_278 NB278_263
                          clear hb hbox hg
                          refine hK.out _ _ ⟨(blk_cell BK261.1 0).trans rfl, (blk_cell BK261.1 1).trans rfl, (blk_cell BK261.1 2).trans rfl⟩ (fun hHeld => ?_)
                          clear hK K
                          refine norm_ (a' := ?_) ?_ ?_
                          rotate_left
                          · show Act.put _ (some 6) _ = _
                            simp only [Act.put, List.setIfInBounds_toArray, List.set_cons_zero, List.set_cons_succ, i64_w, i32_w]
                            rfl
                          exact norm_ (by first | (simp only [putAll, Act.put, List.setIfInBounds_toArray, List.set_cons_zero, List.set_cons_succ]; done) | (simp only [putAll, Act.put, List.setIfInBounds_toArray, List.set_cons_zero, List.set_cons_succ]; rfl)) (hJ9 (gb278) _ ⟨hHeld, (PB BK261.1), (PB BK262.1), (PB BK263.1), (PB BK278.1), GW278.1, GE278.1, NB261_278.1, NB278_261.1, NB262_278.1, NB278_262.1, NB263_278.1, NB278_263.1, (BL HB.1)⟩)
                        skip
                        refine box_step ?hg (N := 7) ?hd (cs := #[.int .i64 0, .int .i64 0, .slice none 0 0]) (t := 30) ?hr ?_; (case hd => rfl); (case hg => rfl); (case hr => first | (go_simp; done) | (go_simp; rfl))
                        intro gb279 hg w9 hbox hb
                        refine E13 (bB BK261.1 hb) (bB BK262.1 hb) (bB BK263.1 hb) (below_step (BL HB.1) hb) (hbox) (gX HB.1 hg) (gX HB.1 hg) (nB BK261.1 hg) (nC BK261.1 hg) (nB BK262.1 hg) (nC BK262.1 hg) (nB BK263.1 hg) (nC BK263.1 hg) ?_
                        clear BK261 BK262 BK263 HB
                        intro BK261 BK262 BK263 HB BK279 GW279 GE279 NB261_279 NB279_261 NB262_279 NB279_262 NB263_279 NB279_263
                        clear hb hbox hg
                        refine hK.out _ _ ⟨(blk_cell BK261.1 0).trans rfl, (blk_cell BK261.1 1).trans rfl, (blk_cell BK261.1 2).trans rfl⟩ (fun hHeld => ?_)
                        clear hK K
                        refine norm_ (a' := ?_) ?_ ?_
                        rotate_left
                        · show Act.put _ (some 7) _ = _
                          simp only [Act.put, List.setIfInBounds_toArray, List.set_cons_zero, List.set_cons_succ, i64_w, i32_w]
                          rfl
                        exact norm_ (by first | (simp only [putAll, Act.put, List.setIfInBounds_toArray, List.set_cons_zero, List.set_cons_succ]; done) | (simp only [putAll, Act.put, List.setIfInBounds_toArray, List.set_cons_zero, List.set_cons_succ]; rfl)) (hJ10 (gb279) _ ⟨hHeld, (PB BK261.1), (PB BK262.1), (PB BK263.1), (PB BK279.1), GW279.1, GE279.1, NB261_279.1, NB279_261.1, NB262_279.1, NB279_262.1, NB263_279.1, NB279_263.1, (BL HB.1)⟩)
                      skip
                      rintro gb279 w10 ⟨hS_, h0_, h1_, h2_, h3_, h4_, h5_, h6_, h7_, h8_, h9_, h10_, h11_, h12_⟩
                      have n0_ : Aside0 (w10.heap[gb261]? = some (.cells #[.int .i64 a0_0, .int .i64 a0_1, .slice A0_2 l0_2.length c0_2] 30 (0, 0))) := ⟨h0_⟩
                      have n1_ : Aside0 (w10.heap[gb262]? = some (.cells #[.int .i64 0, .int .i64 0, .int .i64 0] 54 (0, 0))) := ⟨h1_⟩
                      have n2_ : Aside0 (w10.heap[gb263]? = some (.cells #[.int .i64 0, .int .i64 0, .slice none 0 0] 30 (0, 0))) := ⟨h2_⟩
                      have n3_ : Aside0 (w10.heap[gb279]? = some (.cells #[.int .i64 0, .int .i64 0, .slice none 0 0] 30 (0, 0))) := ⟨h3_⟩
                      have n4_ : Aside0 (w.heap.size ≤ gb279) := ⟨h4_⟩
                      have n5_ : Aside0 (w.heap.size ≤ gb279) := ⟨h5_⟩
                      have n6_ : Aside0 (gb261 ≠ gb279) := ⟨h6_⟩
                      have n7_ : Aside0 (gb279 ≠ gb261) := ⟨h7_⟩
                      have n8_ : Aside0 (gb262 ≠ gb279) := ⟨h8_⟩
                      have n9_ : Aside0 (gb279 ≠ gb262) := ⟨h9_⟩
                      have n10_ : Aside0 (gb263 ≠ gb279) := ⟨h10_⟩
                      have n11_ : Aside0 (gb279 ≠ gb263) := ⟨h11_⟩
                      have n12_ : Aside0 (Below w.heap.size w w10) := ⟨h12_⟩
                      clear BK261
                      clear BK262
                      clear BK263
                      clear HB
                      clear h0_ h1_ h2_ h3_ h4_ h5_ h6_ h7_ h8_ h9_ h10_ h11_ h12_
                      have BK261 := n0_
                      have BK262 := n1_
                      have BK263 := n2_
                      have BK279 := n3_
                      have GW279 := n4_
                      have GE279 := n5_
                      have NB261_279 := n6_
                      have NB279_261 := n7_
                      have NB262_279 := n8_
                      have NB279_262 := n9_
                      have NB263_279 := n10_
                      have NB279_263 := n11_
                      have HB := n12_
                      clear n0_ n1_ n2_ n3_ n4_ n5_ n6_ n7_ n8_ n9_ n10_ n11_ n12_
                      have hHeld : w10.cell? ⟨gb261, 0, none⟩ = some (.int .i64 a0_0) ∧ w10.cell? ⟨gb261, 1, none⟩ = some (.int .i64 a0_1) ∧ w10.cell? ⟨gb261, 2, none⟩ = some (.slice A0_2 l0_2.length c0_2) := hS_
                      refine norm_ (a' := ?_) ?_ ?_
                      rotate_left
                      · simp only [putAll, Act.put, List.setIfInBounds_toArray, List.set_cons_zero, List.set_cons_succ]
                        rfl
                      refine two_ (i := 2) (j := 9) (Ni := some 12) (Nj := some 6) #[Yy,Yy,Yy,Yy,Zz,Zz,Zz,Zz,Zz,Zz,Yy,Zz,Zz,Zz] #[Yy,Yy,Zz,Yy,Zz,Zz,Zz,Zz,Zz,Yy,Yy,Zz,Zz,Zz] rfl rfl rfl rfl (two_of HT_.1 (by kernel_rfl)) (by decide) (by decide) (fun K hK => ?_) (fun K hK => ?_)
                      · skip
                        refine goes_ Try.func80 (by kernel_rfl) rfl #[.agg #[.int .i64 a0_0, .int .i64 a0_1, .slice A0_2 l0_2.length c0_2]] (by rfl) rfl rfl (by (try simp only [List.map_toArray, List.map_cons, List.map_nil]); first | done | rfl | (simp only [List.length_drop, List.length_take]; rfl)) ?_
                        with_reducible refine (spec_ggGroups.calls k a0_0 a0_1 _ _ l0_2 t264 _ ?side1 ?side2 A3.1).mono ?_
                        (case side1 => exact CB (Kd.C_below HR0_2.1 HB.1))
                        (case side2 => exact HC0_2.1)
                        rintro e w11 ⟨v265, rfl, ho0, hb⟩
                        refine ⟨_, rfl, ?_⟩
                        refine E6 (Kd.R_lower ho0 (below_size (BL HB.1))) (bB BK261.1 hb) (bB BK262.1 hb) (bB BK263.1 hb) (bB BK279.1 hb) (below_step (BL HB.1) hb) ?_
                        clear BK261 BK262 BK263 BK279 HB
                        intro HO266 BK261 BK262 BK263 BK279 HB
                        (try clear hb)
                        (try clear hb2)
                        (try clear hk)
                        (try clear hi)
                        (try clear ho0)
                        refine hK.out _ _ ⟨(blk_cell BK261.1 0).trans rfl, (blk_cell BK261.1 1).trans rfl, (blk_cell BK261.1 2).trans rfl⟩ (fun hHeld => ?_)
                        clear hK K
                        refine norm_ (a' := ?_) ?_ ?_
                        rotate_left
                        · show Act.put _ (some 12) _ = _
                          simp only [Act.put, List.setIfInBounds_toArray, List.set_cons_zero, List.set_cons_succ, i64_w, i32_w]
                          rfl
                        exact norm_ (by first | (simp only [putAll, Act.put, List.setIfInBounds_toArray, List.set_cons_zero, List.set_cons_succ]; done) | (simp only [putAll, Act.put, List.setIfInBounds_toArray, List.set_cons_zero, List.set_cons_succ]; rfl)) (hJ2_10 (v265, gb279) _ ⟨hHeld, (PR HO266.1), (PB BK261.1), (PB BK262.1), (PB BK263.1), (PB BK279.1), GW279.1, GE279.1, NB261_279.1, NB279_261.1, NB262_279.1, NB279_262.1, NB263_279.1, NB279_263.1, (BL HB.1)⟩)
                      skip
                      refine box_step ?hg (N := 6) ?hd (cs := #[.int .i64 0, .int .i64 0, .int .i64 0]) (t := 54) ?hr ?_; (case hd => rfl); (case hg => rfl); (case hr => first | (go_simp; done) | (go_simp; rfl))
                      intro gb278 hg w11 hbox hb
                      refine E16 (bB BK261.1 hb) (bB BK262.1 hb) (bB BK263.1 hb) (bB BK279.1 hb) (below_step (BL HB.1) hb) (hbox) (gX HB.1 hg) (gX HB.1 hg) (nB BK261.1 hg) (nC BK261.1 hg) (nB BK262.1 hg) (nC BK262.1 hg) (nB BK263.1 hg) (nC BK263.1 hg) (nB BK279.1 hg) (nC BK279.1 hg) ?_
                      clear BK261 BK262 BK263 BK279 HB
                      intro BK261 BK262 BK263 BK279 HB BK278 GW278 GE278 NB261_278 NB278_261 NB262_278 NB278_262 NB263_278 NB278_263 NB279_278 NB278_279
                      clear hb hbox hg
                      refine hK.out _ _ ⟨(blk_cell BK261.1 0).trans rfl, (blk_cell BK261.1 1).trans rfl, (blk_cell BK261.1 2).trans rfl⟩ (fun hHeld => ?_)
                      clear hK K
                      refine norm_ (a' := ?_) ?_ ?_
                      rotate_left
                      · show Act.put _ (some 6) _ = _
                        simp only [Act.put, List.setIfInBounds_toArray, List.set_cons_zero, List.set_cons_succ, i64_w, i32_w]
                        rfl
                      exact norm_ (by first | (simp only [putAll, Act.put, List.setIfInBounds_toArray, List.set_cons_zero, List.set_cons_succ]; done) | (simp only [putAll, Act.put, List.setIfInBounds_toArray, List.set_cons_zero, List.set_cons_succ]; rfl)) (hJ9_10 (gb278, gb279) _ ⟨hHeld, (PB BK261.1), (PB BK262.1), (PB BK263.1), (PB BK278.1), (PB BK279.1), GW278.1, GE278.1, NB261_278.1, NB278_261.1, NB262_278.1, NB278_262.1, NB263_278.1, NB278_263.1, NB279_278.1, NB278_279.1, GW279.1, GE279.1, NB261_279.1, NB279_261.1, NB262_279.1, NB279_262.1, NB263_279.1, NB279_263.1, (BL HB.1)⟩)
                    skip
                    rintro gb278 w10 ⟨hS_, h0_, h1_, h2_, h3_, h4_, h5_, h6_, h7_, h8_, h9_, h10_, h11_, h12_⟩
                    have n0_ : Aside0 (w10.heap[gb261]? = some (.cells #[.int .i64 a0_0, .int .i64 a0_1, .slice A0_2 l0_2.length c0_2] 30 (0, 0))) := ⟨h0_⟩
                    have n1_ : Aside0 (w10.heap[gb262]? = some (.cells #[.int .i64 0, .int .i64 0, .int .i64 0] 54 (0, 0))) := ⟨h1_⟩
                    have n2_ : Aside0 (w10.heap[gb263]? = some (.cells #[.int .i64 0, .int .i64 0, .slice none 0 0] 30 (0, 0))) := ⟨h2_⟩
                    have n3_ : Aside0 (w10.heap[gb278]? = some (.cells #[.int .i64 0, .int .i64 0, .int .i64 0] 54 (0, 0))) := ⟨h3_⟩
                    have n4_ : Aside0 (w.heap.size ≤ gb278) := ⟨h4_⟩
                    have n5_ : Aside0 (w.heap.size ≤ gb278) := ⟨h5_⟩
                    have n6_ : Aside0 (gb261 ≠ gb278) := ⟨h6_⟩
                    have n7_ : Aside0 (gb278 ≠ gb261) := ⟨h7_⟩
                    have n8_ : Aside0 (gb262 ≠ gb278) := ⟨h8_⟩
                    have n9_ : Aside0 (gb278 ≠ gb262) := ⟨h9_⟩
                    have n10_ : Aside0 (gb263 ≠ gb278) := ⟨h10_⟩
                    have n11_ : Aside0 (gb278 ≠ gb263) := ⟨h11_⟩
                    have n12_ : Aside0 (Below w.heap.size w w10) := ⟨h12_⟩
                    clear BK261
                    clear BK262
                    clear BK263
                    clear HB
                    clear h0_ h1_ h2_ h3_ h4_ h5_ h6_ h7_ h8_ h9_ h10_ h11_ h12_
                    have BK261 := n0_
                    have BK262 := n1_
                    have BK263 := n2_
                    have BK278 := n3_
                    have GW278 := n4_
                    have GE278 := n5_
                    have NB261_278 := n6_
                    have NB278_261 := n7_
                    have NB262_278 := n8_
                    have NB278_262 := n9_
                    have NB263_278 := n10_
                    have NB278_263 := n11_
                    have HB := n12_
                    clear n0_ n1_ n2_ n3_ n4_ n5_ n6_ n7_ n8_ n9_ n10_ n11_ n12_
                    have hHeld : w10.cell? ⟨gb261, 0, none⟩ = some (.int .i64 a0_0) ∧ w10.cell? ⟨gb261, 1, none⟩ = some (.int .i64 a0_1) ∧ w10.cell? ⟨gb261, 2, none⟩ = some (.slice A0_2 l0_2.length c0_2) := hS_
                    refine norm_ (a' := ?_) ?_ ?_
                    rotate_left
                    · simp only [putAll, Act.put, List.setIfInBounds_toArray, List.set_cons_zero, List.set_cons_succ]
                      rfl
                    refine two_ (i := 2) (j := 10) (Ni := some 12) (Nj := some 7) #[Yy,Yy,Yy,Yy,Zz,Zz,Zz,Zz,Zz,Yy,Zz,Zz,Zz,Zz] #[Yy,Yy,Zz,Yy,Zz,Zz,Zz,Zz,Zz,Yy,Yy,Zz,Zz,Zz] rfl rfl rfl rfl (two_of HT_.1 (by kernel_rfl)) (by decide) (by decide) (fun K hK => ?_) (fun K hK => ?_)
                    · skip
                      refine goes_ Try.func80 (by kernel_rfl) rfl #[.agg #[.int .i64 a0_0, .int .i64 a0_1, .slice A0_2 l0_2.length c0_2]] (by rfl) rfl rfl (by (try simp only [List.map_toArray, List.map_cons, List.map_nil]); first | done | rfl | (simp only [List.length_drop, List.length_take]; rfl)) ?_
                      with_reducible refine (spec_ggGroups.calls k a0_0 a0_1 _ _ l0_2 t264 _ ?side1 ?side2 A3.1).mono ?_
                      (case side1 => exact CB (Kd.C_below HR0_2.1 HB.1))
                      (case side2 => exact HC0_2.1)
                      rintro e w11 ⟨v265, rfl, ho0, hb⟩
                      refine ⟨_, rfl, ?_⟩
                      refine E6 (Kd.R_lower ho0 (below_size (BL HB.1))) (bB BK261.1 hb) (bB BK262.1 hb) (bB BK263.1 hb) (bB BK278.1 hb) (below_step (BL HB.1) hb) ?_
                      clear BK261 BK262 BK263 BK278 HB
                      intro HO266 BK261 BK262 BK263 BK278 HB
                      (try clear hb)
                      (try clear hb2)
                      (try clear hk)
                      (try clear hi)
                      (try clear ho0)
                      refine hK.out _ _ ⟨(blk_cell BK261.1 0).trans rfl, (blk_cell BK261.1 1).trans rfl, (blk_cell BK261.1 2).trans rfl⟩ (fun hHeld => ?_)
                      clear hK K
                      refine norm_ (a' := ?_) ?_ ?_
                      rotate_left
                      · show Act.put _ (some 12) _ = _
                        simp only [Act.put, List.setIfInBounds_toArray, List.set_cons_zero, List.set_cons_succ, i64_w, i32_w]
                        rfl
                      exact norm_ (by first | (simp only [putAll, Act.put, List.setIfInBounds_toArray, List.set_cons_zero, List.set_cons_succ]; done) | (simp only [putAll, Act.put, List.setIfInBounds_toArray, List.set_cons_zero, List.set_cons_succ]; rfl)) (hJ2_9 (v265, gb278) _ ⟨hHeld, (PR HO266.1), (PB BK261.1), (PB BK262.1), (PB BK263.1), (PB BK278.1), GW278.1, GE278.1, NB261_278.1, NB278_261.1, NB262_278.1, NB278_262.1, NB263_278.1, NB278_263.1, (BL HB.1)⟩)
                    skip
                    refine box_step ?hg (N := 7) ?hd (cs := #[.int .i64 0, .int .i64 0, .slice none 0 0]) (t := 30) ?hr ?_; (case hd => rfl); (case hg => rfl); (case hr => first | (go_simp; done) | (go_simp; rfl))
                    intro gb279 hg w11 hbox hb
                    refine E16 (bB BK261.1 hb) (bB BK262.1 hb) (bB BK263.1 hb) (bB BK278.1 hb) (below_step (BL HB.1) hb) (hbox) (gX HB.1 hg) (gX HB.1 hg) (nB BK261.1 hg) (nC BK261.1 hg) (nB BK262.1 hg) (nC BK262.1 hg) (nB BK263.1 hg) (nC BK263.1 hg) (nB BK278.1 hg) (nC BK278.1 hg) ?_
                    clear BK261 BK262 BK263 BK278 HB
                    intro BK261 BK262 BK263 BK278 HB BK279 GW279 GE279 NB261_279 NB279_261 NB262_279 NB279_262 NB263_279 NB279_263 NB278_279 NB279_278
                    clear hb hbox hg
                    refine hK.out _ _ ⟨(blk_cell BK261.1 0).trans rfl, (blk_cell BK261.1 1).trans rfl, (blk_cell BK261.1 2).trans rfl⟩ (fun hHeld => ?_)
                    clear hK K
                    refine norm_ (a' := ?_) ?_ ?_
                    rotate_left
                    · show Act.put _ (some 7) _ = _
                      simp only [Act.put, List.setIfInBounds_toArray, List.set_cons_zero, List.set_cons_succ, i64_w, i32_w]
                      rfl
                    exact norm_ (by first | (simp only [putAll, Act.put, List.setIfInBounds_toArray, List.set_cons_zero, List.set_cons_succ]; done) | (simp only [putAll, Act.put, List.setIfInBounds_toArray, List.set_cons_zero, List.set_cons_succ]; rfl)) (hJ9_10 (gb278, gb279) _ ⟨hHeld, (PB BK261.1), (PB BK262.1), (PB BK263.1), (PB BK278.1), (PB BK279.1), GW278.1, GE278.1, NB261_278.1, NB278_261.1, NB262_278.1, NB278_262.1, NB263_278.1, NB278_263.1, NB279_278.1, NB278_279.1, GW279.1, GE279.1, NB261_279.1, NB279_261.1, NB262_279.1, NB279_262.1, NB263_279.1, NB279_263.1, (BL HB.1)⟩)
                  skip
                  rintro v265 w10 ⟨hS_, h0_, h1_, h2_, h3_, h4_⟩
                  have n0_ : Aside0 (Kd.R (Kd.int .i64) 3 w10 w.heap.size (fun _ => True) v265 t264) := ⟨h0_⟩
                  have n1_ : Aside0 (w10.heap[gb261]? = some (.cells #[.int .i64 a0_0, .int .i64 a0_1, .slice A0_2 l0_2.length c0_2] 30 (0, 0))) := ⟨h1_⟩
                  have n2_ : Aside0 (w10.heap[gb262]? = some (.cells #[.int .i64 0, .int .i64 0, .int .i64 0] 54 (0, 0))) := ⟨h2_⟩
                  have n3_ : Aside0 (w10.heap[gb263]? = some (.cells #[.int .i64 0, .int .i64 0, .slice none 0 0] 30 (0, 0))) := ⟨h3_⟩
                  have n4_ : Aside0 (Below w.heap.size w w10) := ⟨h4_⟩
                  clear BK261
                  clear BK262
                  clear BK263
                  clear HB
                  clear h0_ h1_ h2_ h3_ h4_
                  have HO266 := n0_
                  have BK261 := n1_
                  have BK262 := n2_
                  have BK263 := n3_
                  have HB := n4_
                  clear n0_ n1_ n2_ n3_ n4_
                  have hHeld : w10.cell? ⟨gb261, 0, none⟩ = some (.int .i64 a0_0) ∧ w10.cell? ⟨gb261, 1, none⟩ = some (.int .i64 a0_1) ∧ w10.cell? ⟨gb261, 2, none⟩ = some (.slice A0_2 l0_2.length c0_2) := hS_
                  obtain ⟨Ao11, co11, eo11⟩ := Kd.R_slice HO266.1
                  (first | subst eo11 | (injection eo11 with f1_ f2_ f3_; have f4_ := f1_.symm; have f5_ := f3_.symm; clear f1_ f2_ f3_; subst f4_; subst f5_))
                  refine norm_ (a' := ?_) ?_ ?_
                  rotate_left
                  · simp only [putAll, Act.put, List.setIfInBounds_toArray, List.set_cons_zero, List.set_cons_succ]
                    rfl
                  refine three_ (i := 4) (j := 9) (k := 10) (Ni := some 14) (Nj := some 6) (Nk := some 7) #[Yy,Yy,Yy,Yy,Yy,Zz,Zz,Zz,Zz,Zz,Zz,Zz,Zz,Zz] #[Yy,Yy,Yy,Yy,Zz,Zz,Zz,Zz,Zz,Yy,Zz,Zz,Zz,Zz] #[Yy,Yy,Yy,Yy,Zz,Zz,Zz,Zz,Zz,Zz,Yy,Zz,Zz,Zz] rfl rfl rfl rfl rfl rfl (three_of HT_.1 (by kernel_rfl)) (by decide) (by decide) (by decide) (fun K hK => ?_) (fun K hK => ?_) (fun K hK => ?_)
                  · skip
                    refine goes_ Try.func84 (by kernel_rfl) rfl #[.agg #[.int .i64 a0_0, .int .i64 a0_1, .slice A0_2 l0_2.length c0_2], .slice Ao11 t264.length co11, .int .i64 a1] (by rfl) rfl rfl (by (try simp only [List.map_toArray, List.map_cons, List.map_nil]); first | done | rfl | (simp only [List.length_drop, List.length_take]; rfl)) ?_
                    with_reducible refine (spec_flGo.calls k a0_0 a0_1 _ _ l0_2 _ _ t264 a1 t267 t268 t269 t270 t271 t272 t275 _ ?side1 ?side2 ?side3 ?side4 A4.1).mono ?_
                    (case side1 => exact CB (Kd.C_below HR0_2.1 HB.1))
                    (case side2 => exact HC0_2.1)
                    (case side3 => exact CB (Kd.R_reads' HO266.1).2.2)
                    (case side4 => exact (Kd.R_reads' HO266.1).2.1)
                    rintro e w12 ⟨v273, v276, rfl, ho0, ho1, hb⟩
                    refine ⟨_, rfl, ?_⟩
                    refine E7 (Kd.R_below (PR HO266.1) hb) (Kd.R_lower ho0 (below_size (BL HB.1))) (Kd.S_lower (Kd.S_new' ho1 (Kd.R_lt (PR HO266.1))) (below_size (BL HB.1))) (bB BK261.1 hb) (bB BK262.1 hb) (bB BK263.1 hb) (below_step (BL HB.1) hb) ?_
                    clear HO266 BK261 BK262 BK263 HB
                    intro HO266 HO274 HO277 BK261 BK262 BK263 HB
                    (try clear hb)
                    (try clear hb2)
                    (try clear hk)
                    (try clear hi)
                    (try clear ho0)
                    (try clear ho1)
                    refine hK.out _ _ ⟨(blk_cell BK261.1 0).trans rfl, (blk_cell BK261.1 1).trans rfl, (blk_cell BK261.1 2).trans rfl⟩ (fun hHeld => ?_)
                    clear hK K
                    refine norm_ (a' := ?_) ?_ ?_
                    rotate_left
                    · show Act.put _ (some 14) _ = _
                      simp only [Act.put, List.setIfInBounds_toArray, List.set_cons_zero, List.set_cons_succ, i64_w, i32_w]
                      rfl
                    refine pureE (i := 5) (N := some 9) #[Yy,Yy,Yy,Yy,Yy,Yy,Zz,Zz,Zz,Zz,Zz,Zz,Zz,Zz] HT_.1 ?_
                    refine pureE (i := 6) (N := some 15) #[Yy,Yy,Yy,Yy,Yy,Yy,Yy,Zz,Zz,Zz,Zz,Zz,Zz,Zz] HT_.1 ?_
                    refine pureE (i := 7) (N := some 16) #[Yy,Yy,Yy,Yy,Yy,Yy,Yy,Yy,Zz,Zz,Zz,Zz,Zz,Zz] HT_.1 ?_
                    refine pureE (i := 8) (N := some 17) #[Yy,Yy,Yy,Yy,Yy,Yy,Yy,Yy,Yy,Zz,Zz,Zz,Zz,Zz] HT_.1 ?_
                    exact norm_ (by first | (simp only [putAll, Act.put, List.setIfInBounds_toArray, List.set_cons_zero, List.set_cons_succ]; done) | (simp only [putAll, Act.put, List.setIfInBounds_toArray, List.set_cons_zero, List.set_cons_succ]; rfl)) (hJ2_4 (.slice Ao11 t264.length co11, v273, v276) _ ⟨hHeld, (PR HO266.1), (PR HO274.1), (by (with_reducible repeat (first | apply Kd.S_alloc | apply Kd.S_drewN | apply Kd.S_drew)); exact Kd.S_mono HO277.1 (fun _ hk => hk.2)), (PB BK261.1), (PB BK262.1), (PB BK263.1), (BL HB.1)⟩)
                  · skip
                    refine box_step ?hg (N := 6) ?hd (cs := #[.int .i64 0, .int .i64 0, .int .i64 0]) (t := 54) ?hr ?_; (case hd => rfl); (case hg => rfl); (case hr => first | (go_simp; done) | (go_simp; rfl))
                    intro gb278 hg w11 hbox hb
                    refine E14 (Kd.R_below (PR HO266.1) hb) (bB BK261.1 hb) (bB BK262.1 hb) (bB BK263.1 hb) (below_step (BL HB.1) hb) (hbox) (gX HB.1 hg) (gX HB.1 hg) (nB BK261.1 hg) (nC BK261.1 hg) (nB BK262.1 hg) (nC BK262.1 hg) (nB BK263.1 hg) (nC BK263.1 hg) ?_
                    clear HO266 BK261 BK262 BK263 HB
                    intro HO266 BK261 BK262 BK263 HB BK278 GW278 GE278 NB261_278 NB278_261 NB262_278 NB278_262 NB263_278 NB278_263
                    clear hb hbox hg
                    refine hK.out _ _ ⟨(blk_cell BK261.1 0).trans rfl, (blk_cell BK261.1 1).trans rfl, (blk_cell BK261.1 2).trans rfl⟩ (fun hHeld => ?_)
                    clear hK K
                    refine norm_ (a' := ?_) ?_ ?_
                    rotate_left
                    · show Act.put _ (some 6) _ = _
                      simp only [Act.put, List.setIfInBounds_toArray, List.set_cons_zero, List.set_cons_succ, i64_w, i32_w]
                      rfl
                    exact norm_ (by first | (simp only [putAll, Act.put, List.setIfInBounds_toArray, List.set_cons_zero, List.set_cons_succ]; done) | (simp only [putAll, Act.put, List.setIfInBounds_toArray, List.set_cons_zero, List.set_cons_succ]; rfl)) (hJ2_9 ((.slice Ao11 t264.length co11), gb278) _ ⟨hHeld, (PR HO266.1), (PB BK261.1), (PB BK262.1), (PB BK263.1), (PB BK278.1), GW278.1, GE278.1, NB261_278.1, NB278_261.1, NB262_278.1, NB278_262.1, NB263_278.1, NB278_263.1, (BL HB.1)⟩)
                  skip
                  refine box_step ?hg (N := 7) ?hd (cs := #[.int .i64 0, .int .i64 0, .slice none 0 0]) (t := 30) ?hr ?_; (case hd => rfl); (case hg => rfl); (case hr => first | (go_simp; done) | (go_simp; rfl))
                  intro gb279 hg w11 hbox hb
                  refine E14 (Kd.R_below (PR HO266.1) hb) (bB BK261.1 hb) (bB BK262.1 hb) (bB BK263.1 hb) (below_step (BL HB.1) hb) (hbox) (gX HB.1 hg) (gX HB.1 hg) (nB BK261.1 hg) (nC BK261.1 hg) (nB BK262.1 hg) (nC BK262.1 hg) (nB BK263.1 hg) (nC BK263.1 hg) ?_
                  clear HO266 BK261 BK262 BK263 HB
                  intro HO266 BK261 BK262 BK263 HB BK279 GW279 GE279 NB261_279 NB279_261 NB262_279 NB279_262 NB263_279 NB279_263
                  clear hb hbox hg
                  refine hK.out _ _ ⟨(blk_cell BK261.1 0).trans rfl, (blk_cell BK261.1 1).trans rfl, (blk_cell BK261.1 2).trans rfl⟩ (fun hHeld => ?_)
                  clear hK K
                  refine norm_ (a' := ?_) ?_ ?_
                  rotate_left
                  · show Act.put _ (some 7) _ = _
                    simp only [Act.put, List.setIfInBounds_toArray, List.set_cons_zero, List.set_cons_succ, i64_w, i32_w]
                    rfl
                  exact norm_ (by first | (simp only [putAll, Act.put, List.setIfInBounds_toArray, List.set_cons_zero, List.set_cons_succ]; done) | (simp only [putAll, Act.put, List.setIfInBounds_toArray, List.set_cons_zero, List.set_cons_succ]; rfl)) (hJ2_10 ((.slice Ao11 t264.length co11), gb279) _ ⟨hHeld, (PR HO266.1), (PB BK261.1), (PB BK262.1), (PB BK263.1), (PB BK279.1), GW279.1, GE279.1, NB261_279.1, NB279_261.1, NB262_279.1, NB279_262.1, NB263_279.1, NB279_263.1, (BL HB.1)⟩)
                skip
                rintro ⟨gb278, gb279⟩ w11 ⟨hS_, h0_, h1_, h2_, h3_, h4_, h5_, h6_, h7_, h8_, h9_, h10_, h11_, h12_, h13_, h14_, h15_, h16_, h17_, h18_, h19_, h20_, h21_, h22_, h23_⟩
                have n0_ : Aside0 (w11.heap[gb261]? = some (.cells #[.int .i64 a0_0, .int .i64 a0_1, .slice A0_2 l0_2.length c0_2] 30 (0, 0))) := ⟨h0_⟩
                have n1_ : Aside0 (w11.heap[gb262]? = some (.cells #[.int .i64 0, .int .i64 0, .int .i64 0] 54 (0, 0))) := ⟨h1_⟩
                have n2_ : Aside0 (w11.heap[gb263]? = some (.cells #[.int .i64 0, .int .i64 0, .slice none 0 0] 30 (0, 0))) := ⟨h2_⟩
                have n3_ : Aside0 (w11.heap[gb278]? = some (.cells #[.int .i64 0, .int .i64 0, .int .i64 0] 54 (0, 0))) := ⟨h3_⟩
                have n4_ : Aside0 (w11.heap[gb279]? = some (.cells #[.int .i64 0, .int .i64 0, .slice none 0 0] 30 (0, 0))) := ⟨h4_⟩
                have n5_ : Aside0 (w.heap.size ≤ gb278) := ⟨h5_⟩
                have n6_ : Aside0 (w.heap.size ≤ gb278) := ⟨h6_⟩
                have n7_ : Aside0 (gb261 ≠ gb278) := ⟨h7_⟩
                have n8_ : Aside0 (gb278 ≠ gb261) := ⟨h8_⟩
                have n9_ : Aside0 (gb262 ≠ gb278) := ⟨h9_⟩
                have n10_ : Aside0 (gb278 ≠ gb262) := ⟨h10_⟩
                have n11_ : Aside0 (gb263 ≠ gb278) := ⟨h11_⟩
                have n12_ : Aside0 (gb278 ≠ gb263) := ⟨h12_⟩
                have n13_ : Aside0 (gb279 ≠ gb278) := ⟨h13_⟩
                have n14_ : Aside0 (gb278 ≠ gb279) := ⟨h14_⟩
                have n15_ : Aside0 (w.heap.size ≤ gb279) := ⟨h15_⟩
                have n16_ : Aside0 (w.heap.size ≤ gb279) := ⟨h16_⟩
                have n17_ : Aside0 (gb261 ≠ gb279) := ⟨h17_⟩
                have n18_ : Aside0 (gb279 ≠ gb261) := ⟨h18_⟩
                have n19_ : Aside0 (gb262 ≠ gb279) := ⟨h19_⟩
                have n20_ : Aside0 (gb279 ≠ gb262) := ⟨h20_⟩
                have n21_ : Aside0 (gb263 ≠ gb279) := ⟨h21_⟩
                have n22_ : Aside0 (gb279 ≠ gb263) := ⟨h22_⟩
                have n23_ : Aside0 (Below w.heap.size w w11) := ⟨h23_⟩
                clear BK261
                clear BK262
                clear BK263
                clear HB
                clear h0_ h1_ h2_ h3_ h4_ h5_ h6_ h7_ h8_ h9_ h10_ h11_ h12_ h13_ h14_ h15_ h16_ h17_ h18_ h19_ h20_ h21_ h22_ h23_
                have BK261 := n0_
                have BK262 := n1_
                have BK263 := n2_
                have BK278 := n3_
                have BK279 := n4_
                have GW278 := n5_
                have GE278 := n6_
                have NB261_278 := n7_
                have NB278_261 := n8_
                have NB262_278 := n9_
                have NB278_262 := n10_
                have NB263_278 := n11_
                have NB278_263 := n12_
                have NB279_278 := n13_
                have NB278_279 := n14_
                have GW279 := n15_
                have GE279 := n16_
                have NB261_279 := n17_
                have NB279_261 := n18_
                have NB262_279 := n19_
                have NB279_262 := n20_
                have NB263_279 := n21_
                have NB279_263 := n22_
                have HB := n23_
                clear n0_ n1_ n2_ n3_ n4_ n5_ n6_ n7_ n8_ n9_ n10_ n11_ n12_ n13_ n14_ n15_ n16_ n17_ n18_ n19_ n20_ n21_ n22_ n23_
                have hHeld : w11.cell? ⟨gb261, 0, none⟩ = some (.int .i64 a0_0) ∧ w11.cell? ⟨gb261, 1, none⟩ = some (.int .i64 a0_1) ∧ w11.cell? ⟨gb261, 2, none⟩ = some (.slice A0_2 l0_2.length c0_2) := hS_
                refine norm_ (a' := ?_) ?_ ?_
                rotate_left
                · simp only [putAll, Act.put, List.setIfInBounds_toArray, List.set_cons_zero, List.set_cons_succ]
                  rfl
                refine one_ (i := 2) (N := some 12) #[Yy,Yy,Yy,Yy,Zz,Zz,Zz,Zz,Zz,Yy,Yy,Zz,Zz,Zz] rfl rfl (one_of HT_.1 (by kernel_rfl)) (by decide) (fun K hK => ?_)
                refine goes_ Try.func80 (by kernel_rfl) rfl #[.agg #[.int .i64 a0_0, .int .i64 a0_1, .slice A0_2 l0_2.length c0_2]] (by rfl) rfl rfl (by (try simp only [List.map_toArray, List.map_cons, List.map_nil]); first | done | rfl | (simp only [List.length_drop, List.length_take]; rfl)) ?_
                with_reducible refine (spec_ggGroups.calls k a0_0 a0_1 _ _ l0_2 t264 _ ?side1 ?side2 A3.1).mono ?_
                (case side1 => exact CB (Kd.C_below HR0_2.1 HB.1))
                (case side2 => exact HC0_2.1)
                rintro e w12 ⟨v265, rfl, ho0, hb⟩
                refine ⟨_, rfl, ?_⟩
                refine E7 (Kd.R_lower ho0 (below_size (BL HB.1))) (bB BK261.1 hb) (bB BK262.1 hb) (bB BK263.1 hb) (bB BK278.1 hb) (bB BK279.1 hb) (below_step (BL HB.1) hb) ?_
                clear BK261 BK262 BK263 BK278 BK279 HB
                intro HO266 BK261 BK262 BK263 BK278 BK279 HB
                (try clear hb)
                (try clear hb2)
                (try clear hk)
                (try clear hi)
                (try clear ho0)
                refine hK.out _ _ ⟨(blk_cell BK261.1 0).trans rfl, (blk_cell BK261.1 1).trans rfl, (blk_cell BK261.1 2).trans rfl⟩ (fun hHeld => ?_)
                clear hK K
                refine norm_ (a' := ?_) ?_ ?_
                rotate_left
                · show Act.put _ (some 12) _ = _
                  simp only [Act.put, List.setIfInBounds_toArray, List.set_cons_zero, List.set_cons_succ, i64_w, i32_w]
                  rfl
                exact norm_ (by first | (simp only [putAll, Act.put, List.setIfInBounds_toArray, List.set_cons_zero, List.set_cons_succ]; done) | (simp only [putAll, Act.put, List.setIfInBounds_toArray, List.set_cons_zero, List.set_cons_succ]; rfl)) (hJ2_9_10 (v265, gb278, gb279) _ ⟨hHeld, (PR HO266.1), (PB BK261.1), (PB BK262.1), (PB BK263.1), (PB BK278.1), (PB BK279.1), GW278.1, GE278.1, NB261_278.1, NB278_261.1, NB262_278.1, NB278_262.1, NB263_278.1, NB278_263.1, NB279_278.1, NB278_279.1, GW279.1, GE279.1, NB261_279.1, NB279_261.1, NB262_279.1, NB279_262.1, NB263_279.1, NB279_263.1, (BL HB.1)⟩)
              skip
              rintro ⟨v265, gb279⟩ w11 ⟨hS_, h0_, h1_, h2_, h3_, h4_, h5_, h6_, h7_, h8_, h9_, h10_, h11_, h12_, h13_⟩
              have n0_ : Aside0 (Kd.R (Kd.int .i64) 3 w11 w.heap.size (fun _ => True) v265 t264) := ⟨h0_⟩
              have n1_ : Aside0 (w11.heap[gb261]? = some (.cells #[.int .i64 a0_0, .int .i64 a0_1, .slice A0_2 l0_2.length c0_2] 30 (0, 0))) := ⟨h1_⟩
              have n2_ : Aside0 (w11.heap[gb262]? = some (.cells #[.int .i64 0, .int .i64 0, .int .i64 0] 54 (0, 0))) := ⟨h2_⟩
              have n3_ : Aside0 (w11.heap[gb263]? = some (.cells #[.int .i64 0, .int .i64 0, .slice none 0 0] 30 (0, 0))) := ⟨h3_⟩
              have n4_ : Aside0 (w11.heap[gb279]? = some (.cells #[.int .i64 0, .int .i64 0, .slice none 0 0] 30 (0, 0))) := ⟨h4_⟩
              have n5_ : Aside0 (w.heap.size ≤ gb279) := ⟨h5_⟩
              have n6_ : Aside0 (w.heap.size ≤ gb279) := ⟨h6_⟩
              have n7_ : Aside0 (gb261 ≠ gb279) := ⟨h7_⟩
              have n8_ : Aside0 (gb279 ≠ gb261) := ⟨h8_⟩
              have n9_ : Aside0 (gb262 ≠ gb279) := ⟨h9_⟩
              have n10_ : Aside0 (gb279 ≠ gb262) := ⟨h10_⟩
              have n11_ : Aside0 (gb263 ≠ gb279) := ⟨h11_⟩
              have n12_ : Aside0 (gb279 ≠ gb263) := ⟨h12_⟩
              have n13_ : Aside0 (Below w.heap.size w w11) := ⟨h13_⟩
              clear BK261
              clear BK262
              clear BK263
              clear HB
              clear h0_ h1_ h2_ h3_ h4_ h5_ h6_ h7_ h8_ h9_ h10_ h11_ h12_ h13_
              have HO266 := n0_
              have BK261 := n1_
              have BK262 := n2_
              have BK263 := n3_
              have BK279 := n4_
              have GW279 := n5_
              have GE279 := n6_
              have NB261_279 := n7_
              have NB279_261 := n8_
              have NB262_279 := n9_
              have NB279_262 := n10_
              have NB263_279 := n11_
              have NB279_263 := n12_
              have HB := n13_
              clear n0_ n1_ n2_ n3_ n4_ n5_ n6_ n7_ n8_ n9_ n10_ n11_ n12_ n13_
              have hHeld : w11.cell? ⟨gb261, 0, none⟩ = some (.int .i64 a0_0) ∧ w11.cell? ⟨gb261, 1, none⟩ = some (.int .i64 a0_1) ∧ w11.cell? ⟨gb261, 2, none⟩ = some (.slice A0_2 l0_2.length c0_2) := hS_
              obtain ⟨Ao12, co12, eo12⟩ := Kd.R_slice HO266.1
              (first | subst eo12 | (injection eo12 with f1_ f2_ f3_; have f4_ := f1_.symm; have f5_ := f3_.symm; clear f1_ f2_ f3_; subst f4_; subst f5_))
              refine norm_ (a' := ?_) ?_ ?_
              rotate_left
              · simp only [putAll, Act.put, List.setIfInBounds_toArray, List.set_cons_zero, List.set_cons_succ]
                rfl
              refine two_ (i := 4) (j := 9) (Ni := some 14) (Nj := some 6) #[Yy,Yy,Yy,Yy,Yy,Zz,Zz,Zz,Zz,Zz,Yy,Zz,Zz,Zz] #[Yy,Yy,Yy,Yy,Zz,Zz,Zz,Zz,Zz,Yy,Yy,Zz,Zz,Zz] rfl rfl rfl rfl (two_of HT_.1 (by kernel_rfl)) (by decide) (by decide) (fun K hK => ?_) (fun K hK => ?_)
              · skip
                refine goes_ Try.func84 (by kernel_rfl) rfl #[.agg #[.int .i64 a0_0, .int .i64 a0_1, .slice A0_2 l0_2.length c0_2], .slice Ao12 t264.length co12, .int .i64 a1] (by rfl) rfl rfl (by (try simp only [List.map_toArray, List.map_cons, List.map_nil]); first | done | rfl | (simp only [List.length_drop, List.length_take]; rfl)) ?_
                with_reducible refine (spec_flGo.calls k a0_0 a0_1 _ _ l0_2 _ _ t264 a1 t267 t268 t269 t270 t271 t272 t275 _ ?side1 ?side2 ?side3 ?side4 A4.1).mono ?_
                (case side1 => exact CB (Kd.C_below HR0_2.1 HB.1))
                (case side2 => exact HC0_2.1)
                (case side3 => exact CB (Kd.R_reads' HO266.1).2.2)
                (case side4 => exact (Kd.R_reads' HO266.1).2.1)
                rintro e w13 ⟨v273, v276, rfl, ho0, ho1, hb⟩
                refine ⟨_, rfl, ?_⟩
                refine E8 (Kd.R_below (PR HO266.1) hb) (Kd.R_lower ho0 (below_size (BL HB.1))) (Kd.S_lower (Kd.S_new' ho1 (Kd.R_lt (PR HO266.1))) (below_size (BL HB.1))) (bB BK261.1 hb) (bB BK262.1 hb) (bB BK263.1 hb) (bB BK279.1 hb) (below_step (BL HB.1) hb) ?_
                clear HO266 BK261 BK262 BK263 BK279 HB
                intro HO266 HO274 HO277 BK261 BK262 BK263 BK279 HB
                (try clear hb)
                (try clear hb2)
                (try clear hk)
                (try clear hi)
                (try clear ho0)
                (try clear ho1)
                refine hK.out _ _ ⟨(blk_cell BK261.1 0).trans rfl, (blk_cell BK261.1 1).trans rfl, (blk_cell BK261.1 2).trans rfl⟩ (fun hHeld => ?_)
                clear hK K
                refine norm_ (a' := ?_) ?_ ?_
                rotate_left
                · show Act.put _ (some 14) _ = _
                  simp only [Act.put, List.setIfInBounds_toArray, List.set_cons_zero, List.set_cons_succ, i64_w, i32_w]
                  rfl
                refine pureE (i := 5) (N := some 9) #[Yy,Yy,Yy,Yy,Yy,Yy,Zz,Zz,Zz,Zz,Yy,Zz,Zz,Zz] HT_.1 ?_
                refine pureE (i := 6) (N := some 15) #[Yy,Yy,Yy,Yy,Yy,Yy,Yy,Zz,Zz,Zz,Yy,Zz,Zz,Zz] HT_.1 ?_
                refine pureE (i := 7) (N := some 16) #[Yy,Yy,Yy,Yy,Yy,Yy,Yy,Yy,Zz,Zz,Yy,Zz,Zz,Zz] HT_.1 ?_
                refine pureE (i := 8) (N := some 17) #[Yy,Yy,Yy,Yy,Yy,Yy,Yy,Yy,Yy,Zz,Yy,Zz,Zz,Zz] HT_.1 ?_
                exact norm_ (by first | (simp only [putAll, Act.put, List.setIfInBounds_toArray, List.set_cons_zero, List.set_cons_succ]; done) | (simp only [putAll, Act.put, List.setIfInBounds_toArray, List.set_cons_zero, List.set_cons_succ]; rfl)) (hJ2_4_10 (.slice Ao12 t264.length co12, v273, v276, gb279) _ ⟨hHeld, (PR HO266.1), (PR HO274.1), (by (with_reducible repeat (first | apply Kd.S_alloc | apply Kd.S_drewN | apply Kd.S_drew)); exact Kd.S_mono HO277.1 (fun _ hk => hk.2)), (PB BK261.1), (PB BK262.1), (PB BK263.1), (PB BK279.1), GW279.1, GE279.1, NB261_279.1, NB279_261.1, NB262_279.1, NB279_262.1, NB263_279.1, NB279_263.1, (BL HB.1)⟩)
              skip
              refine box_step ?hg (N := 6) ?hd (cs := #[.int .i64 0, .int .i64 0, .int .i64 0]) (t := 54) ?hr ?_; (case hd => rfl); (case hg => rfl); (case hr => first | (go_simp; done) | (go_simp; rfl))
              intro gb278 hg w12 hbox hb
              refine E17 (Kd.R_below (PR HO266.1) hb) (bB BK261.1 hb) (bB BK262.1 hb) (bB BK263.1 hb) (bB BK279.1 hb) (below_step (BL HB.1) hb) (hbox) (gX HB.1 hg) (gX HB.1 hg) (nB BK261.1 hg) (nC BK261.1 hg) (nB BK262.1 hg) (nC BK262.1 hg) (nB BK263.1 hg) (nC BK263.1 hg) (nB BK279.1 hg) (nC BK279.1 hg) ?_
              clear HO266 BK261 BK262 BK263 BK279 HB
              intro HO266 BK261 BK262 BK263 BK279 HB BK278 GW278 GE278 NB261_278 NB278_261 NB262_278 NB278_262 NB263_278 NB278_263 NB279_278 NB278_279
              clear hb hbox hg
              refine hK.out _ _ ⟨(blk_cell BK261.1 0).trans rfl, (blk_cell BK261.1 1).trans rfl, (blk_cell BK261.1 2).trans rfl⟩ (fun hHeld => ?_)
              clear hK K
              refine norm_ (a' := ?_) ?_ ?_
              rotate_left
              · show Act.put _ (some 6) _ = _
                simp only [Act.put, List.setIfInBounds_toArray, List.set_cons_zero, List.set_cons_succ, i64_w, i32_w]
                rfl
              exact norm_ (by first | (simp only [putAll, Act.put, List.setIfInBounds_toArray, List.set_cons_zero, List.set_cons_succ]; done) | (simp only [putAll, Act.put, List.setIfInBounds_toArray, List.set_cons_zero, List.set_cons_succ]; rfl)) (hJ2_9_10 ((.slice Ao12 t264.length co12), gb278, gb279) _ ⟨hHeld, (PR HO266.1), (PB BK261.1), (PB BK262.1), (PB BK263.1), (PB BK278.1), (PB BK279.1), GW278.1, GE278.1, NB261_278.1, NB278_261.1, NB262_278.1, NB278_262.1, NB263_278.1, NB278_263.1, NB279_278.1, NB278_279.1, GW279.1, GE279.1, NB261_279.1, NB279_261.1, NB262_279.1, NB279_262.1, NB263_279.1, NB279_263.1, (BL HB.1)⟩)
            skip
            rintro ⟨v265, gb278⟩ w11 ⟨hS_, h0_, h1_, h2_, h3_, h4_, h5_, h6_, h7_, h8_, h9_, h10_, h11_, h12_, h13_⟩
            have n0_ : Aside0 (Kd.R (Kd.int .i64) 3 w11 w.heap.size (fun _ => True) v265 t264) := ⟨h0_⟩
            have n1_ : Aside0 (w11.heap[gb261]? = some (.cells #[.int .i64 a0_0, .int .i64 a0_1, .slice A0_2 l0_2.length c0_2] 30 (0, 0))) := ⟨h1_⟩
            have n2_ : Aside0 (w11.heap[gb262]? = some (.cells #[.int .i64 0, .int .i64 0, .int .i64 0] 54 (0, 0))) := ⟨h2_⟩
            have n3_ : Aside0 (w11.heap[gb263]? = some (.cells #[.int .i64 0, .int .i64 0, .slice none 0 0] 30 (0, 0))) := ⟨h3_⟩
            have n4_ : Aside0 (w11.heap[gb278]? = some (.cells #[.int .i64 0, .int .i64 0, .int .i64 0] 54 (0, 0))) := ⟨h4_⟩
            have n5_ : Aside0 (w.heap.size ≤ gb278) := ⟨h5_⟩
            have n6_ : Aside0 (w.heap.size ≤ gb278) := ⟨h6_⟩
            have n7_ : Aside0 (gb261 ≠ gb278) := ⟨h7_⟩
            have n8_ : Aside0 (gb278 ≠ gb261) := ⟨h8_⟩
            have n9_ : Aside0 (gb262 ≠ gb278) := ⟨h9_⟩
            have n10_ : Aside0 (gb278 ≠ gb262) := ⟨h10_⟩
            have n11_ : Aside0 (gb263 ≠ gb278) := ⟨h11_⟩
            have n12_ : Aside0 (gb278 ≠ gb263) := ⟨h12_⟩
            have n13_ : Aside0 (Below w.heap.size w w11) := ⟨h13_⟩
            clear BK261
            clear BK262
            clear BK263
            clear HB
            clear h0_ h1_ h2_ h3_ h4_ h5_ h6_ h7_ h8_ h9_ h10_ h11_ h12_ h13_
            have HO266 := n0_
            have BK261 := n1_
            have BK262 := n2_
            have BK263 := n3_
            have BK278 := n4_
            have GW278 := n5_
            have GE278 := n6_
            have NB261_278 := n7_
            have NB278_261 := n8_
            have NB262_278 := n9_
            have NB278_262 := n10_
            have NB263_278 := n11_
            have NB278_263 := n12_
            have HB := n13_
            clear n0_ n1_ n2_ n3_ n4_ n5_ n6_ n7_ n8_ n9_ n10_ n11_ n12_ n13_
            have hHeld : w11.cell? ⟨gb261, 0, none⟩ = some (.int .i64 a0_0) ∧ w11.cell? ⟨gb261, 1, none⟩ = some (.int .i64 a0_1) ∧ w11.cell? ⟨gb261, 2, none⟩ = some (.slice A0_2 l0_2.length c0_2) := hS_
            obtain ⟨Ao12, co12, eo12⟩ := Kd.R_slice HO266.1
            (first | subst eo12 | (injection eo12 with f1_ f2_ f3_; have f4_ := f1_.symm; have f5_ := f3_.symm; clear f1_ f2_ f3_; subst f4_; subst f5_))
            refine norm_ (a' := ?_) ?_ ?_
            rotate_left
            · simp only [putAll, Act.put, List.setIfInBounds_toArray, List.set_cons_zero, List.set_cons_succ]
              rfl
            refine two_ (i := 4) (j := 10) (Ni := some 14) (Nj := some 7) #[Yy,Yy,Yy,Yy,Yy,Zz,Zz,Zz,Zz,Yy,Zz,Zz,Zz,Zz] #[Yy,Yy,Yy,Yy,Zz,Zz,Zz,Zz,Zz,Yy,Yy,Zz,Zz,Zz] rfl rfl rfl rfl (two_of HT_.1 (by kernel_rfl)) (by decide) (by decide) (fun K hK => ?_) (fun K hK => ?_)
            · skip
              refine goes_ Try.func84 (by kernel_rfl) rfl #[.agg #[.int .i64 a0_0, .int .i64 a0_1, .slice A0_2 l0_2.length c0_2], .slice Ao12 t264.length co12, .int .i64 a1] (by rfl) rfl rfl (by (try simp only [List.map_toArray, List.map_cons, List.map_nil]); first | done | rfl | (simp only [List.length_drop, List.length_take]; rfl)) ?_
              with_reducible refine (spec_flGo.calls k a0_0 a0_1 _ _ l0_2 _ _ t264 a1 t267 t268 t269 t270 t271 t272 t275 _ ?side1 ?side2 ?side3 ?side4 A4.1).mono ?_
              (case side1 => exact CB (Kd.C_below HR0_2.1 HB.1))
              (case side2 => exact HC0_2.1)
              (case side3 => exact CB (Kd.R_reads' HO266.1).2.2)
              (case side4 => exact (Kd.R_reads' HO266.1).2.1)
              rintro e w13 ⟨v273, v276, rfl, ho0, ho1, hb⟩
              refine ⟨_, rfl, ?_⟩
              refine E8 (Kd.R_below (PR HO266.1) hb) (Kd.R_lower ho0 (below_size (BL HB.1))) (Kd.S_lower (Kd.S_new' ho1 (Kd.R_lt (PR HO266.1))) (below_size (BL HB.1))) (bB BK261.1 hb) (bB BK262.1 hb) (bB BK263.1 hb) (bB BK278.1 hb) (below_step (BL HB.1) hb) ?_
              clear HO266 BK261 BK262 BK263 BK278 HB
              intro HO266 HO274 HO277 BK261 BK262 BK263 BK278 HB
              (try clear hb)
              (try clear hb2)
              (try clear hk)
              (try clear hi)
              (try clear ho0)
              (try clear ho1)
              refine hK.out _ _ ⟨(blk_cell BK261.1 0).trans rfl, (blk_cell BK261.1 1).trans rfl, (blk_cell BK261.1 2).trans rfl⟩ (fun hHeld => ?_)
              clear hK K
              refine norm_ (a' := ?_) ?_ ?_
              rotate_left
              · show Act.put _ (some 14) _ = _
                simp only [Act.put, List.setIfInBounds_toArray, List.set_cons_zero, List.set_cons_succ, i64_w, i32_w]
                rfl
              refine pureE (i := 5) (N := some 9) #[Yy,Yy,Yy,Yy,Yy,Yy,Zz,Zz,Zz,Yy,Zz,Zz,Zz,Zz] HT_.1 ?_
              refine pureE (i := 6) (N := some 15) #[Yy,Yy,Yy,Yy,Yy,Yy,Yy,Zz,Zz,Yy,Zz,Zz,Zz,Zz] HT_.1 ?_
              refine pureE (i := 7) (N := some 16) #[Yy,Yy,Yy,Yy,Yy,Yy,Yy,Yy,Zz,Yy,Zz,Zz,Zz,Zz] HT_.1 ?_
              refine pureE (i := 8) (N := some 17) #[Yy,Yy,Yy,Yy,Yy,Yy,Yy,Yy,Yy,Yy,Zz,Zz,Zz,Zz] HT_.1 ?_
              exact norm_ (by first | (simp only [putAll, Act.put, List.setIfInBounds_toArray, List.set_cons_zero, List.set_cons_succ]; done) | (simp only [putAll, Act.put, List.setIfInBounds_toArray, List.set_cons_zero, List.set_cons_succ]; rfl)) (hJ2_4_9 (.slice Ao12 t264.length co12, v273, v276, gb278) _ ⟨hHeld, (PR HO266.1), (PR HO274.1), (by (with_reducible repeat (first | apply Kd.S_alloc | apply Kd.S_drewN | apply Kd.S_drew)); exact Kd.S_mono HO277.1 (fun _ hk => hk.2)), (PB BK261.1), (PB BK262.1), (PB BK263.1), (PB BK278.1), GW278.1, GE278.1, NB261_278.1, NB278_261.1, NB262_278.1, NB278_262.1, NB263_278.1, NB278_263.1, (BL HB.1)⟩)
            skip
            refine box_step ?hg (N := 7) ?hd (cs := #[.int .i64 0, .int .i64 0, .slice none 0 0]) (t := 30) ?hr ?_; (case hd => rfl); (case hg => rfl); (case hr => first | (go_simp; done) | (go_simp; rfl))
            intro gb279 hg w12 hbox hb
            refine E17 (Kd.R_below (PR HO266.1) hb) (bB BK261.1 hb) (bB BK262.1 hb) (bB BK263.1 hb) (bB BK278.1 hb) (below_step (BL HB.1) hb) (hbox) (gX HB.1 hg) (gX HB.1 hg) (nB BK261.1 hg) (nC BK261.1 hg) (nB BK262.1 hg) (nC BK262.1 hg) (nB BK263.1 hg) (nC BK263.1 hg) (nB BK278.1 hg) (nC BK278.1 hg) ?_
            clear HO266 BK261 BK262 BK263 BK278 HB
            intro HO266 BK261 BK262 BK263 BK278 HB BK279 GW279 GE279 NB261_279 NB279_261 NB262_279 NB279_262 NB263_279 NB279_263 NB278_279 NB279_278
            clear hb hbox hg
            refine hK.out _ _ ⟨(blk_cell BK261.1 0).trans rfl, (blk_cell BK261.1 1).trans rfl, (blk_cell BK261.1 2).trans rfl⟩ (fun hHeld => ?_)
            clear hK K
            refine norm_ (a' := ?_) ?_ ?_
            rotate_left
            · show Act.put _ (some 7) _ = _
              simp only [Act.put, List.setIfInBounds_toArray, List.set_cons_zero, List.set_cons_succ, i64_w, i32_w]
              rfl
            exact norm_ (by first | (simp only [putAll, Act.put, List.setIfInBounds_toArray, List.set_cons_zero, List.set_cons_succ]; done) | (simp only [putAll, Act.put, List.setIfInBounds_toArray, List.set_cons_zero, List.set_cons_succ]; rfl)) (hJ2_9_10 ((.slice Ao12 t264.length co12), gb278, gb279) _ ⟨hHeld, (PR HO266.1), (PB BK261.1), (PB BK262.1), (PB BK263.1), (PB BK278.1), (PB BK279.1), GW278.1, GE278.1, NB261_278.1, NB278_261.1, NB262_278.1, NB278_262.1, NB263_278.1, NB278_263.1, NB279_278.1, NB278_279.1, GW279.1, GE279.1, NB261_279.1, NB279_261.1, NB262_279.1, NB279_262.1, NB263_279.1, NB279_263.1, (BL HB.1)⟩)
          skip
          rintro ⟨v265, v273, v276⟩ w12 ⟨hS_, h0_, h1_, h2_, h3_, h4_, h5_, h6_⟩
          have n0_ : Aside0 (Kd.R (Kd.int .i64) 3 w12 w.heap.size (fun _ => True) v265 t264) := ⟨h0_⟩
          have n1_ : Aside0 (Kd.R k83 83 w12 w.heap.size (fun _ => True) v273 t272) := ⟨h1_⟩
          have n2_ : Aside0 (Kd.S (Kd.slice 3 (Kd.int .i64)) 38 w12 w.heap.size (fun k_ => some k_ ≠ (v265 : Value).ownBlock) v276 t275) := ⟨h2_⟩
          have n3_ : Aside0 (w12.heap[gb261]? = some (.cells #[.int .i64 a0_0, .int .i64 a0_1, .slice A0_2 l0_2.length c0_2] 30 (0, 0))) := ⟨h3_⟩
          have n4_ : Aside0 (w12.heap[gb262]? = some (.cells #[.int .i64 0, .int .i64 0, .int .i64 0] 54 (0, 0))) := ⟨h4_⟩
          have n5_ : Aside0 (w12.heap[gb263]? = some (.cells #[.int .i64 0, .int .i64 0, .slice none 0 0] 30 (0, 0))) := ⟨h5_⟩
          have n6_ : Aside0 (Below w.heap.size w w12) := ⟨h6_⟩
          clear BK261
          clear BK262
          clear BK263
          clear HB
          clear h0_ h1_ h2_ h3_ h4_ h5_ h6_
          have HO266 := n0_
          have HO274 := n1_
          have HO277 := n2_
          have BK261 := n3_
          have BK262 := n4_
          have BK263 := n5_
          have HB := n6_
          clear n0_ n1_ n2_ n3_ n4_ n5_ n6_
          have hHeld : w12.cell? ⟨gb261, 0, none⟩ = some (.int .i64 a0_0) ∧ w12.cell? ⟨gb261, 1, none⟩ = some (.int .i64 a0_1) ∧ w12.cell? ⟨gb261, 2, none⟩ = some (.slice A0_2 l0_2.length c0_2) := hS_
          refine norm_ (a' := ?_) ?_ ?_
          rotate_left
          · simp only [putAll, Act.put, List.setIfInBounds_toArray, List.set_cons_zero, List.set_cons_succ]
            rfl
          refine two_ (i := 9) (j := 10) (Ni := some 6) (Nj := some 7) #[Yy,Yy,Yy,Yy,Yy,Yy,Yy,Yy,Yy,Yy,Zz,Zz,Zz,Zz] #[Yy,Yy,Yy,Yy,Yy,Yy,Yy,Yy,Yy,Zz,Yy,Zz,Zz,Zz] rfl rfl rfl rfl (two_of HT_.1 (by kernel_rfl)) (by decide) (by decide) (fun K hK => ?_) (fun K hK => ?_)
          · skip
            refine box_step ?hg (N := 6) ?hd (cs := #[.int .i64 0, .int .i64 0, .int .i64 0]) (t := 54) ?hr ?_; (case hd => rfl); (case hg => rfl); (case hr => first | (go_simp; done) | (go_simp; rfl))
            intro gb278 hg w13 hbox hb
            refine E16 (Kd.R_below (PR HO266.1) hb) (Kd.R_below (PR HO274.1) hb) (Kd.S_below (PS HO277.1) hb) (bB BK261.1 hb) (bB BK262.1 hb) (bB BK263.1 hb) (below_step (BL HB.1) hb) (hbox) (gX HB.1 hg) (gX HB.1 hg) (nB BK261.1 hg) (nC BK261.1 hg) (nB BK262.1 hg) (nC BK262.1 hg) (nB BK263.1 hg) (nC BK263.1 hg) ?_
            clear HO266 HO274 HO277 BK261 BK262 BK263 HB
            intro HO266 HO274 HO277 BK261 BK262 BK263 HB BK278 GW278 GE278 NB261_278 NB278_261 NB262_278 NB278_262 NB263_278 NB278_263
            clear hb hbox hg
            refine hK.out _ _ ⟨(blk_cell BK261.1 0).trans rfl, (blk_cell BK261.1 1).trans rfl, (blk_cell BK261.1 2).trans rfl⟩ (fun hHeld => ?_)
            clear hK K
            refine norm_ (a' := ?_) ?_ ?_
            rotate_left
            · show Act.put _ (some 6) _ = _
              simp only [Act.put, List.setIfInBounds_toArray, List.set_cons_zero, List.set_cons_succ, i64_w, i32_w]
              rfl
            exact norm_ (by first | (simp only [putAll, Act.put, List.setIfInBounds_toArray, List.set_cons_zero, List.set_cons_succ]; done) | (simp only [putAll, Act.put, List.setIfInBounds_toArray, List.set_cons_zero, List.set_cons_succ]; rfl)) (hJ2_4_9 (v265, v273, v276, gb278) _ ⟨hHeld, (PR HO266.1), (PR HO274.1), (PS HO277.1), (PB BK261.1), (PB BK262.1), (PB BK263.1), (PB BK278.1), GW278.1, GE278.1, NB261_278.1, NB278_261.1, NB262_278.1, NB278_262.1, NB263_278.1, NB278_263.1, (BL HB.1)⟩)
          skip
          refine box_step ?hg (N := 7) ?hd (cs := #[.int .i64 0, .int .i64 0, .slice none 0 0]) (t := 30) ?hr ?_; (case hd => rfl); (case hg => rfl); (case hr => first | (go_simp; done) | (go_simp; rfl))
          intro gb279 hg w13 hbox hb
          refine E16 (Kd.R_below (PR HO266.1) hb) (Kd.R_below (PR HO274.1) hb) (Kd.S_below (PS HO277.1) hb) (bB BK261.1 hb) (bB BK262.1 hb) (bB BK263.1 hb) (below_step (BL HB.1) hb) (hbox) (gX HB.1 hg) (gX HB.1 hg) (nB BK261.1 hg) (nC BK261.1 hg) (nB BK262.1 hg) (nC BK262.1 hg) (nB BK263.1 hg) (nC BK263.1 hg) ?_
          clear HO266 HO274 HO277 BK261 BK262 BK263 HB
          intro HO266 HO274 HO277 BK261 BK262 BK263 HB BK279 GW279 GE279 NB261_279 NB279_261 NB262_279 NB279_262 NB263_279 NB279_263
          clear hb hbox hg
          refine hK.out _ _ ⟨(blk_cell BK261.1 0).trans rfl, (blk_cell BK261.1 1).trans rfl, (blk_cell BK261.1 2).trans rfl⟩ (fun hHeld => ?_)
          clear hK K
          refine norm_ (a' := ?_) ?_ ?_
          rotate_left
          · show Act.put _ (some 7) _ = _
            simp only [Act.put, List.setIfInBounds_toArray, List.set_cons_zero, List.set_cons_succ, i64_w, i32_w]
            rfl
          exact norm_ (by first | (simp only [putAll, Act.put, List.setIfInBounds_toArray, List.set_cons_zero, List.set_cons_succ]; done) | (simp only [putAll, Act.put, List.setIfInBounds_toArray, List.set_cons_zero, List.set_cons_succ]; rfl)) (hJ2_4_10 (v265, v273, v276, gb279) _ ⟨hHeld, (PR HO266.1), (PR HO274.1), (PS HO277.1), (PB BK261.1), (PB BK262.1), (PB BK263.1), (PB BK279.1), GW279.1, GE279.1, NB261_279.1, NB279_261.1, NB262_279.1, NB279_262.1, NB263_279.1, NB279_263.1, (BL HB.1)⟩)
        skip
        rintro ⟨v265, gb278, gb279⟩ w12 ⟨hS_, h0_, h1_, h2_, h3_, h4_, h5_, h6_, h7_, h8_, h9_, h10_, h11_, h12_, h13_, h14_, h15_, h16_, h17_, h18_, h19_, h20_, h21_, h22_, h23_, h24_⟩
        have n0_ : Aside0 (Kd.R (Kd.int .i64) 3 w12 w.heap.size (fun _ => True) v265 t264) := ⟨h0_⟩
        have n1_ : Aside0 (w12.heap[gb261]? = some (.cells #[.int .i64 a0_0, .int .i64 a0_1, .slice A0_2 l0_2.length c0_2] 30 (0, 0))) := ⟨h1_⟩
        have n2_ : Aside0 (w12.heap[gb262]? = some (.cells #[.int .i64 0, .int .i64 0, .int .i64 0] 54 (0, 0))) := ⟨h2_⟩
        have n3_ : Aside0 (w12.heap[gb263]? = some (.cells #[.int .i64 0, .int .i64 0, .slice none 0 0] 30 (0, 0))) := ⟨h3_⟩
        have n4_ : Aside0 (w12.heap[gb278]? = some (.cells #[.int .i64 0, .int .i64 0, .int .i64 0] 54 (0, 0))) := ⟨h4_⟩
        have n5_ : Aside0 (w12.heap[gb279]? = some (.cells #[.int .i64 0, .int .i64 0, .slice none 0 0] 30 (0, 0))) := ⟨h5_⟩
        have n6_ : Aside0 (w.heap.size ≤ gb278) := ⟨h6_⟩
        have n7_ : Aside0 (w.heap.size ≤ gb278) := ⟨h7_⟩
        have n8_ : Aside0 (gb261 ≠ gb278) := ⟨h8_⟩
        have n9_ : Aside0 (gb278 ≠ gb261) := ⟨h9_⟩
        have n10_ : Aside0 (gb262 ≠ gb278) := ⟨h10_⟩
        have n11_ : Aside0 (gb278 ≠ gb262) := ⟨h11_⟩
        have n12_ : Aside0 (gb263 ≠ gb278) := ⟨h12_⟩
        have n13_ : Aside0 (gb278 ≠ gb263) := ⟨h13_⟩
        have n14_ : Aside0 (gb279 ≠ gb278) := ⟨h14_⟩
        have n15_ : Aside0 (gb278 ≠ gb279) := ⟨h15_⟩
        have n16_ : Aside0 (w.heap.size ≤ gb279) := ⟨h16_⟩
        have n17_ : Aside0 (w.heap.size ≤ gb279) := ⟨h17_⟩
        have n18_ : Aside0 (gb261 ≠ gb279) := ⟨h18_⟩
        have n19_ : Aside0 (gb279 ≠ gb261) := ⟨h19_⟩
        have n20_ : Aside0 (gb262 ≠ gb279) := ⟨h20_⟩
        have n21_ : Aside0 (gb279 ≠ gb262) := ⟨h21_⟩
        have n22_ : Aside0 (gb263 ≠ gb279) := ⟨h22_⟩
        have n23_ : Aside0 (gb279 ≠ gb263) := ⟨h23_⟩
        have n24_ : Aside0 (Below w.heap.size w w12) := ⟨h24_⟩
        clear BK261
        clear BK262
        clear BK263
        clear HB
        clear h0_ h1_ h2_ h3_ h4_ h5_ h6_ h7_ h8_ h9_ h10_ h11_ h12_ h13_ h14_ h15_ h16_ h17_ h18_ h19_ h20_ h21_ h22_ h23_ h24_
        have HO266 := n0_
        have BK261 := n1_
        have BK262 := n2_
        have BK263 := n3_
        have BK278 := n4_
        have BK279 := n5_
        have GW278 := n6_
        have GE278 := n7_
        have NB261_278 := n8_
        have NB278_261 := n9_
        have NB262_278 := n10_
        have NB278_262 := n11_
        have NB263_278 := n12_
        have NB278_263 := n13_
        have NB279_278 := n14_
        have NB278_279 := n15_
        have GW279 := n16_
        have GE279 := n17_
        have NB261_279 := n18_
        have NB279_261 := n19_
        have NB262_279 := n20_
        have NB279_262 := n21_
        have NB263_279 := n22_
        have NB279_263 := n23_
        have HB := n24_
        clear n0_ n1_ n2_ n3_ n4_ n5_ n6_ n7_ n8_ n9_ n10_ n11_ n12_ n13_ n14_ n15_ n16_ n17_ n18_ n19_ n20_ n21_ n22_ n23_ n24_
        have hHeld : w12.cell? ⟨gb261, 0, none⟩ = some (.int .i64 a0_0) ∧ w12.cell? ⟨gb261, 1, none⟩ = some (.int .i64 a0_1) ∧ w12.cell? ⟨gb261, 2, none⟩ = some (.slice A0_2 l0_2.length c0_2) := hS_
        obtain ⟨Ao13, co13, eo13⟩ := Kd.R_slice HO266.1
        (first | subst eo13 | (injection eo13 with f1_ f2_ f3_; have f4_ := f1_.symm; have f5_ := f3_.symm; clear f1_ f2_ f3_; subst f4_; subst f5_))
        refine norm_ (a' := ?_) ?_ ?_
        rotate_left
        · simp only [putAll, Act.put, List.setIfInBounds_toArray, List.set_cons_zero, List.set_cons_succ]
          rfl
        refine one_ (i := 4) (N := some 14) #[Yy,Yy,Yy,Yy,Yy,Zz,Zz,Zz,Zz,Yy,Yy,Zz,Zz,Zz] rfl rfl (one_of HT_.1 (by kernel_rfl)) (by decide) (fun K hK => ?_)
        refine goes_ Try.func84 (by kernel_rfl) rfl #[.agg #[.int .i64 a0_0, .int .i64 a0_1, .slice A0_2 l0_2.length c0_2], .slice Ao13 t264.length co13, .int .i64 a1] (by rfl) rfl rfl (by (try simp only [List.map_toArray, List.map_cons, List.map_nil]); first | done | rfl | (simp only [List.length_drop, List.length_take]; rfl)) ?_
        with_reducible refine (spec_flGo.calls k a0_0 a0_1 _ _ l0_2 _ _ t264 a1 t267 t268 t269 t270 t271 t272 t275 _ ?side1 ?side2 ?side3 ?side4 A4.1).mono ?_
        (case side1 => exact CB (Kd.C_below HR0_2.1 HB.1))
        (case side2 => exact HC0_2.1)
        (case side3 => exact CB (Kd.R_reads' HO266.1).2.2)
        (case side4 => exact (Kd.R_reads' HO266.1).2.1)
        rintro e w14 ⟨v273, v276, rfl, ho0, ho1, hb⟩
        refine ⟨_, rfl, ?_⟩
        refine E9 (Kd.R_below (PR HO266.1) hb) (Kd.R_lower ho0 (below_size (BL HB.1))) (Kd.S_lower (Kd.S_new' ho1 (Kd.R_lt (PR HO266.1))) (below_size (BL HB.1))) (bB BK261.1 hb) (bB BK262.1 hb) (bB BK263.1 hb) (bB BK278.1 hb) (bB BK279.1 hb) (below_step (BL HB.1) hb) ?_
        clear HO266 BK261 BK262 BK263 BK278 BK279 HB
        intro HO266 HO274 HO277 BK261 BK262 BK263 BK278 BK279 HB
        (try clear hb)
        (try clear hb2)
        (try clear hk)
        (try clear hi)
        (try clear ho0)
        (try clear ho1)
        refine hK.out _ _ ⟨(blk_cell BK261.1 0).trans rfl, (blk_cell BK261.1 1).trans rfl, (blk_cell BK261.1 2).trans rfl⟩ (fun hHeld => ?_)
        clear hK K
        refine norm_ (a' := ?_) ?_ ?_
        rotate_left
        · show Act.put _ (some 14) _ = _
          simp only [Act.put, List.setIfInBounds_toArray, List.set_cons_zero, List.set_cons_succ, i64_w, i32_w]
          rfl
        refine pureE (i := 5) (N := some 9) #[Yy,Yy,Yy,Yy,Yy,Yy,Zz,Zz,Zz,Yy,Yy,Zz,Zz,Zz] HT_.1 ?_
        refine pureE (i := 6) (N := some 15) #[Yy,Yy,Yy,Yy,Yy,Yy,Yy,Zz,Zz,Yy,Yy,Zz,Zz,Zz] HT_.1 ?_
        refine pureE (i := 7) (N := some 16) #[Yy,Yy,Yy,Yy,Yy,Yy,Yy,Yy,Zz,Yy,Yy,Zz,Zz,Zz] HT_.1 ?_
        refine pureE (i := 8) (N := some 17) #[Yy,Yy,Yy,Yy,Yy,Yy,Yy,Yy,Yy,Yy,Yy,Zz,Zz,Zz] HT_.1 ?_
        exact norm_ (by first | (simp only [putAll, Act.put, List.setIfInBounds_toArray, List.set_cons_zero, List.set_cons_succ]; done) | (simp only [putAll, Act.put, List.setIfInBounds_toArray, List.set_cons_zero, List.set_cons_succ]; rfl)) (hJ2_4_9_10 (.slice Ao13 t264.length co13, v273, v276, gb278, gb279) _ ⟨hHeld, (PR HO266.1), (PR HO274.1), (by (with_reducible repeat (first | apply Kd.S_alloc | apply Kd.S_drewN | apply Kd.S_drew)); exact Kd.S_mono HO277.1 (fun _ hk => hk.2)), (PB BK261.1), (PB BK262.1), (PB BK263.1), (PB BK278.1), (PB BK279.1), GW278.1, GE278.1, NB261_278.1, NB278_261.1, NB262_278.1, NB278_262.1, NB263_278.1, NB278_263.1, NB279_278.1, NB278_279.1, GW279.1, GE279.1, NB261_279.1, NB279_261.1, NB262_279.1, NB279_262.1, NB263_279.1, NB279_263.1, (BL HB.1)⟩)
      skip
      rintro ⟨v265, v273, v276, gb279⟩ w13 ⟨hS_, h0_, h1_, h2_, h3_, h4_, h5_, h6_, h7_, h8_, h9_, h10_, h11_, h12_, h13_, h14_, h15_⟩
      have n0_ : Aside0 (Kd.R (Kd.int .i64) 3 w13 w.heap.size (fun _ => True) v265 t264) := ⟨h0_⟩
      have n1_ : Aside0 (Kd.R k83 83 w13 w.heap.size (fun _ => True) v273 t272) := ⟨h1_⟩
      have n2_ : Aside0 (Kd.S (Kd.slice 3 (Kd.int .i64)) 38 w13 w.heap.size (fun k_ => some k_ ≠ (v265 : Value).ownBlock) v276 t275) := ⟨h2_⟩
      have n3_ : Aside0 (w13.heap[gb261]? = some (.cells #[.int .i64 a0_0, .int .i64 a0_1, .slice A0_2 l0_2.length c0_2] 30 (0, 0))) := ⟨h3_⟩
      have n4_ : Aside0 (w13.heap[gb262]? = some (.cells #[.int .i64 0, .int .i64 0, .int .i64 0] 54 (0, 0))) := ⟨h4_⟩
      have n5_ : Aside0 (w13.heap[gb263]? = some (.cells #[.int .i64 0, .int .i64 0, .slice none 0 0] 30 (0, 0))) := ⟨h5_⟩
      have n6_ : Aside0 (w13.heap[gb279]? = some (.cells #[.int .i64 0, .int .i64 0, .slice none 0 0] 30 (0, 0))) := ⟨h6_⟩
      have n7_ : Aside0 (w.heap.size ≤ gb279) := ⟨h7_⟩
      have n8_ : Aside0 (w.heap.size ≤ gb279) := ⟨h8_⟩
      have n9_ : Aside0 (gb261 ≠ gb279) := ⟨h9_⟩
      have n10_ : Aside0 (gb279 ≠ gb261) := ⟨h10_⟩
      have n11_ : Aside0 (gb262 ≠ gb279) := ⟨h11_⟩
      have n12_ : Aside0 (gb279 ≠ gb262) := ⟨h12_⟩
      have n13_ : Aside0 (gb263 ≠ gb279) := ⟨h13_⟩
      have n14_ : Aside0 (gb279 ≠ gb263) := ⟨h14_⟩
      have n15_ : Aside0 (Below w.heap.size w w13) := ⟨h15_⟩
      clear BK261
      clear BK262
      clear BK263
      clear HB
      clear h0_ h1_ h2_ h3_ h4_ h5_ h6_ h7_ h8_ h9_ h10_ h11_ h12_ h13_ h14_ h15_
      have HO266 := n0_
      have HO274 := n1_
      have HO277 := n2_
      have BK261 := n3_
      have BK262 := n4_
      have BK263 := n5_
      have BK279 := n6_
      have GW279 := n7_
      have GE279 := n8_
      have NB261_279 := n9_
      have NB279_261 := n10_
      have NB262_279 := n11_
      have NB279_262 := n12_
      have NB263_279 := n13_
      have NB279_263 := n14_
      have HB := n15_
      clear n0_ n1_ n2_ n3_ n4_ n5_ n6_ n7_ n8_ n9_ n10_ n11_ n12_ n13_ n14_ n15_
      have hHeld : w13.cell? ⟨gb261, 0, none⟩ = some (.int .i64 a0_0) ∧ w13.cell? ⟨gb261, 1, none⟩ = some (.int .i64 a0_1) ∧ w13.cell? ⟨gb261, 2, none⟩ = some (.slice A0_2 l0_2.length c0_2) := hS_
      refine norm_ (a' := ?_) ?_ ?_
      rotate_left
      · simp only [putAll, Act.put, List.setIfInBounds_toArray, List.set_cons_zero, List.set_cons_succ]
        rfl
      refine one_ (i := 9) (N := some 6) #[Yy,Yy,Yy,Yy,Yy,Yy,Yy,Yy,Yy,Yy,Yy,Zz,Zz,Zz] rfl rfl (one_of HT_.1 (by kernel_rfl)) (by decide) (fun K hK => ?_)
      refine box_step ?hg (N := 6) ?hd (cs := #[.int .i64 0, .int .i64 0, .int .i64 0]) (t := 54) ?hr ?_; (case hd => rfl); (case hg => rfl); (case hr => first | (go_simp; done) | (go_simp; rfl))
      intro gb278 hg w14 hbox hb
      refine E19 (Kd.R_below (PR HO266.1) hb) (Kd.R_below (PR HO274.1) hb) (Kd.S_below (PS HO277.1) hb) (bB BK261.1 hb) (bB BK262.1 hb) (bB BK263.1 hb) (bB BK279.1 hb) (below_step (BL HB.1) hb) (hbox) (gX HB.1 hg) (gX HB.1 hg) (nB BK261.1 hg) (nC BK261.1 hg) (nB BK262.1 hg) (nC BK262.1 hg) (nB BK263.1 hg) (nC BK263.1 hg) (nB BK279.1 hg) (nC BK279.1 hg) ?_
      clear HO266 HO274 HO277 BK261 BK262 BK263 BK279 HB
      intro HO266 HO274 HO277 BK261 BK262 BK263 BK279 HB BK278 GW278 GE278 NB261_278 NB278_261 NB262_278 NB278_262 NB263_278 NB278_263 NB279_278 NB278_279
      clear hb hbox hg
      refine hK.out _ _ ⟨(blk_cell BK261.1 0).trans rfl, (blk_cell BK261.1 1).trans rfl, (blk_cell BK261.1 2).trans rfl⟩ (fun hHeld => ?_)
      clear hK K
      refine norm_ (a' := ?_) ?_ ?_
      rotate_left
      · show Act.put _ (some 6) _ = _
        simp only [Act.put, List.setIfInBounds_toArray, List.set_cons_zero, List.set_cons_succ, i64_w, i32_w]
        rfl
      exact norm_ (by first | (simp only [putAll, Act.put, List.setIfInBounds_toArray, List.set_cons_zero, List.set_cons_succ]; done) | (simp only [putAll, Act.put, List.setIfInBounds_toArray, List.set_cons_zero, List.set_cons_succ]; rfl)) (hJ2_4_9_10 (v265, v273, v276, gb278, gb279) _ ⟨hHeld, (PR HO266.1), (PR HO274.1), (PS HO277.1), (PB BK261.1), (PB BK262.1), (PB BK263.1), (PB BK278.1), (PB BK279.1), GW278.1, GE278.1, NB261_278.1, NB278_261.1, NB262_278.1, NB278_262.1, NB263_278.1, NB278_263.1, NB279_278.1, NB278_279.1, GW279.1, GE279.1, NB261_279.1, NB279_261.1, NB262_279.1, NB279_262.1, NB263_279.1, NB279_263.1, (BL HB.1)⟩)
    skip
    rintro ⟨v265, v273, v276, gb278⟩ w13 ⟨hS_, h0_, h1_, h2_, h3_, h4_, h5_, h6_, h7_, h8_, h9_, h10_, h11_, h12_, h13_, h14_, h15_⟩
    have n0_ : Aside0 (Kd.R (Kd.int .i64) 3 w13 w.heap.size (fun _ => True) v265 t264) := ⟨h0_⟩
    have n1_ : Aside0 (Kd.R k83 83 w13 w.heap.size (fun _ => True) v273 t272) := ⟨h1_⟩
    have n2_ : Aside0 (Kd.S (Kd.slice 3 (Kd.int .i64)) 38 w13 w.heap.size (fun k_ => some k_ ≠ (v265 : Value).ownBlock) v276 t275) := ⟨h2_⟩
    have n3_ : Aside0 (w13.heap[gb261]? = some (.cells #[.int .i64 a0_0, .int .i64 a0_1, .slice A0_2 l0_2.length c0_2] 30 (0, 0))) := ⟨h3_⟩
    have n4_ : Aside0 (w13.heap[gb262]? = some (.cells #[.int .i64 0, .int .i64 0, .int .i64 0] 54 (0, 0))) := ⟨h4_⟩
    have n5_ : Aside0 (w13.heap[gb263]? = some (.cells #[.int .i64 0, .int .i64 0, .slice none 0 0] 30 (0, 0))) := ⟨h5_⟩
    have n6_ : Aside0 (w13.heap[gb278]? = some (.cells #[.int .i64 0, .int .i64 0, .int .i64 0] 54 (0, 0))) := ⟨h6_⟩
    have n7_ : Aside0 (w.heap.size ≤ gb278) := ⟨h7_⟩
    have n8_ : Aside0 (w.heap.size ≤ gb278) := ⟨h8_⟩
    have n9_ : Aside0 (gb261 ≠ gb278) := ⟨h9_⟩
    have n10_ : Aside0 (gb278 ≠ gb261) := ⟨h10_⟩
    have n11_ : Aside0 (gb262 ≠ gb278) := ⟨h11_⟩
    have n12_ : Aside0 (gb278 ≠ gb262) := ⟨h12_⟩
    have n13_ : Aside0 (gb263 ≠ gb278) := ⟨h13_⟩
    have n14_ : Aside0 (gb278 ≠ gb263) := ⟨h14_⟩
    have n15_ : Aside0 (Below w.heap.size w w13) := ⟨h15_⟩
    clear BK261
    clear BK262
    clear BK263
    clear HB
    clear h0_ h1_ h2_ h3_ h4_ h5_ h6_ h7_ h8_ h9_ h10_ h11_ h12_ h13_ h14_ h15_
    have HO266 := n0_
    have HO274 := n1_
    have HO277 := n2_
    have BK261 := n3_
    have BK262 := n4_
    have BK263 := n5_
    have BK278 := n6_
    have GW278 := n7_
    have GE278 := n8_
    have NB261_278 := n9_
    have NB278_261 := n10_
    have NB262_278 := n11_
    have NB278_262 := n12_
    have NB263_278 := n13_
    have NB278_263 := n14_
    have HB := n15_
    clear n0_ n1_ n2_ n3_ n4_ n5_ n6_ n7_ n8_ n9_ n10_ n11_ n12_ n13_ n14_ n15_
    have hHeld : w13.cell? ⟨gb261, 0, none⟩ = some (.int .i64 a0_0) ∧ w13.cell? ⟨gb261, 1, none⟩ = some (.int .i64 a0_1) ∧ w13.cell? ⟨gb261, 2, none⟩ = some (.slice A0_2 l0_2.length c0_2) := hS_
    refine norm_ (a' := ?_) ?_ ?_
    rotate_left
    · simp only [putAll, Act.put, List.setIfInBounds_toArray, List.set_cons_zero, List.set_cons_succ]
      rfl
    refine one_ (i := 10) (N := some 7) #[Yy,Yy,Yy,Yy,Yy,Yy,Yy,Yy,Yy,Yy,Yy,Zz,Zz,Zz] rfl rfl (one_of HT_.1 (by kernel_rfl)) (by decide) (fun K hK => ?_)
    refine box_step ?hg (N := 7) ?hd (cs := #[.int .i64 0, .int .i64 0, .slice none 0 0]) (t := 30) ?hr ?_; (case hd => rfl); (case hg => rfl); (case hr => first | (go_simp; done) | (go_simp; rfl))
    intro gb279 hg w14 hbox hb
    refine E19 (Kd.R_below (PR HO266.1) hb) (Kd.R_below (PR HO274.1) hb) (Kd.S_below (PS HO277.1) hb) (bB BK261.1 hb) (bB BK262.1 hb) (bB BK263.1 hb) (bB BK278.1 hb) (below_step (BL HB.1) hb) (hbox) (gX HB.1 hg) (gX HB.1 hg) (nB BK261.1 hg) (nC BK261.1 hg) (nB BK262.1 hg) (nC BK262.1 hg) (nB BK263.1 hg) (nC BK263.1 hg) (nB BK278.1 hg) (nC BK278.1 hg) ?_
    clear HO266 HO274 HO277 BK261 BK262 BK263 BK278 HB
    intro HO266 HO274 HO277 BK261 BK262 BK263 BK278 HB BK279 GW279 GE279 NB261_279 NB279_261 NB262_279 NB279_262 NB263_279 NB279_263 NB278_279 NB279_278
    clear hb hbox hg
    refine hK.out _ _ ⟨(blk_cell BK261.1 0).trans rfl, (blk_cell BK261.1 1).trans rfl, (blk_cell BK261.1 2).trans rfl⟩ (fun hHeld => ?_)
    clear hK K
    refine norm_ (a' := ?_) ?_ ?_
    rotate_left
    · show Act.put _ (some 7) _ = _
      simp only [Act.put, List.setIfInBounds_toArray, List.set_cons_zero, List.set_cons_succ, i64_w, i32_w]
      rfl
    exact norm_ (by first | (simp only [putAll, Act.put, List.setIfInBounds_toArray, List.set_cons_zero, List.set_cons_succ]; done) | (simp only [putAll, Act.put, List.setIfInBounds_toArray, List.set_cons_zero, List.set_cons_succ]; rfl)) (hJ2_4_9_10 (v265, v273, v276, gb278, gb279) _ ⟨hHeld, (PR HO266.1), (PR HO274.1), (PS HO277.1), (PB BK261.1), (PB BK262.1), (PB BK263.1), (PB BK278.1), (PB BK279.1), GW278.1, GE278.1, NB261_278.1, NB278_261.1, NB262_278.1, NB278_262.1, NB263_278.1, NB278_263.1, NB279_278.1, NB278_279.1, GW279.1, GE279.1, NB261_279.1, NB279_261.1, NB262_279.1, NB279_262.1, NB263_279.1, NB279_263.1, (BL HB.1)⟩)
  rintro ⟨v265, v273, v276, gb278, gb279⟩ w14 ⟨hS_, h0_, h1_, h2_, h3_, h4_, h5_, h6_, h7_, h8_, h9_, h10_, h11_, h12_, h13_, h14_, h15_, h16_, h17_, h18_, h19_, h20_, h21_, h22_, h23_, h24_, h25_, h26_⟩
  have n0_ : Aside0 (Kd.R (Kd.int .i64) 3 w14 w.heap.size (fun _ => True) v265 t264) := ⟨h0_⟩
  have n1_ : Aside0 (Kd.R k83 83 w14 w.heap.size (fun _ => True) v273 t272) := ⟨h1_⟩
  have n2_ : Aside0 (Kd.S (Kd.slice 3 (Kd.int .i64)) 38 w14 w.heap.size (fun k_ => some k_ ≠ (v265 : Value).ownBlock) v276 t275) := ⟨h2_⟩
  have n3_ : Aside0 (w14.heap[gb261]? = some (.cells #[.int .i64 a0_0, .int .i64 a0_1, .slice A0_2 l0_2.length c0_2] 30 (0, 0))) := ⟨h3_⟩
  have n4_ : Aside0 (w14.heap[gb262]? = some (.cells #[.int .i64 0, .int .i64 0, .int .i64 0] 54 (0, 0))) := ⟨h4_⟩
  have n5_ : Aside0 (w14.heap[gb263]? = some (.cells #[.int .i64 0, .int .i64 0, .slice none 0 0] 30 (0, 0))) := ⟨h5_⟩
  have n6_ : Aside0 (w14.heap[gb278]? = some (.cells #[.int .i64 0, .int .i64 0, .int .i64 0] 54 (0, 0))) := ⟨h6_⟩
  have n7_ : Aside0 (w14.heap[gb279]? = some (.cells #[.int .i64 0, .int .i64 0, .slice none 0 0] 30 (0, 0))) := ⟨h7_⟩
  have n8_ : Aside0 (w.heap.size ≤ gb278) := ⟨h8_⟩
  have n9_ : Aside0 (w.heap.size ≤ gb278) := ⟨h9_⟩
  have n10_ : Aside0 (gb261 ≠ gb278) := ⟨h10_⟩
  have n11_ : Aside0 (gb278 ≠ gb261) := ⟨h11_⟩
  have n12_ : Aside0 (gb262 ≠ gb278) := ⟨h12_⟩
  have n13_ : Aside0 (gb278 ≠ gb262) := ⟨h13_⟩
  have n14_ : Aside0 (gb263 ≠ gb278) := ⟨h14_⟩
  have n15_ : Aside0 (gb278 ≠ gb263) := ⟨h15_⟩
  have n16_ : Aside0 (gb279 ≠ gb278) := ⟨h16_⟩
  have n17_ : Aside0 (gb278 ≠ gb279) := ⟨h17_⟩
  have n18_ : Aside0 (w.heap.size ≤ gb279) := ⟨h18_⟩
  have n19_ : Aside0 (w.heap.size ≤ gb279) := ⟨h19_⟩
  have n20_ : Aside0 (gb261 ≠ gb279) := ⟨h20_⟩
  have n21_ : Aside0 (gb279 ≠ gb261) := ⟨h21_⟩
  have n22_ : Aside0 (gb262 ≠ gb279) := ⟨h22_⟩
  have n23_ : Aside0 (gb279 ≠ gb262) := ⟨h23_⟩
  have n24_ : Aside0 (gb263 ≠ gb279) := ⟨h24_⟩
  have n25_ : Aside0 (gb279 ≠ gb263) := ⟨h25_⟩
  have n26_ : Aside0 (Below w.heap.size w w14) := ⟨h26_⟩
  clear BK261
  clear BK262
  clear BK263
  clear HB
  clear h0_ h1_ h2_ h3_ h4_ h5_ h6_ h7_ h8_ h9_ h10_ h11_ h12_ h13_ h14_ h15_ h16_ h17_ h18_ h19_ h20_ h21_ h22_ h23_ h24_ h25_ h26_
  have HO266 := n0_
  have HO274 := n1_
  have HO277 := n2_
  have BK261 := n3_
  have BK262 := n4_
  have BK263 := n5_
  have BK278 := n6_
  have BK279 := n7_
  have GW278 := n8_
  have GE278 := n9_
  have NB261_278 := n10_
  have NB278_261 := n11_
  have NB262_278 := n12_
  have NB278_262 := n13_
  have NB263_278 := n14_
  have NB278_263 := n15_
  have NB279_278 := n16_
  have NB278_279 := n17_
  have GW279 := n18_
  have GE279 := n19_
  have NB261_279 := n20_
  have NB279_261 := n21_
  have NB262_279 := n22_
  have NB279_262 := n23_
  have NB263_279 := n24_
  have NB279_263 := n25_
  have HB := n26_
  clear n0_ n1_ n2_ n3_ n4_ n5_ n6_ n7_ n8_ n9_ n10_ n11_ n12_ n13_ n14_ n15_ n16_ n17_ n18_ n19_ n20_ n21_ n22_ n23_ n24_ n25_ n26_
  have hHeld : w14.cell? ⟨gb261, 0, none⟩ = some (.int .i64 a0_0) ∧ w14.cell? ⟨gb261, 1, none⟩ = some (.int .i64 a0_1) ∧ w14.cell? ⟨gb261, 2, none⟩ = some (.slice A0_2 l0_2.length c0_2) := hS_
  obtain ⟨Ao20, co20, eo20⟩ := Kd.R_slice HO274.1
  (first | subst eo20 | (injection eo20 with f1_ f2_ f3_; have f4_ := f1_.symm; have f5_ := f3_.symm; clear f1_ f2_ f3_; subst f4_; subst f5_))
  refine norm_ (a' := ?_) ?_ ?_
  rotate_left
  · simp only [putAll, Act.put, List.setIfInBounds_toArray, List.set_cons_zero, List.set_cons_succ]
    rfl
  refine one_ (i := 11) (N := none) #[Yy,Yy,Yy,Yy,Yy,Yy,Yy,Yy,Yy,Yy,Yy,Yy,Zz,Zz] rfl rfl (one_of HT_.1 (by kernel_rfl)) (by decide) (fun K hK => ?_)
  have hs15 : w14.cell? ⟨gb278, 0, none⟩ = some (.int .i64 0) := (blk_cell BK278.1 0).trans rfl
  have hfs15 := blk_frozen BK278.1 0
  have hns15_0 := NB261_278.1
  have hns15_1 := NB262_278.1
  have hns15_2 := NB263_278.1
  have hns15_4 := NB279_278.1
  have hms15_0 := NB278_261.1
  have hms15_1 := NB278_262.1
  have hms15_2 := NB278_263.1
  have hms15_4 := NB278_279.1
  have hs16 : w14.cell? ⟨gb278, 1, none⟩ = some (.int .i64 0) := (blk_cell BK278.1 1).trans rfl
  have hfs16 := blk_frozen BK278.1 1
  have hs17 : w14.cell? ⟨gb278, 2, none⟩ = some (.int .i64 0) := (blk_cell BK278.1 2).trans rfl
  have hfs17 := blk_frozen BK278.1 2
  refine skip_ (w1 := ?_) (by rfl) rfl ?_ ?_
  rotate_left
  · go_simp
    rfl
  refine hK.out _ _ ⟨(CF3 NB261_278.1 hHeld.1), (CF3 NB261_278.1 hHeld.2.1), (CF3 NB261_278.1 hHeld.2.2)⟩ (fun hHeld => ?_)
  clear hK K
  refine one_ (i := 12) (N := none) #[Yy,Yy,Yy,Yy,Yy,Yy,Yy,Yy,Yy,Yy,Yy,Yy,Yy,Zz] rfl rfl (one_of HT_.1 (by kernel_rfl)) (by decide) (fun K hK => ?_)
  have hs18 : w14.cell? ⟨gb279, 0, none⟩ = some (.int .i64 0) := (blk_cell BK279.1 0).trans rfl
  have hfs18 := blk_frozen BK279.1 0
  have hns18_0 := NB261_279.1
  have hns18_1 := NB262_279.1
  have hns18_2 := NB263_279.1
  have hms18_0 := NB279_261.1
  have hms18_1 := NB279_262.1
  have hms18_2 := NB279_263.1
  have hs19 : w14.cell? ⟨gb279, 1, none⟩ = some (.int .i64 0) := (blk_cell BK279.1 1).trans rfl
  have hfs19 := blk_frozen BK279.1 1
  have hs21 : w14.cell? ⟨gb279, 2, none⟩ = some (.slice none 0 0) := (blk_cell BK279.1 2).trans rfl
  have hfs21 := blk_frozen BK279.1 2
  refine skip_ (w1 := ?_) (by rfl) rfl ?_ ?_
  rotate_left
  · go_simp
    rfl
  refine hK.out _ _ ⟨(CF3 NB261_279.1 hHeld.1), (CF3 NB261_279.1 hHeld.2.1), (CF3 NB261_279.1 hHeld.2.2)⟩ (fun hHeld => ?_)
  clear hK K
  refine pureE (i := 13) (N := some 8) #[Yy,Yy,Yy,Yy,Yy,Yy,Yy,Yy,Yy,Yy,Yy,Yy,Yy,Yy] HT_.1 ?_
  refine done_ (done_of HT_.1 (by kernel_rfl)) ?_
  try go_wp2
  have n0_ : Aside0 (Kd.R (Kd.int .i64) 3 ((((((w14.setCell ⟨gb278, 0, none⟩ (.int .i64 t267)).setCell ⟨gb278, 1, none⟩ (.int .i64 t268)).setCell ⟨gb278, 2, none⟩ (.int .i64 t269)).setCell ⟨gb279, 0, none⟩ (.int .i64 t270)).setCell ⟨gb279, 1, none⟩ (.int .i64 t271)).setCell ⟨gb279, 2, none⟩ (.slice Ao20 t272.length co20)) w.heap.size (fun _ => True) v265 t264) := ⟨by (with_reducible repeat (first | apply Kd.R_alloc | apply Kd.R_drewN | apply Kd.R_drew)); exact Kd.R_mono (Kd.R_far (p := ⟨gb279, 2, none⟩) (Kd.R_far (p := ⟨gb279, 1, none⟩) (Kd.R_far (p := ⟨gb279, 0, none⟩) (Kd.R_far (p := ⟨gb278, 2, none⟩) (Kd.R_far (p := ⟨gb278, 1, none⟩) (Kd.R_far (p := ⟨gb278, 0, none⟩) (Kd.R_types (Kd.R_types HO266.1 BK278.1 (by decide)) BK279.1 (by decide)) (fun _ hk => hk.1.2) (.int .i64 t267)) (fun _ hk => hk.1.2) (.int .i64 t268)) (fun _ hk => hk.1.2) (.int .i64 t269)) (fun _ hk => hk.2) (.int .i64 t270)) (fun _ hk => hk.2) (.int .i64 t271)) (fun _ hk => hk.2) (.slice Ao20 t272.length co20)) (fun _ hk => trivial)⟩
  have n1_ : Aside0 (Kd.R k83 83 ((((((w14.setCell ⟨gb278, 0, none⟩ (.int .i64 t267)).setCell ⟨gb278, 1, none⟩ (.int .i64 t268)).setCell ⟨gb278, 2, none⟩ (.int .i64 t269)).setCell ⟨gb279, 0, none⟩ (.int .i64 t270)).setCell ⟨gb279, 1, none⟩ (.int .i64 t271)).setCell ⟨gb279, 2, none⟩ (.slice Ao20 t272.length co20)) w.heap.size (fun _ => True) (.slice Ao20 t272.length co20) t272) := ⟨by (with_reducible repeat (first | apply Kd.R_alloc | apply Kd.R_drewN | apply Kd.R_drew)); exact Kd.R_mono (Kd.R_far (p := ⟨gb279, 2, none⟩) (Kd.R_far (p := ⟨gb279, 1, none⟩) (Kd.R_far (p := ⟨gb279, 0, none⟩) (Kd.R_far (p := ⟨gb278, 2, none⟩) (Kd.R_far (p := ⟨gb278, 1, none⟩) (Kd.R_far (p := ⟨gb278, 0, none⟩) (Kd.R_types (Kd.R_types HO274.1 BK278.1 (by decide)) BK279.1 (by decide)) (fun _ hk => hk.1.2) (.int .i64 t267)) (fun _ hk => hk.1.2) (.int .i64 t268)) (fun _ hk => hk.1.2) (.int .i64 t269)) (fun _ hk => hk.2) (.int .i64 t270)) (fun _ hk => hk.2) (.int .i64 t271)) (fun _ hk => hk.2) (.slice Ao20 t272.length co20)) (fun _ hk => trivial)⟩
  have n2_ : Aside0 (Kd.S (Kd.slice 3 (Kd.int .i64)) 38 ((((((w14.setCell ⟨gb278, 0, none⟩ (.int .i64 t267)).setCell ⟨gb278, 1, none⟩ (.int .i64 t268)).setCell ⟨gb278, 2, none⟩ (.int .i64 t269)).setCell ⟨gb279, 0, none⟩ (.int .i64 t270)).setCell ⟨gb279, 1, none⟩ (.int .i64 t271)).setCell ⟨gb279, 2, none⟩ (.slice Ao20 t272.length co20)) w.heap.size (fun k_ => some k_ ≠ (v265 : Value).ownBlock) v276 t275) := ⟨by (with_reducible repeat (first | apply Kd.S_alloc | apply Kd.S_drewN | apply Kd.S_drew)); exact Kd.S_mono (Kd.S_far (p := ⟨gb279, 2, none⟩) (Kd.S_far (p := ⟨gb279, 1, none⟩) (Kd.S_far (p := ⟨gb279, 0, none⟩) (Kd.S_far (p := ⟨gb278, 2, none⟩) (Kd.S_far (p := ⟨gb278, 1, none⟩) (Kd.S_far (p := ⟨gb278, 0, none⟩) (Kd.S_types (Kd.S_types HO277.1 BK278.1 (by decide)) BK279.1 (by decide)) (fun _ hk => hk.1.2) (.int .i64 t267)) (fun _ hk => hk.1.2) (.int .i64 t268)) (fun _ hk => hk.1.2) (.int .i64 t269)) (fun _ hk => hk.2) (.int .i64 t270)) (fun _ hk => hk.2) (.int .i64 t271)) (fun _ hk => hk.2) (.slice Ao20 t272.length co20)) (fun _ hk => hk.1.1)⟩
  have n3_ : Aside0 (((((((w14.setCell ⟨gb278, 0, none⟩ (.int .i64 t267)).setCell ⟨gb278, 1, none⟩ (.int .i64 t268)).setCell ⟨gb278, 2, none⟩ (.int .i64 t269)).setCell ⟨gb279, 0, none⟩ (.int .i64 t270)).setCell ⟨gb279, 1, none⟩ (.int .i64 t271)).setCell ⟨gb279, 2, none⟩ (.slice Ao20 t272.length co20)).heap[gb261]? = some (.cells #[.int .i64 a0_0, .int .i64 a0_1, .slice A0_2 l0_2.length c0_2] 30 (0, 0))) := ⟨by (with_reducible repeat (first | refine blk_drewN ?_ _ | refine blk_drew ?_ | refine blk_alloc ?_ _)); refine blk_far ?_ NB261_279.1 _; (with_reducible repeat (first | refine blk_drewN ?_ _ | refine blk_drew ?_ | refine blk_alloc ?_ _)); refine blk_far ?_ NB261_279.1 _; (with_reducible repeat (first | refine blk_drewN ?_ _ | refine blk_drew ?_ | refine blk_alloc ?_ _)); refine blk_far ?_ NB261_279.1 _; (with_reducible repeat (first | refine blk_drewN ?_ _ | refine blk_drew ?_ | refine blk_alloc ?_ _)); refine blk_far ?_ NB261_278.1 _; (with_reducible repeat (first | refine blk_drewN ?_ _ | refine blk_drew ?_ | refine blk_alloc ?_ _)); refine blk_far ?_ NB261_278.1 _; (with_reducible repeat (first | refine blk_drewN ?_ _ | refine blk_drew ?_ | refine blk_alloc ?_ _)); refine blk_far ?_ NB261_278.1 _; (with_reducible repeat (first | refine blk_drewN ?_ _ | refine blk_drew ?_ | refine blk_alloc ?_ _)); exact BK261.1⟩
  have n4_ : Aside0 (((((((w14.setCell ⟨gb278, 0, none⟩ (.int .i64 t267)).setCell ⟨gb278, 1, none⟩ (.int .i64 t268)).setCell ⟨gb278, 2, none⟩ (.int .i64 t269)).setCell ⟨gb279, 0, none⟩ (.int .i64 t270)).setCell ⟨gb279, 1, none⟩ (.int .i64 t271)).setCell ⟨gb279, 2, none⟩ (.slice Ao20 t272.length co20)).heap[gb262]? = some (.cells #[.int .i64 0, .int .i64 0, .int .i64 0] 54 (0, 0))) := ⟨by (with_reducible repeat (first | refine blk_drewN ?_ _ | refine blk_drew ?_ | refine blk_alloc ?_ _)); refine blk_far ?_ NB262_279.1 _; (with_reducible repeat (first | refine blk_drewN ?_ _ | refine blk_drew ?_ | refine blk_alloc ?_ _)); refine blk_far ?_ NB262_279.1 _; (with_reducible repeat (first | refine blk_drewN ?_ _ | refine blk_drew ?_ | refine blk_alloc ?_ _)); refine blk_far ?_ NB262_279.1 _; (with_reducible repeat (first | refine blk_drewN ?_ _ | refine blk_drew ?_ | refine blk_alloc ?_ _)); refine blk_far ?_ NB262_278.1 _; (with_reducible repeat (first | refine blk_drewN ?_ _ | refine blk_drew ?_ | refine blk_alloc ?_ _)); refine blk_far ?_ NB262_278.1 _; (with_reducible repeat (first | refine blk_drewN ?_ _ | refine blk_drew ?_ | refine blk_alloc ?_ _)); refine blk_far ?_ NB262_278.1 _; (with_reducible repeat (first | refine blk_drewN ?_ _ | refine blk_drew ?_ | refine blk_alloc ?_ _)); exact BK262.1⟩
  have n5_ : Aside0 (((((((w14.setCell ⟨gb278, 0, none⟩ (.int .i64 t267)).setCell ⟨gb278, 1, none⟩ (.int .i64 t268)).setCell ⟨gb278, 2, none⟩ (.int .i64 t269)).setCell ⟨gb279, 0, none⟩ (.int .i64 t270)).setCell ⟨gb279, 1, none⟩ (.int .i64 t271)).setCell ⟨gb279, 2, none⟩ (.slice Ao20 t272.length co20)).heap[gb263]? = some (.cells #[.int .i64 0, .int .i64 0, .slice none 0 0] 30 (0, 0))) := ⟨by (with_reducible repeat (first | refine blk_drewN ?_ _ | refine blk_drew ?_ | refine blk_alloc ?_ _)); refine blk_far ?_ NB263_279.1 _; (with_reducible repeat (first | refine blk_drewN ?_ _ | refine blk_drew ?_ | refine blk_alloc ?_ _)); refine blk_far ?_ NB263_279.1 _; (with_reducible repeat (first | refine blk_drewN ?_ _ | refine blk_drew ?_ | refine blk_alloc ?_ _)); refine blk_far ?_ NB263_279.1 _; (with_reducible repeat (first | refine blk_drewN ?_ _ | refine blk_drew ?_ | refine blk_alloc ?_ _)); refine blk_far ?_ NB263_278.1 _; (with_reducible repeat (first | refine blk_drewN ?_ _ | refine blk_drew ?_ | refine blk_alloc ?_ _)); refine blk_far ?_ NB263_278.1 _; (with_reducible repeat (first | refine blk_drewN ?_ _ | refine blk_drew ?_ | refine blk_alloc ?_ _)); refine blk_far ?_ NB263_278.1 _; (with_reducible repeat (first | refine blk_drewN ?_ _ | refine blk_drew ?_ | refine blk_alloc ?_ _)); exact BK263.1⟩
  have n6_ : Aside0 (((((((w14.setCell ⟨gb278, 0, none⟩ (.int .i64 t267)).setCell ⟨gb278, 1, none⟩ (.int .i64 t268)).setCell ⟨gb278, 2, none⟩ (.int .i64 t269)).setCell ⟨gb279, 0, none⟩ (.int .i64 t270)).setCell ⟨gb279, 1, none⟩ (.int .i64 t271)).setCell ⟨gb279, 2, none⟩ (.slice Ao20 t272.length co20)).heap[gb278]? = some (.cells #[.int .i64 t267, .int .i64 t268, .int .i64 t269] 54 (0, 0))) := ⟨by (with_reducible repeat (first | refine blk_drewN ?_ _ | refine blk_drew ?_ | refine blk_alloc ?_ _)); refine blk_far ?_ NB278_279.1 _; (with_reducible repeat (first | refine blk_drewN ?_ _ | refine blk_drew ?_ | refine blk_alloc ?_ _)); refine blk_far ?_ NB278_279.1 _; (with_reducible repeat (first | refine blk_drewN ?_ _ | refine blk_drew ?_ | refine blk_alloc ?_ _)); refine blk_far ?_ NB278_279.1 _; (with_reducible repeat (first | refine blk_drewN ?_ _ | refine blk_drew ?_ | refine blk_alloc ?_ _)); refine blk_put (cs := #[.int .i64 t267, .int .i64 t268, .int .i64 0]) ?_ 2 _ rfl; (with_reducible repeat (first | refine blk_drewN ?_ _ | refine blk_drew ?_ | refine blk_alloc ?_ _)); refine blk_put (cs := #[.int .i64 t267, .int .i64 0, .int .i64 0]) ?_ 1 _ rfl; (with_reducible repeat (first | refine blk_drewN ?_ _ | refine blk_drew ?_ | refine blk_alloc ?_ _)); refine blk_put (cs := #[.int .i64 0, .int .i64 0, .int .i64 0]) ?_ 0 _ rfl; (with_reducible repeat (first | refine blk_drewN ?_ _ | refine blk_drew ?_ | refine blk_alloc ?_ _)); exact BK278.1⟩
  have n7_ : Aside0 (((((((w14.setCell ⟨gb278, 0, none⟩ (.int .i64 t267)).setCell ⟨gb278, 1, none⟩ (.int .i64 t268)).setCell ⟨gb278, 2, none⟩ (.int .i64 t269)).setCell ⟨gb279, 0, none⟩ (.int .i64 t270)).setCell ⟨gb279, 1, none⟩ (.int .i64 t271)).setCell ⟨gb279, 2, none⟩ (.slice Ao20 t272.length co20)).heap[gb279]? = some (.cells #[.int .i64 t270, .int .i64 t271, .slice Ao20 t272.length co20] 30 (0, 0))) := ⟨by (with_reducible repeat (first | refine blk_drewN ?_ _ | refine blk_drew ?_ | refine blk_alloc ?_ _)); refine blk_put (cs := #[.int .i64 t270, .int .i64 t271, .slice none 0 0]) ?_ 2 _ rfl; (with_reducible repeat (first | refine blk_drewN ?_ _ | refine blk_drew ?_ | refine blk_alloc ?_ _)); refine blk_put (cs := #[.int .i64 t270, .int .i64 0, .slice none 0 0]) ?_ 1 _ rfl; (with_reducible repeat (first | refine blk_drewN ?_ _ | refine blk_drew ?_ | refine blk_alloc ?_ _)); refine blk_put (cs := #[.int .i64 0, .int .i64 0, .slice none 0 0]) ?_ 0 _ rfl; (with_reducible repeat (first | refine blk_drewN ?_ _ | refine blk_drew ?_ | refine blk_alloc ?_ _)); refine blk_far ?_ NB279_278.1 _; (with_reducible repeat (first | refine blk_drewN ?_ _ | refine blk_drew ?_ | refine blk_alloc ?_ _)); refine blk_far ?_ NB279_278.1 _; (with_reducible repeat (first | refine blk_drewN ?_ _ | refine blk_drew ?_ | refine blk_alloc ?_ _)); refine blk_far ?_ NB279_278.1 _; (with_reducible repeat (first | refine blk_drewN ?_ _ | refine blk_drew ?_ | refine blk_alloc ?_ _)); exact BK279.1⟩
  have n8_ : Aside0 (Below w.heap.size w ((((((w14.setCell ⟨gb278, 0, none⟩ (.int .i64 t267)).setCell ⟨gb278, 1, none⟩ (.int .i64 t268)).setCell ⟨gb278, 2, none⟩ (.int .i64 t269)).setCell ⟨gb279, 0, none⟩ (.int .i64 t270)).setCell ⟨gb279, 1, none⟩ (.int .i64 t271)).setCell ⟨gb279, 2, none⟩ (.slice Ao20 t272.length co20))) := ⟨BL HB.1⟩
  (try clear HO266)
  (try clear HO274)
  (try clear HO277)
  (try clear BK261)
  (try clear BK262)
  (try clear BK263)
  (try clear BK278)
  (try clear BK279)
  (try clear HB)
  generalize ((((((w14.setCell ⟨gb278, 0, none⟩ (.int .i64 t267)).setCell ⟨gb278, 1, none⟩ (.int .i64 t268)).setCell ⟨gb278, 2, none⟩ (.int .i64 t269)).setCell ⟨gb279, 0, none⟩ (.int .i64 t270)).setCell ⟨gb279, 1, none⟩ (.int .i64 t271)).setCell ⟨gb279, 2, none⟩ (.slice Ao20 t272.length co20)) = w22 at n0_ n1_ n2_ n3_ n4_ n5_ n6_ n7_ n8_ ⊢
  have HO266 := n0_
  have HO274 := n1_
  have HO277 := n2_
  have BK261 := n3_
  have BK262 := n4_
  have BK263 := n5_
  have BK278 := n6_
  have BK279 := n7_
  have HB := n8_
  clear n0_ n1_ n2_ n3_ n4_ n5_ n6_ n7_ n8_
  refine E9 (Kd.R_drew HO266.1) (Kd.R_drew HO274.1) (Kd.S_drew HO277.1) (blk_drew BK261.1) (blk_drew BK262.1) (blk_drew BK263.1) (blk_drew BK278.1) (blk_drew BK279.1) (below_drew1 HB.1) ?_
  clear HO266 HO274 HO277 BK261 BK262 BK263 BK278 BK279 HB
  intro HO266 HO274 HO277 BK261 BK262 BK263 BK278 BK279 HB
  refine start_ (n := 4) (S := fun w' => w'.cell? ⟨gb278, 0, none⟩ = some (.int .i64 t267) ∧ w'.cell? ⟨gb278, 1, none⟩ = some (.int .i64 t268) ∧ w'.cell? ⟨gb278, 2, none⟩ = some (.int .i64 t269) ∧ w'.cell? ⟨gb279, 0, none⟩ = some (.int .i64 t270) ∧ w'.cell? ⟨gb279, 1, none⟩ = some (.int .i64 t271) ∧ w'.cell? ⟨gb279, 2, none⟩ = some (.slice Ao20 t272.length co20)) (ds := []) #[Zz,Zz,Zz,Zz] (by kernel_rfl) rfl rfl ⟨(blk_cell BK278.1 0).trans rfl, (blk_cell BK278.1 1).trans rfl, (blk_cell BK278.1 2).trans rfl, (blk_cell BK279.1 0).trans rfl, (blk_cell BK279.1 1).trans rfl, (blk_cell BK279.1 2).trans rfl⟩ (fun hHeld => ?_)
  generalize w22.drew = w23 at HO266 HO274 HO277 BK261 BK262 BK263 BK278 BK279 HB hHeld ⊢
  refine take_ (i := 0) (N := some 18) (v := ?_) (a' := ?_) #[Yy,Zz,Zz,Zz] rfl rfl (by kernel_rfl) (fun _ _ _ h => h) (Or.inl ⟨by rfl, ?_⟩) hHeld ?_ ?_
  rotate_left
  · rintro w' ⟨s0, s1, s2, s3, s4, s5⟩
    go_simp
    with_reducible rfl
  rotate_left
  · simp only [Act.put, List.setIfInBounds_toArray, List.set_cons_zero, List.set_cons_succ, i64_w, i32_w]
    rfl
  refine take_ (i := 1) (N := some 19) (v := ?_) (a' := ?_) #[Yy,Yy,Zz,Zz] rfl rfl (by kernel_rfl) (fun _ _ _ h => h) (Or.inl ⟨by rfl, ?_⟩) hHeld ?_ ?_
  rotate_left
  · rintro w' ⟨s0, s1, s2, s3, s4, s5⟩
    go_simp
    with_reducible rfl
  rotate_left
  · simp only [Act.put, List.setIfInBounds_toArray, List.set_cons_zero, List.set_cons_succ, i64_w, i32_w]
    rfl
  refine one_ (i := 2) (N := none) #[Yy,Yy,Yy,Zz] rfl rfl (by kernel_rfl) (by decide) (fun K hK => ?_)
  have hs24 : w23.cell? ⟨gb262, 0, none⟩ = some (.int .i64 0) := (blk_cell BK262.1 0).trans rfl
  have hfs24 := blk_frozen BK262.1 0
  have hns24_0 := NB261_262.1
  have hns24_2 := NB263_262.1
  have hms24_0 := NB262_261.1
  have hms24_2 := NB262_263.1
  have hs25 : w23.cell? ⟨gb262, 1, none⟩ = some (.int .i64 0) := (blk_cell BK262.1 1).trans rfl
  have hfs25 := blk_frozen BK262.1 1
  have hs26 : w23.cell? ⟨gb262, 2, none⟩ = some (.int .i64 0) := (blk_cell BK262.1 2).trans rfl
  have hfs26 := blk_frozen BK262.1 2
  refine skip_ (w1 := ?_) (by rfl) rfl ?_ ?_
  rotate_left
  · go_simp
    rfl
  refine hK.out _ _ ⟨(CF3 NB278_262.1 hHeld.1), (CF3 NB278_262.1 hHeld.2.1), (CF3 NB278_262.1 hHeld.2.2.1), (CF3 NB279_262.1 hHeld.2.2.2.1), (CF3 NB279_262.1 hHeld.2.2.2.2.1), (CF3 NB279_262.1 hHeld.2.2.2.2.2)⟩ (fun hHeld => ?_)
  clear hK K
  refine one_ (i := 3) (N := none) #[Yy,Yy,Yy,Yy] rfl rfl (by kernel_rfl) (by decide) (fun K hK => ?_)
  have hs27 : w23.cell? ⟨gb263, 0, none⟩ = some (.int .i64 0) := (blk_cell BK263.1 0).trans rfl
  have hfs27 := blk_frozen BK263.1 0
  have hns27_0 := NB261_263.1
  have hms27_0 := NB263_261.1
  have hs28 : w23.cell? ⟨gb263, 1, none⟩ = some (.int .i64 0) := (blk_cell BK263.1 1).trans rfl
  have hfs28 := blk_frozen BK263.1 1
  have hs29 : w23.cell? ⟨gb263, 2, none⟩ = some (.slice none 0 0) := (blk_cell BK263.1 2).trans rfl
  have hfs29 := blk_frozen BK263.1 2
  refine skip_ (w1 := ?_) (by rfl) rfl ?_ ?_
  rotate_left
  · go_simp
    rfl
  refine hK.out _ _ ⟨(CF3 NB278_263.1 hHeld.1), (CF3 NB278_263.1 hHeld.2.1), (CF3 NB278_263.1 hHeld.2.2.1), (CF3 NB279_263.1 hHeld.2.2.2.1), (CF3 NB279_263.1 hHeld.2.2.2.2.1), (CF3 NB279_263.1 hHeld.2.2.2.2.2)⟩ (fun hHeld => ?_)
  clear hK K
  refine done_ (by kernel_rfl) ?_
  try go_wp2
  refine bodyPost_ret (results_cc rfl _ _ gb262 gb263 54 30 #[.int .i64 t267, .int .i64 t268, .int .i64 t269] #[.int .i64 t270, .int .i64 t271, .slice Ao20 t272.length co20] (0, 0) (0, 0) _ _ rfl (PF1 NB262_263.1 BK262.1) Try.underlying54 rfl (by kernel_rfl) rfl (PF1 NB263_262.1 BK263.1) Try.underlying30 rfl (by kernel_rfl)) rfl ?_
  exact ⟨_, RF, by (with_reducible repeat (first | apply Kd.R_alloc | apply Kd.R_drewN | apply Kd.R_drew)); exact Kd.R_mono (Kd.R_far (p := ⟨gb263, 2, none⟩) (Kd.R_far (p := ⟨gb263, 1, none⟩) (Kd.R_far (p := ⟨gb263, 0, none⟩) (Kd.R_far (p := ⟨gb262, 2, none⟩) (Kd.R_far (p := ⟨gb262, 1, none⟩) (Kd.R_far (p := ⟨gb262, 0, none⟩) (Kd.R_types (Kd.R_types HO274.1 BK262.1 (by decide)) BK263.1 (by decide)) (fun _ hk => hk.1.2) (.int .i64 t267)) (fun _ hk => hk.1.2) (.int .i64 t268)) (fun _ hk => hk.1.2) (.int .i64 t269)) (fun _ hk => hk.2) (.int .i64 t270)) (fun _ hk => hk.2) (.int .i64 t271)) (fun _ hk => hk.2) (.slice Ao20 t272.length co20)) (fun _ hk => trivial), BL HB.1⟩

/-! ### spec_saTurn: function 98 -/
def spec_saTurn.l0 : Nat → List Int → Int → Int → Int → Int → List (S83) → Option ((List (S83)))
  | 0, _, _, _, _, _, _ => none
  | k + 1, x6, x7, x8, x281000, x281001, x281002 => if x8 < x7 then (if 0 ≤ x8 then (if x8 < (x6.length : Int) then (if 0 ≤ (rd x6 x8) then (if (rd x6 x8) < (x281002.length : Int) then ((spec_paTurn.f ((rd_T83 x281002 (rd x6 x8)).f0) ((rd_T83 x281002 (rd x6 x8)).f1)).bind fun bt283 => (spec_saTurn.l0 k x6 x7 (wrap64 (x8 + 1)) x281000 x281001 (x281002.set ((rd x6 x8) : Int).toNat (⟨bt283.1, bt283.2⟩ : S83)))) else (none)) else (none)) else (none)) else (none)) else (some x281002)
def spec_saTurn.f (k : Nat) (a0_0 : Int) (a0_1 : Int) (l0_2 : List (S83)) (l1 : List Int) : Option ((List (S83))) := spec_saTurn.l0 k l1 (l1.length : Int) 0 a0_0 a0_1 l0_2
theorem spec_saTurn.mono_l : ∀ k, (∀ y0 y1 y2 y3 y4 y5, LeO (spec_saTurn.l0 k y0 y1 y2 y3 y4 y5) (spec_saTurn.l0 (k + 1) y0 y1 y2 y3 y4 y5))
  | 0 => fun _ _ _ _ _ _ r h => by simp [spec_saTurn.l0] at h
  | k + 1 => by
    have ih0 := spec_saTurn.mono_l k
    intros
    first | unfold spec_saTurn.l0
    repeat' first | (with_reducible first | apply ih0 | exact LeO.refl _ | exact LeO.none _ | refine LeO.ite ?_ ?_ | refine LeO.bind ?_ (fun _ => ?_)) | apply ih0 | exact LeO.none _ | refine LeO.ite ?_ ?_ | refine LeO.bind ?_ (fun _ => ?_)
theorem spec_saTurn.mono : ∀ a0 a1 a2 a3 k, LeO (spec_saTurn.f k a0 a1 a2 a3) (spec_saTurn.f (k + 1) a0 a1 a2 a3) := by
  intro a0 a1 a2 a3 k
  have ih0 := spec_saTurn.mono_l k
  unfold spec_saTurn.f
  repeat' first | (with_reducible first | apply ih0 | exact LeO.refl _ | exact LeO.none _ | refine LeO.ite ?_ ?_ | refine LeO.bind ?_ (fun _ => ?_)) | apply ih0 | exact LeO.none _ | refine LeO.ite ?_ ?_ | refine LeO.bind ?_ (fun _ => ?_)
def spec_saTurn.T4 : Bool × List (List Nat × List Nat) := (true, [([], []), ([0], [0]), ([], []), ([], []), ([3], [3]), ([], []), ([4, 5], [4, 5]), ([6], [6]), ([7], [7]), ([1, 2, 0, 1, 2, 3, 4, 5, 6, 7, 8], [1, 2]), ([9, 8, 8, 0, 1, 2, 3, 4, 5, 6, 7, 8], [8, 9])])
def spec_saTurn.B4 : List Nat := [0, 1, 0, 0, 8, 0, 56, 120, 248, 511, 1023]
theorem spec_saTurn.tab4 : rtab .any (opsOf Try.f98 4) = spec_saTurn.T4 := by kernel_rfl
theorem spec_saTurn.bits4 : waitsOk spec_saTurn.T4.2 spec_saTurn.B4 = true := by kernel_rfl
set_option maxHeartbeats 8000000 in
set_option maxRecDepth 100000 in
theorem spec_saTurn.calls (k : Nat) (a0_0 : Int) (a0_1 : Int) (P0_2_ : Nat → Prop) (u9000_ : Value) (l0_2 : List (S83)) (A1 : Option Addr) (c1 : Nat) (l1 : List Int) (r : List (S83)) (w0 w : World) (hB : Below w0.heap.size w0 w) (ho0_2 : Kd.R k83 83 w w0.heap.size P0_2_ u9000_ l0_2) (hr1 : ∀ W_, Kept w W_ (fun k_ => P0_2_ k_) → Kd.C (Kd.int .i64) W_ A1 l1.length l1) (hc1 : l1.length ≤ c1) (h : spec_saTurn.f k a0_0 a0_1 l0_2 l1 = some r) :
    Calls Try.prog 98 #[.agg #[.int .i64 a0_0, .int .i64 a0_1, u9000_], .slice A1 l1.length c1] w fun e w' => e = .returned (.tuple #[]) ∧ Kd.R k83 83 w' w0.heap.size (fun k_ => (P0_2_ k_ ∨ w.heap.size ≤ k_)) u9000_ r ∧ Below w0.heap.size w0 w' ∧ Kept w w' (fun k_ => P0_2_ k_) := by
  have hu30 := Try.underlying30
  have hu83 := Try.underlying83
  have HO0_2 := Aside0.mk (show Kd.R k83 83 w w0.heap.size (fun k_ => (P0_2_ k_ ∨ w.heap.size ≤ k_)) u9000_ l0_2 from Kd.R_mono ho0_2 (fun k_ hk => (.inl hk)))
  have HR1 := Aside0.mk hr1
  have HC1 := Aside0.mk hc1
  clear hr1 hc1
  have HK := Aside0.mk (Kept.refl w (fun k_ => P0_2_ k_))
  have HW0 := Aside0.mk hB.size
  have HB := Aside0.mk hB
  clear hB
  have H := h
  clear h
  unfold spec_saTurn.f at H
  have H' := Aside0.mk H
  clear H
  obtain ⟨Ao3, co3, eo3⟩ := Kd.R_slice HO0_2.1
  subst eo3
  go_enter Try.func98, Try.ntmps98
  go_wp2_with (first | ((with_reducible refine gate_dst (N := 2) rfl ?_); refine boxE (cs := #[.int .i64 a0_0, .int .i64 a0_1, .slice Ao3 l0_2.length co3]) (t := 30) ?_; intro gb280 hg w4 hbox hb; refine E6 (Kd.R_below (PR HO0_2.1) hb) (Kept.below (S := (fun k_ => P0_2_ k_)) (KL HK.1) hb) (below_step (BL HB.1) hb) (hbox) ((by rw [hg]; exact (by first | exact HK.1.1 | exact (show Kept w _ (fun k_ => P0_2_ k_) from KL HK.1).1) : w.heap.size ≤ gb280)) (gwM hg (below_size (BL HB.1)) : w0.heap.size ≤ gb280) ?_; clear HO0_2 HK HB; intro HO0_2 HK HB BK280 GW280 GE280; clear hb hbox hg))
  go_loopg [8] k (fun kq v8 w' => ∃ (x8_1 : Int) (x281002_1 : List (S83)), v8 = .int .i64 x8_1 ∧ Aside0 (spec_saTurn.l0 kq l1 (l1.length : Int) x8_1 a0_0 a0_1 x281002_1 = some r) ∧ Aside0 (kq ≤ k) ∧ Aside0 (Kd.R k83 83 w' w0.heap.size (fun k_ => (P0_2_ k_ ∨ w.heap.size ≤ k_)) (.slice Ao3 l0_2.length co3) x281002_1) ∧ Aside0 (w'.heap[gb280]? = some (.cells #[.int .i64 a0_0, .int .i64 a0_1, (.slice Ao3 l0_2.length co3)] 30 (0, 0))) ∧ Aside0 (Kept w w' (fun k_ => P0_2_ k_)) ∧ Aside0 (Below w0.heap.size w0 w'))
  case atStart => exact ⟨(0), (l0_2), RG, H', ⟨Nat.le_refl _⟩, ⟨PR HO0_2.1⟩, ⟨PB BK280.1⟩, ⟨KL HK.1⟩, ⟨BL HB.1⟩⟩
  clear H'
  try clear c1
  obtain ⟨x8_1, x281002_1, rfl, HA, HK1, HO_281002, BK280, HK, HB⟩ := hrel
  have hl281002_1 := (Kd.R_reads' HO_281002.1).1
  rw [hl281002_1] at HO_281002
  (try simp only [hl281002_1])
  (try simp only [hl281002_1] at BK280)
  cases gk with
  | zero => exact absurd HA.1 (by simp [spec_saTurn.l0])
  | succ k1 => ?_
  have H := HA.1
  clear HA
  simp only [spec_saTurn.l0] at H
  replace H := ifB H; rcases H with ⟨c5b0, H⟩ | ⟨c5b0, H⟩
  · replace H := ifN H; obtain ⟨c6b0, H⟩ := H
    replace H := ifN H; obtain ⟨c7b0, H⟩ := H
    replace H := ifN H; obtain ⟨c8b0, H⟩ := H
    replace H := ifN H; obtain ⟨c9b0, H⟩ := H
    replace H := bindA H; obtain ⟨⟨t283, t284⟩, A10, H⟩ := H
    dsimp only at H
    generalize hy285 : ((x281002_1.set ((rd l1 x8_1) : Int).toNat (⟨t283, t284⟩ : S83)) : List (S83)) = y285 at H
    have Ny285 := Aside0.mk hy285.symm; clear hy285
    have H' := Aside0.mk H
    clear H
    have p281 : 0 ≤ (x8_1 : Int) := OD
    have q281 : x8_1 < (l1.length : Int) := OD
    obtain ⟨ad281, e281, hx281_0⟩ := Kd.at_int (Kd.C_kept_now HR1.1 HK.1) x8_1 p281 q281
    cases e281
    replace p281 := eq_true p281
    replace q281 := eq_true q281
    try go_wp2
    refine E4 (Kd.R_drew HO_281002.1) (blk_drew BK280.1) (Kept.drew HK.1) (below_drew1 HB.1) ?_
    clear HO_281002 BK280 HK HB
    intro HO_281002 BK280 HK HB
    have p282 : 0 ≤ ((rd l1 x8_1) : Int) := OD
    have q282 : (rd l1 x8_1) < (x281002_1.length : Int) := OD
    obtain ⟨ad282, e282, hx282_0, hx282_1⟩ := at_T83 (Kd.R_reads' HO_281002.1).2.2 (rd l1 x8_1) p282 q282
    cases e282
    replace p282 := eq_true p282
    replace q282 := eq_true q282
    refine start_ (n := 11) (S := fun w' => w'.cell? ⟨gb280, 0, none⟩ = some (.int .i64 a0_0) ∧ w'.cell? ⟨gb280, 1, none⟩ = some (.int .i64 a0_1) ∧ w'.cell? ⟨gb280, 2, none⟩ = some (.slice (some ad282) x281002_1.length co3) ∧ w'.cell? (ad282.add (((rd l1 x8_1)).toNat * 2)) = some (.int .i64 ((rd_T83 x281002_1 (rd l1 x8_1)).f0)) ∧ w'.cell? ⟨(ad282.add (((rd l1 x8_1)).toNat * 2)).block, (ad282.add (((rd l1 x8_1)).toNat * 2)).off + 1, none⟩ = some (.int .i64 ((rd_T83 x281002_1 (rd l1 x8_1)).f1))) (ds := [10]) #[Zz,Zz,Zz,Zz,Zz,Zz,Zz,Zz,Zz,Zz,Zz] (by kernel_rfl) rfl rfl ⟨(blk_cell BK280.1 0).trans rfl, (blk_cell BK280.1 1).trans rfl, (blk_cell BK280.1 2).trans rfl, hx282_0, hx282_1⟩ (fun hHeld => ?_); refine with_tabW spec_saTurn.tab4 spec_saTurn.bits4 (fun HT_ HW_ => ?_)
    generalize wr.drew = w12 at HO_281002 BK280 HK HB hx282_0 hx282_1 hHeld ⊢
    refine pureE (i := 0) (N := some 12) #[Yy,Zz,Zz,Zz,Zz,Zz,Zz,Zz,Zz,Zz,Zz] HT_.1 ?_
    refine pureE (i := 2) (N := some 14) #[Yy,Zz,Yy,Zz,Zz,Zz,Zz,Zz,Zz,Zz,Zz] HT_.1 ?_
    refine pureE (i := 3) (N := some 15) #[Yy,Zz,Yy,Yy,Zz,Zz,Zz,Zz,Zz,Zz,Zz] HT_.1 ?_
    refine pureE (i := 5) (N := some 17) #[Yy,Zz,Yy,Yy,Zz,Yy,Zz,Zz,Zz,Zz,Zz] HT_.1 ?_
    refine take_ (i := 1) (N := some 13) (v := ?_) (a' := ?_) #[Yy,Yy,Yy,Yy,Zz,Yy,Zz,Zz,Zz,Zz,Zz] rfl rfl (take_ofW HT_.1 HW_.1 (by kernel_rfl)) (fun _ _ _ h => h) (Or.inl ⟨by rfl, ?_⟩) hHeld ?_ ?_
    rotate_left
    · rintro w' ⟨s0, s1, s2, s3, s4⟩
      go_simp
      with_reducible rfl
    rotate_left
    · simp only [Act.put, List.setIfInBounds_toArray, List.set_cons_zero, List.set_cons_succ, i64_w, i32_w]
      rfl
    refine take_ (i := 4) (N := some 16) (v := ?_) (a' := ?_) #[Yy,Yy,Yy,Yy,Yy,Yy,Zz,Zz,Zz,Zz,Zz] rfl rfl (take_ofW HT_.1 HW_.1 (by kernel_rfl)) (fun _ _ _ h => h) (Or.inl ⟨by rfl, ?_⟩) hHeld ?_ ?_
    rotate_left
    · rintro w' ⟨s0, s1, s2, s3, s4⟩
      go_simp
      with_reducible rfl
    rotate_left
    · simp only [Act.put, List.setIfInBounds_toArray, List.set_cons_zero, List.set_cons_succ, i64_w, i32_w]
      rfl
    refine pureE (i := 6) (N := some 18) #[Yy,Yy,Yy,Yy,Yy,Yy,Yy,Zz,Zz,Zz,Zz] HT_.1 ?_
    refine take_ (i := 7) (N := some 19) (v := ?_) (a' := ?_) #[Yy,Yy,Yy,Yy,Yy,Yy,Yy,Yy,Zz,Zz,Zz] rfl rfl (take_ofW HT_.1 HW_.1 (by kernel_rfl)) (fun _ _ _ h => h) (Or.inl ⟨by rfl, ?_⟩) hHeld ?_ ?_
    rotate_left
    · rintro w' ⟨s0, s1, s2, s3, s4⟩
      go_simp
      with_reducible rfl
    rotate_left
    · simp only [Act.put, List.setIfInBounds_toArray, List.set_cons_zero, List.set_cons_succ, i64_w, i32_w]
      rfl
    refine one_ (i := 8) (N := some 20) #[Yy,Yy,Yy,Yy,Yy,Yy,Yy,Yy,Yy,Zz,Zz] rfl rfl (one_of HT_.1 (by kernel_rfl)) (by decide) (fun K hK => ?_)
    refine goes_ Try.func101 (by kernel_rfl) rfl #[.agg #[.int .i64 ((rd_T83 x281002_1 (rd l1 x8_1)).f0), .int .i64 ((rd_T83 x281002_1 (rd l1 x8_1)).f1)]] (by rfl) rfl rfl (by (try simp only [List.map_toArray, List.map_cons, List.map_nil]); first | done | rfl | (simp only [List.length_drop, List.length_take]; rfl)) ?_
    with_reducible refine (spec_paTurn.calls ((rd_T83 x281002_1 (rd l1 x8_1)).f0) ((rd_T83 x281002_1 (rd l1 x8_1)).f1) t283 t284 _ A10.1).mono ?_
    rintro e w13 ⟨rfl, hb⟩
    have HS3_ := (hb.cell (World.block_lt_of_cell? _ _ (hHeld.2.2.2.1))).trans (hHeld.2.2.2.1)
    have HS4_ := (hb.cell (World.block_lt_of_cell? _ _ (hHeld.2.2.2.2))).trans (hHeld.2.2.2.2)
    refine ⟨_, rfl, ?_⟩
    refine E4 (Kd.R_below (PR HO_281002.1) hb) (bB BK280.1 hb) (Kept.below (S := (fun k_ => P0_2_ k_)) (KL HK.1) hb) (below_step (BL HB.1) hb) ?_
    clear HO_281002 BK280 HK HB
    intro HO_281002 BK280 HK HB
    (try clear hb)
    (try clear hb2)
    (try clear hk)
    (try clear hi)
    have p11 : 0 ≤ ((rd l1 x8_1) : Int) := OD
    have q11 : ((rd l1 x8_1) : Int) < ((x281002_1.length : Int) : Int) := OD
    obtain ⟨go11, co11, eo11, gb11, gl11, cl11, HG11⟩ := Kd.R_form HO_281002.1 (by omega)
    (first | cases eo11 | (injection eo11 with ea_ en_ ec_; (first | subst ea_ | (injection ea_ with ea_; subst ea_)); subst ec_; clear en_))
    have GB11 := Aside0.mk gb11
    have GG11 := Aside0.mk HG11
    clear gb11 gl11 HG11
    have HMgo11 := Aside0.mk (show (P0_2_ go11 ∨ w.heap.size ≤ go11) from (HO_281002.1.1 _ rfl))
    (first | simp only [add_plain] at hx282_0 | skip)
    (first | simp only [add_plain] at hx282_1 | skip)
    obtain ⟨ce11, hcl11, hM11, hcc11, hfr11⟩ := Kd.R_elem HO_281002.1 z83 ((rd l1 x8_1) : Int) p11 q11
    obtain rfl := k83_openM hM11
    have hx11_0 : World.cell? _ ⟨go11, ((rd l1 x8_1) : Int).toNat * 2, none⟩ = some (.int .i64 ((rd_T83 x281002_1 (rd l1 x8_1)).f0)) := hcc11 0 _ rfl
    have hx11_1 : World.cell? _ ⟨go11, ((rd l1 x8_1) : Int).toNat * 2 + 1, none⟩ = some (.int .i64 ((rd_T83 x281002_1 (rd l1 x8_1)).f1)) := hcc11 1 _ rfl
    have hf11_0 : World.frozen? _ ⟨go11, ((rd l1 x8_1) : Int).toNat * 2, none⟩ = false := hfr11 0
    have hf11_1 : World.frozen? _ ⟨go11, ((rd l1 x8_1) : Int).toNat * 2 + 1, none⟩ = false := hfr11 1
    (try clear hM11); clear hcl11 hcc11 hfr11
    replace p11 := eq_true p11
    replace q11 := eq_true q11
    obtain ⟨ce14, hcl14, hM14, hcc14, hfr14⟩ := Kd.R_elem HO_281002.1 z83 ((rd l1 x8_1) : Int) (OD) (by have h_ : ((rd l1 x8_1) : Int) < ((x281002_1.length : Int) : Int) := OD; first | exact h_ | (have e_ := (Kd.R_reads' HO_281002.1).1; omega) | simpa using h_)
    obtain rfl := k83_openM hM14
    have HP14 := (Kd.R_seg HO_281002.1 ((rd l1 x8_1) : Int) (OD) (by have h_ : ((rd l1 x8_1) : Int) < ((x281002_1.length : Int) : Int) := OD; first | exact h_ | (have e_ := (Kd.R_reads' HO_281002.1).1; omega) | simpa using h_) (seg := [.int .i64 t283, .int .i64 t284]) (j := 0) hcl14 hcc14 (show 2 ≤ 2 from by decide) (x' := (⟨t283, t284⟩ : S83)) (k83_mkM _ _ _ (⟨t283, t284⟩ : S83) ) (fun _ hk => hk)).1
    rw [← Ny285.1] at HP14
    have HQ14 := Aside0.mk HP14
    (try clear hM14); clear hcl14 hcc14 hfr14 HP14
    refine hK.out _ _ ⟨(blk_cell BK280.1 0).trans rfl, (blk_cell BK280.1 1).trans rfl, (blk_cell BK280.1 2).trans rfl, HS3_, HS4_⟩ (fun hHeld => ?_)
    clear hK K
    refine norm_ (a' := ?_) ?_ ?_
    rotate_left
    · show Act.put _ (some 20) _ = _
      simp only [Act.put, List.setIfInBounds_toArray, List.set_cons_zero, List.set_cons_succ, i64_w, i32_w]
      rfl
    refine pureE (i := 9) (N := some 21) #[Yy,Yy,Yy,Yy,Yy,Yy,Yy,Yy,Yy,Yy,Zz] HT_.1 ?_
    refine last_ (i := 10) (N := none) #[Yy,Yy,Yy,Yy,Yy,Yy,Yy,Yy,Yy,Yy,Yy] rfl rfl (one_of HT_.1 (by kernel_rfl)) (by decide) (fun K hK => ?_)
    refine skip_ (w1 := ?_) (by rfl) rfl ?_ ?_
    rotate_left
    · go_simp
      rfl
    refine hK.out _ _ ?_
    clear hK K
    refine done_ (done_of HT_.1 (by kernel_rfl)) ?_
    try go_wp2
    (try simp only [← hl281002_1])
    go_roundg k1
    case measure => have := HK1.1; omega
    case rel => exact ⟨(wrap64 (x8_1 + 1)), (y285), RG, H', ⟨by have := HK1.1; omega⟩, ⟨PR1 HQ14.1 hl281002_1⟩, ⟨by (try simp only [hl281002_1]); (with_reducible repeat (first | refine blk_drewN ?_ _ | refine blk_drew ?_ | refine blk_alloc ?_ _)); refine blk_far ?_ (by have h_ := Kd.R_ne HO_281002.1 BK280.1 (by decide); intro e_; exact h_ (by rw [e_]; rfl)) _; (with_reducible repeat (first | refine blk_drewN ?_ _ | refine blk_drew ?_ | refine blk_alloc ?_ _)); refine blk_far ?_ (by have h_ := Kd.R_ne HO_281002.1 BK280.1 (by decide); intro e_; exact h_ (by rw [e_]; rfl)) _; (with_reducible repeat (first | refine blk_drewN ?_ _ | refine blk_drew ?_ | refine blk_alloc ?_ _)); exact BK280.1⟩, ⟨by repeat (first | (with_reducible first | exact HK.1 | apply Kept.alloc | apply Kept.drewN | apply Kept.drew | refine Kept.setCell ?_ HMgo11.1 _ | refine Kept.setCell ?_ HMgo11.1 _ | refine Kept.setCell ?_ (.inr GW280.1) _) | exact HK.1)⟩, ⟨BL HB.1⟩⟩
  obtain rfl := Option.some.inj H
  go_wp2
  first | go_end0 | ((try simp only [Exit.inBlock, Exit.then]); refine bodyPost_ret (results_none rfl _ _ _) rfl ?_)
  exact ⟨RF, (by first | exact (PR HO_281002.1) | (simp only [hl281002_1]; exact (PR HO_281002.1))), BL HB.1, KL HK.1⟩
/-! ### spec_saWith: function 85 -/
def spec_saWith.l0 : Nat → List Int → List (List Int) → Int → Int → Int → Int → List (S83) → Int → Int → List (S83) → Option (Int × Int × (List (S83)))
  | 0, _, _, _, _, _, _, _, _, _, _ => none
  | k + 1, x1, x11, x12, x13, x287000, x287001, x287002, x294000, x294001, x294002 => if x13 < x12 then (if 0 ≤ x13 then (if x13 < (x11.length : Int) then (if 0 < ((rd_L3 x11 x13).length : Int) then (if 0 ≤ (rd (rd_L3 x11 x13) 0) then (if (rd (rd_L3 x11 x13) 0) < (x287002.length : Int) then (if x13 < (x1.length : Int) then (if ((rd_T83 x287002 (rd (rd_L3 x11 x13) 0)).f1) = (rd x1 x13) then (spec_saWith.l0 k x1 x11 x12 (wrap64 (x13 + 1)) x287000 x287001 x287002 x294000 x294001 x294002) else ((spec_saTurn.f k x294000 x294001 x294002 (rd_L3 x11 x13)).bind fun t301 => (spec_saWith.l0 k x1 x11 x12 (wrap64 (x13 + 1)) x287000 x287001 x287002 x294000 x294001 t301))) else (none)) else (none)) else (none)) else (none)) else (none)) else (none)) else (some (x294000, x294001, x294002))
def spec_saWith.f (k : Nat) (a0_0 : Int) (a0_1 : Int) (l0_2 : List (S83)) (l1 : List Int) : Option (Int × Int × (List (S83))) := (spec_boOwn.f a0_0 a0_1 l0_2).bind fun bt288 => ((spec_saUnits.f k a0_0 a0_1 l0_2).bind fun t294 => (spec_saWith.l0 k l1 t294 (t294.length : Int) 0 a0_0 a0_1 l0_2 bt288.1 bt288.2.1 bt288.2.2))
theorem spec_saWith.mono_l : ∀ k, (∀ y0 y1 y2 y3 y4 y5 y6 y7 y8 y9, LeO (spec_saWith.l0 k y0 y1 y2 y3 y4 y5 y6 y7 y8 y9) (spec_saWith.l0 (k + 1) y0 y1 y2 y3 y4 y5 y6 y7 y8 y9))
  | 0 => fun _ _ _ _ _ _ _ _ _ _ r h => by simp [spec_saWith.l0] at h
  | k + 1 => by
    have ih0 := spec_saWith.mono_l k
    intros
    first | unfold spec_saWith.l0
    repeat' first | (with_reducible first | apply ih0 | apply spec_saTurn.mono | apply spec_saUnits.mono | exact LeO.refl _ | exact LeO.none _ | refine LeO.ite ?_ ?_ | refine LeO.bind ?_ (fun _ => ?_)) | apply ih0 | apply spec_saTurn.mono | apply spec_saUnits.mono | exact LeO.none _ | refine LeO.ite ?_ ?_ | refine LeO.bind ?_ (fun _ => ?_)
theorem spec_saWith.mono : ∀ a0 a1 a2 a3 k, LeO (spec_saWith.f k a0 a1 a2 a3) (spec_saWith.f (k + 1) a0 a1 a2 a3) := by
  intro a0 a1 a2 a3 k
  have ih0 := spec_saWith.mono_l k
  unfold spec_saWith.f
  repeat' first | (with_reducible first | apply ih0 | apply spec_saTurn.mono | apply spec_saUnits.mono | exact LeO.refl _ | exact LeO.none _ | refine LeO.ite ?_ ?_ | refine LeO.bind ?_ (fun _ => ?_)) | apply ih0 | apply spec_saTurn.mono | apply spec_saUnits.mono | exact LeO.none _ | refine LeO.ite ?_ ?_ | refine LeO.bind ?_ (fun _ => ?_)
set_option maxHeartbeats 8000000 in
set_option maxRecDepth 100000 in
theorem spec_saWith.calls (k : Nat) (a0_0 : Int) (a0_1 : Int) (A0_2 : Option Addr) (c0_2 : Nat) (l0_2 : List (S83)) (A1 : Option Addr) (c1 : Nat) (l1 : List Int) (r1 : Int) (r2 : Int) (r3 : List (S83)) (w : World) (hr0_2 : Kd.C k83 w A0_2 l0_2.length l0_2) (hc0_2 : l0_2.length ≤ c0_2) (hr1 : Kd.C (Kd.int .i64) w A1 l1.length l1) (hc1 : l1.length ≤ c1) (h : spec_saWith.f k a0_0 a0_1 l0_2 l1 = some (r1, r2, r3)) :
    Calls Try.prog 85 #[.agg #[.int .i64 a0_0, .int .i64 a0_1, .slice A0_2 l0_2.length c0_2], .slice A1 l1.length c1] w fun e w' => ∃ v2_ : Value, e = .returned (.agg #[.int .i64 r1, .int .i64 r2, v2_]) ∧ Kd.R k83 83 w' w.heap.size (fun _ => True) v2_ r3 ∧ Below w.heap.size w w' := by
  have hu30 := Try.underlying30
  have HR0_2 := Aside0.mk hr0_2
  have HC0_2 := Aside0.mk hc0_2
  clear hr0_2 hc0_2
  have HR1 := Aside0.mk hr1
  have HC1 := Aside0.mk hc1
  clear hr1 hc1
  have HB := Aside0.mk (Below.refl w.heap.size w)
  have H := h
  clear h
  unfold spec_saWith.f at H
  replace H := bindA H; obtain ⟨⟨t288, t289, t290⟩, A3, H⟩ := H
  dsimp only at H
  replace H := bindA H; obtain ⟨t294, A4, H⟩ := H
  have H' := Aside0.mk H
  clear H
  go_enter Try.func85, Try.ntmps85
  go_wp2_with (first | ((with_reducible refine gate_dst (N := 2) rfl ?_); refine boxE (cs := #[.int .i64 a0_0, .int .i64 a0_1, .slice A0_2 l0_2.length c0_2]) (t := 30) ?_; intro gb286 hg w5 hbox hb; refine E4b HB.1 hg hbox hb ?_; clear HB; intro HB BK286 GW286 GE286; clear hb hbox hg) | ((with_reducible refine gate_dst (N := 4) rfl ?_); refine boxE (cs := #[.int .i64 0, .int .i64 0, .slice none 0 0]) (t := 30) ?_; intro gb287 hg w6 hbox hb; refine E7 (bB BK286.1 hb) (below_step (BL HB.1) hb) (hbox) (gX HB.1 hg) (gX HB.1 hg) (nB BK286.1 hg) (nC BK286.1 hg) ?_; clear BK286 HB; intro BK286 HB BK287 GW287 GE287 NB286_287 NB287_286; clear hb hbox hg; have hnb7 := NB286_287.1; have hnc7 := NB287_286.1; obtain ⟨hcz8_0, hcz8_1, hcz8_2, hfz8_0, hfz8_1, hfz8_2⟩ := cz3 BK286.1) | (go_at_call 94; (with_reducible refine (spec_boOwn.calls a0_0 a0_1 _ _ l0_2 t288 t289 t290 _ ?side1 ?side2 A3.1).mono ?_); (case side1 => exact CB (Kd.C_below HR0_2.1 HB.1)); (case side2 => exact HC0_2.1); rintro e w9 ⟨v291, rfl, ho0, hb⟩; refine E4 (Kd.R_lower ho0 (below_size (BL HB.1))) (bB BK286.1 hb) (bB BK287.1 hb) (below_step (BL HB.1) hb) ?_; clear BK286 BK287 HB; intro HO292 BK286 BK287 HB; (try clear hb); (try clear ho0)) | ((with_reducible refine gate_dst (N := 5) rfl ?_); refine boxE (cs := #[.int .i64 0, .int .i64 0, .slice none 0 0]) (t := 30) ?_; intro gb293 hg w10 hbox hb; refine E11 (Kd.R_below (PR HO292.1) hb) (bB BK286.1 hb) (bB BK287.1 hb) (below_step (BL HB.1) hb) (hbox) (gX HB.1 hg) (gX HB.1 hg) (nB BK286.1 hg) (nC BK286.1 hg) (nB BK287.1 hg) (nC BK287.1 hg) ?_; clear HO292 BK286 BK287 HB; intro HO292 BK286 BK287 HB BK293 GW293 GE293 NB286_293 NB293_286 NB287_293 NB293_287; clear hb hbox hg; have hnb11 := NB293_286.1; have hnc11 := NB286_293.1; have hnb12 := NB293_287.1; have hnc12 := NB287_293.1; obtain ⟨hcz13_0, hcz13_1, hcz13_2, hfz13_0, hfz13_1, hfz13_2⟩ := cz3 BK293.1; obtain ⟨Ao14, co14, eo14⟩ := Kd.R_slice HO292.1; subst eo14; obtain ⟨hcz15_0, hcz15_1, hcz15_2, hfz15_0, hfz15_1, hfz15_2⟩ := cz3 BK286.1) | (go_at_call 52; (with_reducible refine (spec_saUnits.calls k a0_0 a0_1 _ _ l0_2 t294 _ ?side1 ?side2 A4.1).mono ?_); (case side1 => exact Kd.C_below HR0_2.1 (BL HB.1)); (case side2 => exact HC0_2.1); rintro e w16 ⟨v295, rfl, ho0, hb⟩; refine E6 (Kd.R_below (by (with_reducible repeat (first | apply Kd.R_alloc | apply Kd.R_drewN | apply Kd.R_drew)); exact (Kd.R_mono (Kd.R_far (p := ⟨gb293, 2, none⟩) (Kd.R_far (p := ⟨gb293, 1, none⟩) (Kd.R_far (p := ⟨gb293, 0, none⟩) (Kd.R_types HO292.1 BK293.1 (by decide)) (fun _ hk => hk.2) (.int .i64 t288)) (fun _ hk => hk.2) (.int .i64 t289)) (fun _ hk => hk.2) (.slice Ao14 t290.length co14)) (fun _ h_ => h_.1))) hb) (Kd.S_lower ho0 (below_size (BL HB.1))) (blk_below (g := gb286) (o := .cells #[.int .i64 a0_0, .int .i64 a0_1, .slice A0_2 l0_2.length c0_2] 30 (0, 0)) (PF1 NB286_293.1 BK286.1) hb) (blk_below (g := gb287) (o := .cells #[.int .i64 0, .int .i64 0, .slice none 0 0] 30 (0, 0)) (PF1 NB287_293.1 BK287.1) hb) (blk_below (g := gb293) (o := .cells #[.int .i64 t288, .int .i64 t289, .slice Ao14 t290.length co14] 30 (0, 0)) (PF0 BK293.1) hb) (below_step (BL HB.1) hb) ?_; clear HO292 BK286 BK287 BK293 HB; intro HO292 HO296 BK286 BK287 BK293 HB; (try clear hb); (try clear hk); (try clear ho0); obtain ⟨Ao17, co17, eo17⟩ := Kd.S_slice HO296.1; subst eo17))
  repeat (go_quiet (first | ((with_reducible refine gate_dst (N := 2) rfl ?_); refine boxE (cs := #[.int .i64 a0_0, .int .i64 a0_1, .slice A0_2 l0_2.length c0_2]) (t := 30) ?_; intro gb286 hg w5 hbox hb; refine E4b HB.1 hg hbox hb ?_; clear HB; intro HB BK286 GW286 GE286; clear hb hbox hg) | ((with_reducible refine gate_dst (N := 4) rfl ?_); refine boxE (cs := #[.int .i64 0, .int .i64 0, .slice none 0 0]) (t := 30) ?_; intro gb287 hg w6 hbox hb; refine E7 (bB BK286.1 hb) (below_step (BL HB.1) hb) (hbox) (gX HB.1 hg) (gX HB.1 hg) (nB BK286.1 hg) (nC BK286.1 hg) ?_; clear BK286 HB; intro BK286 HB BK287 GW287 GE287 NB286_287 NB287_286; clear hb hbox hg; have hnb7 := NB286_287.1; have hnc7 := NB287_286.1; obtain ⟨hcz8_0, hcz8_1, hcz8_2, hfz8_0, hfz8_1, hfz8_2⟩ := cz3 BK286.1) | (go_at_call 94; (with_reducible refine (spec_boOwn.calls a0_0 a0_1 _ _ l0_2 t288 t289 t290 _ ?side1 ?side2 A3.1).mono ?_); (case side1 => exact CB (Kd.C_below HR0_2.1 HB.1)); (case side2 => exact HC0_2.1); rintro e w9 ⟨v291, rfl, ho0, hb⟩; refine E4 (Kd.R_lower ho0 (below_size (BL HB.1))) (bB BK286.1 hb) (bB BK287.1 hb) (below_step (BL HB.1) hb) ?_; clear BK286 BK287 HB; intro HO292 BK286 BK287 HB; (try clear hb); (try clear ho0)) | ((with_reducible refine gate_dst (N := 5) rfl ?_); refine boxE (cs := #[.int .i64 0, .int .i64 0, .slice none 0 0]) (t := 30) ?_; intro gb293 hg w10 hbox hb; refine E11 (Kd.R_below (PR HO292.1) hb) (bB BK286.1 hb) (bB BK287.1 hb) (below_step (BL HB.1) hb) (hbox) (gX HB.1 hg) (gX HB.1 hg) (nB BK286.1 hg) (nC BK286.1 hg) (nB BK287.1 hg) (nC BK287.1 hg) ?_; clear HO292 BK286 BK287 HB; intro HO292 BK286 BK287 HB BK293 GW293 GE293 NB286_293 NB293_286 NB287_293 NB293_287; clear hb hbox hg; have hnb11 := NB293_286.1; have hnc11 := NB286_293.1; have hnb12 := NB293_287.1; have hnc12 := NB287_293.1; obtain ⟨hcz13_0, hcz13_1, hcz13_2, hfz13_0, hfz13_1, hfz13_2⟩ := cz3 BK293.1; obtain ⟨Ao14, co14, eo14⟩ := Kd.R_slice HO292.1; subst eo14; obtain ⟨hcz15_0, hcz15_1, hcz15_2, hfz15_0, hfz15_1, hfz15_2⟩ := cz3 BK286.1) | (go_at_call 52; (with_reducible refine (spec_saUnits.calls k a0_0 a0_1 _ _ l0_2 t294 _ ?side1 ?side2 A4.1).mono ?_); (case side1 => exact Kd.C_below HR0_2.1 (BL HB.1)); (case side2 => exact HC0_2.1); rintro e w16 ⟨v295, rfl, ho0, hb⟩; refine E6 (Kd.R_below (by (with_reducible repeat (first | apply Kd.R_alloc | apply Kd.R_drewN | apply Kd.R_drew)); exact (Kd.R_mono (Kd.R_far (p := ⟨gb293, 2, none⟩) (Kd.R_far (p := ⟨gb293, 1, none⟩) (Kd.R_far (p := ⟨gb293, 0, none⟩) (Kd.R_types HO292.1 BK293.1 (by decide)) (fun _ hk => hk.2) (.int .i64 t288)) (fun _ hk => hk.2) (.int .i64 t289)) (fun _ hk => hk.2) (.slice Ao14 t290.length co14)) (fun _ h_ => h_.1))) hb) (Kd.S_lower ho0 (below_size (BL HB.1))) (blk_below (g := gb286) (o := .cells #[.int .i64 a0_0, .int .i64 a0_1, .slice A0_2 l0_2.length c0_2] 30 (0, 0)) (PF1 NB286_293.1 BK286.1) hb) (blk_below (g := gb287) (o := .cells #[.int .i64 0, .int .i64 0, .slice none 0 0] 30 (0, 0)) (PF1 NB287_293.1 BK287.1) hb) (blk_below (g := gb293) (o := .cells #[.int .i64 t288, .int .i64 t289, .slice Ao14 t290.length co14] 30 (0, 0)) (PF0 BK293.1) hb) (below_step (BL HB.1) hb) ?_; clear HO292 BK286 BK287 BK293 HB; intro HO292 HO296 BK286 BK287 BK293 HB; (try clear hb); (try clear hk); (try clear ho0); obtain ⟨Ao17, co17, eo17⟩ := Kd.S_slice HO296.1; subst eo17)); try go_wp2_with (first | ((with_reducible refine gate_dst (N := 2) rfl ?_); refine boxE (cs := #[.int .i64 a0_0, .int .i64 a0_1, .slice A0_2 l0_2.length c0_2]) (t := 30) ?_; intro gb286 hg w5 hbox hb; refine E4b HB.1 hg hbox hb ?_; clear HB; intro HB BK286 GW286 GE286; clear hb hbox hg) | ((with_reducible refine gate_dst (N := 4) rfl ?_); refine boxE (cs := #[.int .i64 0, .int .i64 0, .slice none 0 0]) (t := 30) ?_; intro gb287 hg w6 hbox hb; refine E7 (bB BK286.1 hb) (below_step (BL HB.1) hb) (hbox) (gX HB.1 hg) (gX HB.1 hg) (nB BK286.1 hg) (nC BK286.1 hg) ?_; clear BK286 HB; intro BK286 HB BK287 GW287 GE287 NB286_287 NB287_286; clear hb hbox hg; have hnb7 := NB286_287.1; have hnc7 := NB287_286.1; obtain ⟨hcz8_0, hcz8_1, hcz8_2, hfz8_0, hfz8_1, hfz8_2⟩ := cz3 BK286.1) | (go_at_call 94; (with_reducible refine (spec_boOwn.calls a0_0 a0_1 _ _ l0_2 t288 t289 t290 _ ?side1 ?side2 A3.1).mono ?_); (case side1 => exact CB (Kd.C_below HR0_2.1 HB.1)); (case side2 => exact HC0_2.1); rintro e w9 ⟨v291, rfl, ho0, hb⟩; refine E4 (Kd.R_lower ho0 (below_size (BL HB.1))) (bB BK286.1 hb) (bB BK287.1 hb) (below_step (BL HB.1) hb) ?_; clear BK286 BK287 HB; intro HO292 BK286 BK287 HB; (try clear hb); (try clear ho0)) | ((with_reducible refine gate_dst (N := 5) rfl ?_); refine boxE (cs := #[.int .i64 0, .int .i64 0, .slice none 0 0]) (t := 30) ?_; intro gb293 hg w10 hbox hb; refine E11 (Kd.R_below (PR HO292.1) hb) (bB BK286.1 hb) (bB BK287.1 hb) (below_step (BL HB.1) hb) (hbox) (gX HB.1 hg) (gX HB.1 hg) (nB BK286.1 hg) (nC BK286.1 hg) (nB BK287.1 hg) (nC BK287.1 hg) ?_; clear HO292 BK286 BK287 HB; intro HO292 BK286 BK287 HB BK293 GW293 GE293 NB286_293 NB293_286 NB287_293 NB293_287; clear hb hbox hg; have hnb11 := NB293_286.1; have hnc11 := NB286_293.1; have hnb12 := NB293_287.1; have hnc12 := NB287_293.1; obtain ⟨hcz13_0, hcz13_1, hcz13_2, hfz13_0, hfz13_1, hfz13_2⟩ := cz3 BK293.1; obtain ⟨Ao14, co14, eo14⟩ := Kd.R_slice HO292.1; subst eo14; obtain ⟨hcz15_0, hcz15_1, hcz15_2, hfz15_0, hfz15_1, hfz15_2⟩ := cz3 BK286.1) | (go_at_call 52; (with_reducible refine (spec_saUnits.calls k a0_0 a0_1 _ _ l0_2 t294 _ ?side1 ?side2 A4.1).mono ?_); (case side1 => exact Kd.C_below HR0_2.1 (BL HB.1)); (case side2 => exact HC0_2.1); rintro e w16 ⟨v295, rfl, ho0, hb⟩; refine E6 (Kd.R_below (by (with_reducible repeat (first | apply Kd.R_alloc | apply Kd.R_drewN | apply Kd.R_drew)); exact (Kd.R_mono (Kd.R_far (p := ⟨gb293, 2, none⟩) (Kd.R_far (p := ⟨gb293, 1, none⟩) (Kd.R_far (p := ⟨gb293, 0, none⟩) (Kd.R_types HO292.1 BK293.1 (by decide)) (fun _ hk => hk.2) (.int .i64 t288)) (fun _ hk => hk.2) (.int .i64 t289)) (fun _ hk => hk.2) (.slice Ao14 t290.length co14)) (fun _ h_ => h_.1))) hb) (Kd.S_lower ho0 (below_size (BL HB.1))) (blk_below (g := gb286) (o := .cells #[.int .i64 a0_0, .int .i64 a0_1, .slice A0_2 l0_2.length c0_2] 30 (0, 0)) (PF1 NB286_293.1 BK286.1) hb) (blk_below (g := gb287) (o := .cells #[.int .i64 0, .int .i64 0, .slice none 0 0] 30 (0, 0)) (PF1 NB287_293.1 BK287.1) hb) (blk_below (g := gb293) (o := .cells #[.int .i64 t288, .int .i64 t289, .slice Ao14 t290.length co14] 30 (0, 0)) (PF0 BK293.1) hb) (below_step (BL HB.1) hb) ?_; clear HO292 BK286 BK287 BK293 HB; intro HO292 HO296 BK286 BK287 BK293 HB; (try clear hb); (try clear hk); (try clear ho0); obtain ⟨Ao17, co17, eo17⟩ := Kd.S_slice HO296.1; subst eo17)))
  go_loopg [13] k (fun kq v13 w' => ∃ (x13_1 : Int) (x294002_1 : List (S83)) (u294002 : Value), v13 = .int .i64 x13_1 ∧ Aside0 (spec_saWith.l0 kq l1 t294 (t294.length : Int) x13_1 a0_0 a0_1 l0_2 t288 t289 x294002_1 = some (r1, r2, r3)) ∧ Aside0 (kq ≤ k) ∧ Aside0 (Kd.S (Kd.slice 3 (Kd.int .i64)) 38 w' w.heap.size (fun _ => True) (.slice Ao17 t294.length co17) t294) ∧ Aside0 (Kd.R k83 83 w' w.heap.size (fun _ => True) u294002 x294002_1) ∧ Aside0 (w'.heap[gb286]? = some (.cells #[.int .i64 a0_0, .int .i64 a0_1, (.slice A0_2 l0_2.length c0_2)] 30 (0, 0))) ∧ Aside0 (w'.heap[gb287]? = some (.cells #[.int .i64 0, .int .i64 0, (.slice none 0 0)] 30 (0, 0))) ∧ Aside0 (w'.heap[gb293]? = some (.cells #[.int .i64 t288, .int .i64 t289, u294002] 30 (0, 0))) ∧ Aside0 (Below w.heap.size w w'))
  case atStart => exact ⟨(0), (t290), (.slice Ao14 t290.length co14), RG, H', ⟨Nat.le_refl _⟩, ⟨PS HO296.1⟩, ⟨PR HO292.1⟩, ⟨PB BK286.1⟩, ⟨PB BK287.1⟩, ⟨PB BK293.1⟩, ⟨BL HB.1⟩⟩
  clear H'
  try clear c1; try clear hcz13_0; try clear hcz13_1; try clear hcz13_2; try clear hcz15_0; try clear hcz15_1; try clear hcz15_2; try clear hcz8_0; try clear hcz8_1; try clear hcz8_2; try clear hfz13_0; try clear hfz13_1; try clear hfz13_2; try clear hfz15_0; try clear hfz15_1; try clear hfz15_2; try clear hfz8_0; try clear hfz8_1; try clear hfz8_2
  obtain ⟨x13_1, x294002_1, u294002, rfl, HA, HK1, HO_11, HO_294002, BK286, BK287, BK293, HB⟩ := hrel
  cases gk with
  | zero => exact absurd HA.1 (by simp [spec_saWith.l0])
  | succ k1 => ?_
  have H := HA.1
  clear HA
  simp only [spec_saWith.l0] at H
  replace H := ifB H; rcases H with ⟨c18b0, H⟩ | ⟨c18b0, H⟩
  · replace H := ifN H; obtain ⟨c19b0, H⟩ := H
    replace H := ifN H; obtain ⟨c20b0, H⟩ := H
    replace H := ifP H; obtain ⟨c21, H⟩ := H
    have c21b0 := decide_eq_true c21
    have c21b1 : decide (0 < (rd_L3 t294 x13_1).length) = true := decide_eq_true (by omega)
    clear c21
    replace H := ifN H; obtain ⟨c22b0, H⟩ := H
    replace H := ifN H; obtain ⟨c23b0, H⟩ := H
    replace H := ifN H; obtain ⟨c24b0, H⟩ := H
    replace H := ifQ H; rcases H with ⟨c25, H⟩ | ⟨c25, H⟩
    · have c25b0 := beq_iff_eq.mpr c25
      have c25b1 := bne_eq_false_iff_eq.mpr c25
      clear c25
      have H' := Aside0.mk H
      clear H
      have p297 : 0 ≤ (x13_1 : Int) := OD
      have q297 : x13_1 < (t294.length : Int) := OD
      obtain ⟨ad297, A297_0, c297_0, e297, hx297_0, hl297_0, hi297_0⟩ := at_L3 (Kd.S_reads' HO_11.1).2.2 x13_1 p297 q297
      cases e297
      obtain ⟨ce297, hce297, hMe297, hcc297⟩ := Kd.S_get HO_11.1 [] x13_1 p297 (by first | exact q297 | exact OD | (have e_ := (Kd.S_reads' HO_11.1).1; omega))
      obtain ⟨ve297_0, rfl, ge297_0⟩ := hMe297
      have hv297_0 := hcc297 0 _ rfl
      rw [Nat.add_zero, show ((Kd.slice 3 (Kd.int .i64))).sz = 1 from rfl, Nat.mul_one] at hv297_0
      replace hv297_0 := Option.some.inj (hv297_0.symm.trans hx297_0)
      rw [hv297_0] at ge297_0
      have HL297_0 := Aside0.mk (show Kd.R (Kd.int .i64) 3 _ _ _ _ (rd_L3 t294 x13_1) from ge297_0)
      clear hv297_0 ge297_0
      clear hcc297 hce297
      have HR297_0 := Aside0.mk hi297_0
      have HC297_0 := Aside0.mk hl297_0
      clear hi297_0 hl297_0
      replace p297 := eq_true p297
      replace q297 := eq_true q297
      obtain ⟨hcz28_0, hcz28_1, hcz28_2, hfz28_0, hfz28_1, hfz28_2⟩ := cz3 BK286.1
      have p298 : 0 ≤ (0 : Int) := (by omega)
      have q298 : 0 < ((rd_L3 t294 x13_1).length : Int) := OD
      obtain ⟨ad298, e298, hx298_0⟩ := Kd.at_int (by repeat (first | (with_reducible exact HR297_0.1) | (with_reducible refine Kd.C_alloc ?_ _) | (with_reducible refine Kd.C_drewN ?_ _) | (with_reducible refine Kd.C_drew ?_) | exact HR297_0.1)) 0 p298 q298
      cases e298
      have qi298 : (0 < (rd_L3 t294 x13_1).length) = True := eq_true (by omega)
      (try rw [show ((0 : Int)).toNat = 0 from rfl] at hx298_0)
      (try rw [Addr.add_zero'] at hx298_0)
      replace p298 := eq_true p298
      replace q298 := eq_true q298
      have p299 : 0 ≤ ((rd (rd_L3 t294 x13_1) 0) : Int) := OD
      have q299 : (rd (rd_L3 t294 x13_1) 0) < (l0_2.length : Int) := OD
      obtain ⟨ad299, e299, hx299_0, hx299_1⟩ := at_T83 HR0_2.1 (rd (rd_L3 t294 x13_1) 0) p299 q299
      cases e299
      replace hx299_0 := (HB.1.cell (World.block_lt_of_cell? w _ hx299_0)).trans hx299_0
      replace hx299_1 := (HB.1.cell (World.block_lt_of_cell? w _ hx299_1)).trans hx299_1
      replace p299 := eq_true p299
      replace q299 := eq_true q299
      have p300 : 0 ≤ (x13_1 : Int) := OD
      have q300 : x13_1 < (l1.length : Int) := OD
      obtain ⟨ad300, e300, hx300_0⟩ := Kd.at_int HR1.1 x13_1 p300 q300
      cases e300
      replace hx300_0 := (HB.1.cell (World.block_lt_of_cell? w _ hx300_0)).trans hx300_0
      replace p300 := eq_true p300
      replace q300 := eq_true q300
      go_wp2
      repeat (go_quiet (fail); try go_wp2)
      go_roundg k1
      case measure => have := HK1.1; omega
      case rel => exact ⟨(wrap64 (x13_1 + 1)), (x294002_1), (u294002), RG, H', ⟨by have := HK1.1; omega⟩, ⟨PS HO_11.1⟩, ⟨PR HO_294002.1⟩, ⟨PB BK286.1⟩, ⟨PB BK287.1⟩, ⟨PB BK293.1⟩, ⟨BL HB.1⟩⟩
    have c25b0 := beq_eq_false_iff_ne.mpr c25
    have c25b1 := bne_iff_ne.mpr c25
    replace H := bindA H; obtain ⟨t301, A29, H⟩ := H
    have H' := Aside0.mk H
    clear H
    have p297 : 0 ≤ (x13_1 : Int) := OD
    have q297 : x13_1 < (t294.length : Int) := OD
    obtain ⟨ad297, A297_0, c297_0, e297, hx297_0, hl297_0, hi297_0⟩ := at_L3 (Kd.S_reads' HO_11.1).2.2 x13_1 p297 q297
    cases e297
    obtain ⟨ce297, hce297, hMe297, hcc297⟩ := Kd.S_get HO_11.1 [] x13_1 p297 (by first | exact q297 | exact OD | (have e_ := (Kd.S_reads' HO_11.1).1; omega))
    obtain ⟨ve297_0, rfl, ge297_0⟩ := hMe297
    have hv297_0 := hcc297 0 _ rfl
    rw [Nat.add_zero, show ((Kd.slice 3 (Kd.int .i64))).sz = 1 from rfl, Nat.mul_one] at hv297_0
    replace hv297_0 := Option.some.inj (hv297_0.symm.trans hx297_0)
    rw [hv297_0] at ge297_0
    have HL297_0 := Aside0.mk (show Kd.R (Kd.int .i64) 3 _ _ _ _ (rd_L3 t294 x13_1) from ge297_0)
    clear hv297_0 ge297_0
    clear hcc297 hce297
    have HR297_0 := Aside0.mk hi297_0
    have HC297_0 := Aside0.mk hl297_0
    clear hi297_0 hl297_0
    replace p297 := eq_true p297
    replace q297 := eq_true q297
    obtain ⟨hcz32_0, hcz32_1, hcz32_2, hfz32_0, hfz32_1, hfz32_2⟩ := cz3 BK286.1
    have p298 : 0 ≤ (0 : Int) := (by omega)
    have q298 : 0 < ((rd_L3 t294 x13_1).length : Int) := OD
    obtain ⟨ad298, e298, hx298_0⟩ := Kd.at_int (by repeat (first | (with_reducible exact HR297_0.1) | (with_reducible refine Kd.C_alloc ?_ _) | (with_reducible refine Kd.C_drewN ?_ _) | (with_reducible refine Kd.C_drew ?_) | exact HR297_0.1)) 0 p298 q298
    cases e298
    have qi298 : (0 < (rd_L3 t294 x13_1).length) = True := eq_true (by omega)
    (try rw [show ((0 : Int)).toNat = 0 from rfl] at hx298_0)
    (try rw [Addr.add_zero'] at hx298_0)
    replace p298 := eq_true p298
    replace q298 := eq_true q298
    have p299 : 0 ≤ ((rd (rd_L3 t294 x13_1) 0) : Int) := OD
    have q299 : (rd (rd_L3 t294 x13_1) 0) < (l0_2.length : Int) := OD
    obtain ⟨ad299, e299, hx299_0, hx299_1⟩ := at_T83 HR0_2.1 (rd (rd_L3 t294 x13_1) 0) p299 q299
    cases e299
    replace hx299_0 := (HB.1.cell (World.block_lt_of_cell? w _ hx299_0)).trans hx299_0
    replace hx299_1 := (HB.1.cell (World.block_lt_of_cell? w _ hx299_1)).trans hx299_1
    replace p299 := eq_true p299
    replace q299 := eq_true q299
    have p300 : 0 ≤ (x13_1 : Int) := OD
    have q300 : x13_1 < (l1.length : Int) := OD
    obtain ⟨ad300, e300, hx300_0⟩ := Kd.at_int HR1.1 x13_1 p300 q300
    cases e300
    replace hx300_0 := (HB.1.cell (World.block_lt_of_cell? w _ hx300_0)).trans hx300_0
    replace p300 := eq_true p300
    replace q300 := eq_true q300
    obtain ⟨hcz34_0, hcz34_1, hcz34_2, hfz34_0, hfz34_1, hfz34_2⟩ := cz3 BK293.1
    obtain ⟨Ao35, co35, eo35⟩ := Kd.R_slice HO_294002.1
    subst eo35
    go_wp2_with (first | (go_at_call 98; (with_reducible refine (spec_saTurn.calls k1 t288 t289 (fun k_ => some k_ = (.slice Ao35 x294002_1.length co35 : Value).ownBlock) (.slice Ao35 x294002_1.length co35) x294002_1 _ _ (rd_L3 t294 x13_1) t301 w _ ?side1 ?side2 ?side3 ?side4 A29.1).mono ?_); (case side1 => exact BL HB.1); (case side2 => exact Kd.R_tight rfl HO_294002.1); (case side3 => exact Kd.C_kept_own ((Kd.R_apart' HL297_0.1 (Kd.R_typed HO_294002.1) (by decide))) (fun k_ hk_ hs_ => (hk_.2) hs_)); (case side4 => exact HC297_0.1); rintro e w36 ⟨rfl, hy0, hb, hkp⟩; refine E6 (Kd.S_mono (ok' := fun k_ => True) (Kd.S_keptB ((Kd.S_apart' HO_11.1 (Kd.R_typed HO_294002.1) (by decide))) hkp (fun k_ hk_ hs_ => (hk_.2) hs_)) (fun k_ hk_ => trivial)) (Kd.R_reok rfl hy0 (fun k_ e_ => HO_294002.1.1 k_ e_)) (blk_kept (PB BK286.1) hkp (fun hs_ => (fun e_ => (Kd.R_ne HO_294002.1 BK286.1 (by decide)) e_) hs_)) (blk_kept (PB BK287.1) hkp (fun hs_ => (fun e_ => (Kd.R_ne HO_294002.1 BK287.1 (by decide)) e_) hs_)) (blk_kept (PB BK293.1) hkp (fun hs_ => (fun e_ => (Kd.R_ne HO_294002.1 BK293.1 (by decide)) e_) hs_)) (hb) ?_; clear HO_11 HO_294002 BK286 BK287 BK293 HB HL297_0; intro HO_11 HO_294002 BK286 BK287 BK293 HB; (try clear hb); (try clear hkp); (try clear hy0)))
    repeat (go_quiet (first | (go_at_call 98; (with_reducible refine (spec_saTurn.calls k1 t288 t289 (fun k_ => some k_ = (.slice Ao35 x294002_1.length co35 : Value).ownBlock) (.slice Ao35 x294002_1.length co35) x294002_1 _ _ (rd_L3 t294 x13_1) t301 w _ ?side1 ?side2 ?side3 ?side4 A29.1).mono ?_); (case side1 => exact BL HB.1); (case side2 => exact Kd.R_tight rfl HO_294002.1); (case side3 => exact Kd.C_kept_own ((Kd.R_apart' HL297_0.1 (Kd.R_typed HO_294002.1) (by decide))) (fun k_ hk_ hs_ => (hk_.2) hs_)); (case side4 => exact HC297_0.1); rintro e w36 ⟨rfl, hy0, hb, hkp⟩; refine E6 (Kd.S_mono (ok' := fun k_ => True) (Kd.S_keptB ((Kd.S_apart' HO_11.1 (Kd.R_typed HO_294002.1) (by decide))) hkp (fun k_ hk_ hs_ => (hk_.2) hs_)) (fun k_ hk_ => trivial)) (Kd.R_reok rfl hy0 (fun k_ e_ => HO_294002.1.1 k_ e_)) (blk_kept (PB BK286.1) hkp (fun hs_ => (fun e_ => (Kd.R_ne HO_294002.1 BK286.1 (by decide)) e_) hs_)) (blk_kept (PB BK287.1) hkp (fun hs_ => (fun e_ => (Kd.R_ne HO_294002.1 BK287.1 (by decide)) e_) hs_)) (blk_kept (PB BK293.1) hkp (fun hs_ => (fun e_ => (Kd.R_ne HO_294002.1 BK293.1 (by decide)) e_) hs_)) (hb) ?_; clear HO_11 HO_294002 BK286 BK287 BK293 HB HL297_0; intro HO_11 HO_294002 BK286 BK287 BK293 HB; (try clear hb); (try clear hkp); (try clear hy0))); try go_wp2_with (first | (go_at_call 98; (with_reducible refine (spec_saTurn.calls k1 t288 t289 (fun k_ => some k_ = (.slice Ao35 x294002_1.length co35 : Value).ownBlock) (.slice Ao35 x294002_1.length co35) x294002_1 _ _ (rd_L3 t294 x13_1) t301 w _ ?side1 ?side2 ?side3 ?side4 A29.1).mono ?_); (case side1 => exact BL HB.1); (case side2 => exact Kd.R_tight rfl HO_294002.1); (case side3 => exact Kd.C_kept_own ((Kd.R_apart' HL297_0.1 (Kd.R_typed HO_294002.1) (by decide))) (fun k_ hk_ hs_ => (hk_.2) hs_)); (case side4 => exact HC297_0.1); rintro e w36 ⟨rfl, hy0, hb, hkp⟩; refine E6 (Kd.S_mono (ok' := fun k_ => True) (Kd.S_keptB ((Kd.S_apart' HO_11.1 (Kd.R_typed HO_294002.1) (by decide))) hkp (fun k_ hk_ hs_ => (hk_.2) hs_)) (fun k_ hk_ => trivial)) (Kd.R_reok rfl hy0 (fun k_ e_ => HO_294002.1.1 k_ e_)) (blk_kept (PB BK286.1) hkp (fun hs_ => (fun e_ => (Kd.R_ne HO_294002.1 BK286.1 (by decide)) e_) hs_)) (blk_kept (PB BK287.1) hkp (fun hs_ => (fun e_ => (Kd.R_ne HO_294002.1 BK287.1 (by decide)) e_) hs_)) (blk_kept (PB BK293.1) hkp (fun hs_ => (fun e_ => (Kd.R_ne HO_294002.1 BK293.1 (by decide)) e_) hs_)) (hb) ?_; clear HO_11 HO_294002 BK286 BK287 BK293 HB HL297_0; intro HO_11 HO_294002 BK286 BK287 BK293 HB; (try clear hb); (try clear hkp); (try clear hy0))))
    go_roundg k1
    case measure => have := HK1.1; omega
    case rel => exact ⟨(wrap64 (x13_1 + 1)), (t301), (.slice Ao35 x294002_1.length co35), RG, H', ⟨by have := HK1.1; omega⟩, ⟨PS HO_11.1⟩, ⟨PR HO_294002.1⟩, ⟨PB BK286.1⟩, ⟨PB BK287.1⟩, ⟨PB BK293.1⟩, ⟨BL HB.1⟩⟩
  simp only [Option.some.injEq, Prod.mk.injEq] at H
  obtain ⟨rfl, rfl, rfl⟩ := H
  obtain ⟨hcz39_0, hcz39_1, hcz39_2, hfz39_0, hfz39_1, hfz39_2⟩ := cz3 BK293.1
  obtain ⟨hcz41_0, hcz41_1, hcz41_2, hfz41_0, hfz41_1, hfz41_2⟩ := cz3 BK287.1
  obtain ⟨Ao42, co42, eo42⟩ := Kd.R_slice HO_294002.1
  subst eo42
  go_wp2
  repeat (go_quiet (fail); try go_wp2)
  refine bodyPost_ret (results_cell_row rfl _ _ gb287 30 #[.int .i64 t288, .int .i64 t289, .slice Ao42 x294002_1.length co42] (0, 0) _ rfl (PF0 BK287.1) Try.underlying30 rfl (by kernel_rfl)) rfl ?_
  exact ⟨_, RF, by (with_reducible repeat (first | apply Kd.R_alloc | apply Kd.R_drewN | apply Kd.R_drew)); exact Kd.R_mono (Kd.R_far (p := ⟨gb287, 2, none⟩) (Kd.R_far (p := ⟨gb287, 1, none⟩) (Kd.R_far (p := ⟨gb287, 0, none⟩) (Kd.R_types HO_294002.1 BK287.1 (by decide)) (fun _ hk => hk.2) (.int .i64 t288)) (fun _ hk => hk.2) (.int .i64 t289)) (fun _ hk => hk.2) (.slice Ao42 x294002_1.length co42)) (fun _ hk => trivial), BL HB.1⟩
/-! ### spec_saIn: function 70 -/
def spec_saIn.l0 : Nat → Int → List Int → Int → Int → Int → Int → List (S83) → Option (Int × Int × (List (S83)))
  | 0, _, _, _, _, _, _, _ => none
  | k + 1, x1, x5, x9, x10, x303000, x303001, x303002 => if x10 < x9 then (if 0 ≤ (IntKind.u64.wrap (x10)) then (if x5.length < 17592186044416 then (spec_saIn.l0 k x1 (x5 ++ [Go.bits .and .i64 (shr .i64 x1 (IntKind.u64.wrap (x10))) 1]) x9 (wrap64 (x10 + 1)) x303000 x303001 x303002) else (none)) else (none)) else ((spec_saWith.f k x303000 x303001 x303002 x5).bind fun bt310 => (some (bt310.1, bt310.2.1, bt310.2.2)))
def spec_saIn.f (k : Nat) (a0_0 : Int) (a0_1 : Int) (l0_2 : List (S83)) (a1 : Int) : Option (Int × Int × (List (S83))) := (spec_saUnits.f k a0_0 a0_1 l0_2).bind fun t304 => (spec_saIn.l0 k a1 ([] : List Int) (t304.length : Int) 0 a0_0 a0_1 l0_2)
theorem spec_saIn.mono_l : ∀ k, (∀ y0 y1 y2 y3 y4 y5 y6, LeO (spec_saIn.l0 k y0 y1 y2 y3 y4 y5 y6) (spec_saIn.l0 (k + 1) y0 y1 y2 y3 y4 y5 y6))
  | 0 => fun _ _ _ _ _ _ _ r h => by simp [spec_saIn.l0] at h
  | k + 1 => by
    have ih0 := spec_saIn.mono_l k
    intros
    first | unfold spec_saIn.l0
    repeat' first | (with_reducible first | apply ih0 | apply spec_saUnits.mono | apply spec_saWith.mono | exact LeO.refl _ | exact LeO.none _ | refine LeO.ite ?_ ?_ | refine LeO.bind ?_ (fun _ => ?_)) | apply ih0 | apply spec_saUnits.mono | apply spec_saWith.mono | exact LeO.none _ | refine LeO.ite ?_ ?_ | refine LeO.bind ?_ (fun _ => ?_)
theorem spec_saIn.mono : ∀ a0 a1 a2 a3 k, LeO (spec_saIn.f k a0 a1 a2 a3) (spec_saIn.f (k + 1) a0 a1 a2 a3) := by
  intro a0 a1 a2 a3 k
  have ih0 := spec_saIn.mono_l k
  unfold spec_saIn.f
  repeat' first | (with_reducible first | apply ih0 | apply spec_saUnits.mono | apply spec_saWith.mono | exact LeO.refl _ | exact LeO.none _ | refine LeO.ite ?_ ?_ | refine LeO.bind ?_ (fun _ => ?_)) | apply ih0 | apply spec_saUnits.mono | apply spec_saWith.mono | exact LeO.none _ | refine LeO.ite ?_ ?_ | refine LeO.bind ?_ (fun _ => ?_)
set_option maxHeartbeats 8000000 in
set_option maxRecDepth 100000 in
theorem spec_saIn.calls (k : Nat) (a0_0 : Int) (a0_1 : Int) (A0_2 : Option Addr) (c0_2 : Nat) (l0_2 : List (S83)) (a1 : Int) (r1 : Int) (r2 : Int) (r3 : List (S83)) (w : World) (hr0_2 : Kd.C k83 w A0_2 l0_2.length l0_2) (hc0_2 : l0_2.length ≤ c0_2) (h : spec_saIn.f k a0_0 a0_1 l0_2 a1 = some (r1, r2, r3)) :
    Calls Try.prog 70 #[.agg #[.int .i64 a0_0, .int .i64 a0_1, .slice A0_2 l0_2.length c0_2], .int .i64 a1] w fun e w' => ∃ v2_ : Value, e = .returned (.agg #[.int .i64 r1, .int .i64 r2, v2_]) ∧ Kd.R k83 83 w' w.heap.size (fun _ => True) v2_ r3 ∧ Below w.heap.size w w' := by
  have hu30 := Try.underlying30
  have HR0_2 := Aside0.mk hr0_2
  have HC0_2 := Aside0.mk hc0_2
  clear hr0_2 hc0_2
  have HB := Aside0.mk (Below.refl w.heap.size w)
  have H := h
  clear h
  unfold spec_saIn.f at H
  replace H := bindA H; obtain ⟨t304, A3, H⟩ := H
  have H' := Aside0.mk H
  clear H
  go_enter Try.func70, Try.ntmps70
  go_wp2_with (first | ((with_reducible refine gate_dst (N := 2) rfl ?_); refine boxE (cs := #[.int .i64 a0_0, .int .i64 a0_1, .slice A0_2 l0_2.length c0_2]) (t := 30) ?_; intro gb302 hg w4 hbox hb; refine E4b HB.1 hg hbox hb ?_; clear HB; intro HB BK302 GW302 GE302; clear hb hbox hg) | ((with_reducible refine gate_dst (N := 4) rfl ?_); refine boxE (cs := #[.int .i64 0, .int .i64 0, .slice none 0 0]) (t := 30) ?_; intro gb303 hg w5 hbox hb; refine E7 (bB BK302.1 hb) (below_step (BL HB.1) hb) (hbox) (gX HB.1 hg) (gX HB.1 hg) (nB BK302.1 hg) (nC BK302.1 hg) ?_; clear BK302 HB; intro BK302 HB BK303 GW303 GE303 NB302_303 NB303_302; clear hb hbox hg; have hnb6 := NB302_303.1; have hnc6 := NB303_302.1; obtain ⟨hcz7_0, hcz7_1, hcz7_2, hfz7_0, hfz7_1, hfz7_2⟩ := cz3 BK302.1) | ((with_reducible refine gate_callee (f := 52) rfl ?_); refine goesM (N := (some 8)) #[.agg #[.int .i64 a0_0, .int .i64 a0_1, .slice A0_2 l0_2.length c0_2]] Try.func52 ?_; (with_reducible refine (spec_saUnits.calls k a0_0 a0_1 _ _ l0_2 t304 _ ?side1 ?side2 A3.1).mono ?_); (case side1 => exact CB (Kd.C_below HR0_2.1 HB.1)); (case side2 => exact HC0_2.1); rintro e w8 ⟨v305, rfl, ho0, hb⟩; refine ⟨_, rfl, ?_⟩; refine E4 (Kd.S_lower ho0 (below_size (BL HB.1))) (bB BK302.1 hb) (bB BK303.1 hb) (below_step (BL HB.1) hb) ?_; clear BK302 BK303 HB; intro HO306 BK302 BK303 HB; (try clear hb); (try clear ho0); obtain ⟨Ao9, co9, eo9⟩ := Kd.S_slice HO306.1; subst eo9))
  go_loopg [5, 10] k (fun kq v5 v10 w' => ∃ (x5_1 : List Int) (x10_1 : Int), v10 = .int .i64 x10_1 ∧ Aside0 (spec_saIn.l0 kq a1 x5_1 (t304.length : Int) x10_1 a0_0 a0_1 l0_2 = some (r1, r2, r3)) ∧ Aside0 (kq ≤ k) ∧ Aside0 (Kd.R (Kd.int .i64) 3 w' w.heap.size (fun _ => True) v5 x5_1) ∧ Aside0 (w'.heap[gb302]? = some (.cells #[.int .i64 a0_0, .int .i64 a0_1, (.slice A0_2 l0_2.length c0_2)] 30 (0, 0))) ∧ Aside0 (w'.heap[gb303]? = some (.cells #[.int .i64 0, .int .i64 0, (.slice none 0 0)] 30 (0, 0))) ∧ Aside0 (Below w.heap.size w w'))
  case atStart => exact ⟨(([] : List Int)), (0), RG, H', ⟨Nat.le_refl _⟩, ⟨by first | exact Kd.R_nil _ _ _ _ _ | exact Kd.N_nil _ _ _ _ _ | exact Kd.V_nil _ _ _ _ _ | exact Kd.Q_nil _ _ _ _ _ | exact Kd.S_nil _ _ _ _ _⟩, ⟨PB BK302.1⟩, ⟨PB BK303.1⟩, ⟨BL HB.1⟩⟩
  clear H'
  try clear hcz7_0; try clear hcz7_1; try clear hcz7_2; try clear hfz7_0; try clear hfz7_1; try clear hfz7_2
  obtain ⟨x5_1, x10_1, rfl, HA, HK1, HO_5, BK302, BK303, HB⟩ := hrel
  cases gk with
  | zero => exact absurd HA.1 (by simp [spec_saIn.l0])
  | succ k1 => ?_
  have H := HA.1
  clear HA
  simp only [spec_saIn.l0] at H
  replace H := ifB H; rcases H with ⟨c10b0, H⟩ | ⟨c10b0, H⟩
  · obtain ⟨ji11, hji11⟩ : ∃ j_ : Int, (IntKind.u64.wrap (x10_1)) = j_ := ⟨_, rfl⟩
    replace H : (if 0 ≤ (ji11) then (if x5_1.length < 17592186044416 then (spec_saIn.l0 k1 a1 (x5_1 ++ [Go.bits .and .i64 (shr .i64 a1 (ji11)) 1]) (t304.length : Int) (wrap64 (x10_1 + 1)) a0_0 a0_1 l0_2) else (none)) else (none)) = some (r1, r2, r3) := by first | (rw [hji11] at H; exact H) | (simp only [hji11] at H ⊢; exact H)
    replace H := ifP H; obtain ⟨c12, H⟩ := H
    have c12b0 := eq_true c12
    have c12b1 := decide_eq_true c12
    clear c12
    obtain ⟨ji13, hji13⟩ : ∃ j_ : Int, (shr .i64 a1 (ji11)) = j_ := ⟨_, rfl⟩
    replace H : (if x5_1.length < 17592186044416 then (spec_saIn.l0 k1 a1 (x5_1 ++ [Go.bits .and .i64 (ji13) 1]) (t304.length : Int) (wrap64 (x10_1 + 1)) a0_0 a0_1 l0_2) else (none)) = some (r1, r2, r3) := by first | (rw [hji13] at H; exact H) | (simp only [hji13] at H ⊢; exact H)
    have hji13_ : (a1 / 2 ^ min (ji11).toNat 64) = ji13 := hji13
    have hji13z : (ji11) ≤ 64 → (a1 / 2 ^ (ji11).toNat) = ji13 := shr_small hji13
    replace H := ifP H; obtain ⟨c14, H⟩ := H
    have LMc14 := Aside0.mk c14
    clear c14
    generalize hy307 : ((x5_1 ++ [Go.bits .and .i64 (ji13) 1]) : List Int) = y307 at H
    have Ny307 := Aside0.mk hy307.symm; clear hy307
    have H' := Aside0.mk H
    clear H
    go_wp2_with (first | ((with_reducible refine gate_builtin (b := .append) (xs := #[.tmp 13, .tmp 19]) rfl ?_); at_builtin; refine Kd.R_append (Kd.int .i64) (w0 := w) w.heap.size rfl (.tmp 13) (.tmp 19) 38 3 (.int .i64 0) 8 rfl Try.underlying38 info3 rfl (by decide) (by omega) u5 x5_1 (Go.bits .and .i64 (ji13) 1) [.int .i64 (Go.bits .and .i64 (ji13) 1)] (fun _ => True) (fun _ => False) rfl rfl ?aP (fun _ hk => hk.elim) ?aF ?aO ?aB ?aS ?aL ?_; (case aP => exact rfl); (case aB => exact (BL HB.1)); (case aF => exact (fun _ _ => trivial)); (case aO => exact (PR HO_5.1)); (case aS => exact (below_size (BL HB.1))); (case aL => have := LMc14.1; omega); intro v308 w15 ho hb hg hat; rw [← Ny307.1] at ho; refine E4 (bG BK302.1 hg (Kd.R_ne HO_5.1 BK302.1 (by decide))) (bG BK303.1 hg (Kd.R_ne HO_5.1 BK303.1 (by decide))) (hb) (ho) ?_; clear BK302 BK303 HB HO_5; intro BK302 BK303 HB HO309; clear ho hb hg hat))
    go_roundg k1
    case measure => have := HK1.1; omega
    case rel => exact ⟨(y307), (wrap64 (x10_1 + 1)), RG, H', ⟨by have := HK1.1; omega⟩, ⟨PR HO309.1⟩, ⟨PB BK302.1⟩, ⟨PB BK303.1⟩, ⟨BL HB.1⟩⟩
  replace H := bindA H; obtain ⟨⟨t310, t311, t312⟩, A16, H⟩ := H
  dsimp only at H
  simp only [Option.some.injEq, Prod.mk.injEq] at H
  obtain ⟨rfl, rfl, rfl⟩ := H
  obtain ⟨hcz18_0, hcz18_1, hcz18_2, hfz18_0, hfz18_1, hfz18_2⟩ := cz3 BK302.1
  obtain ⟨Ao19, co19, eo19⟩ := Kd.R_slice HO_5.1
  subst eo19
  go_wp2_with (first | ((with_reducible refine gate_callee (f := 85) rfl ?_); refine goesM (N := (some 24)) #[.agg #[.int .i64 a0_0, .int .i64 a0_1, .slice A0_2 l0_2.length c0_2], .slice Ao19 x5_1.length co19] Try.func85 ?_; (with_reducible refine (spec_saWith.calls k1 a0_0 a0_1 _ _ l0_2 _ _ x5_1 t310 t311 t312 _ ?side1 ?side2 ?side3 ?side4 A16.1).mono ?_); (case side1 => exact CB (Kd.C_below HR0_2.1 HB.1)); (case side2 => exact HC0_2.1); (case side3 => exact CB (Kd.R_reads' HO_5.1).2.2); (case side4 => exact (Kd.R_reads' HO_5.1).2.1); rintro e w20 ⟨v313, rfl, ho0, hb⟩; refine ⟨_, rfl, ?_⟩; refine E5 (Kd.R_below (PR HO_5.1) hb) (Kd.R_lower ho0 (below_size (BL HB.1))) (bB BK302.1 hb) (bB BK303.1 hb) (below_step (BL HB.1) hb) ?_; clear HO_5 BK302 BK303 HB; intro HO_5 HO314 BK302 BK303 HB; (try clear hb); (try clear ho0); obtain ⟨hcz21_0, hcz21_1, hcz21_2, hfz21_0, hfz21_1, hfz21_2⟩ := cz3 BK303.1; obtain ⟨Ao22, co22, eo22⟩ := Kd.R_slice HO314.1; subst eo22))
  refine bodyPost_ret (results_cell_row rfl _ _ gb303 30 #[.int .i64 t310, .int .i64 t311, .slice Ao22 t312.length co22] (0, 0) _ rfl (PF0 BK303.1) Try.underlying30 rfl (by kernel_rfl)) rfl ?_
  exact ⟨_, RF, by (with_reducible repeat (first | apply Kd.R_alloc | apply Kd.R_drewN | apply Kd.R_drew)); exact Kd.R_mono (Kd.R_far (p := ⟨gb303, 2, none⟩) (Kd.R_far (p := ⟨gb303, 1, none⟩) (Kd.R_far (p := ⟨gb303, 0, none⟩) (Kd.R_types HO314.1 BK303.1 (by decide)) (fun _ hk => hk.2) (.int .i64 t310)) (fun _ hk => hk.2) (.int .i64 t311)) (fun _ hk => hk.2) (.slice Ao22 t312.length co22)) (fun _ hk => trivial), BL HB.1⟩
/-! ### spec_reNext: function 43 -/
def spec_reNext.f (k : Nat) (a0_0 : Int) (a0_1 : Int) (l0_2 : List (S83)) (a1 : Int) (a2 : Int) : Option (Int × Int × Int × Int) := (spec_saIn.f k a0_0 a0_1 l0_2 a1).bind fun bt317 => ((spec_flRun.f k bt317.1 bt317.2.1 bt317.2.2 a2).bind fun bt322 => ((spec_saNumber.f k bt322.2.2.2.1 bt322.2.2.2.2.1 bt322.2.2.2.2.2).bind fun t332 => (some (t332, bt322.1, bt322.2.1, bt322.2.2.1))))
theorem spec_reNext.mono : ∀ a0 a1 a2 a3 a4 k, LeO (spec_reNext.f k a0 a1 a2 a3 a4) (spec_reNext.f (k + 1) a0 a1 a2 a3 a4) := by
  intro a0 a1 a2 a3 a4 k
  unfold spec_reNext.f
  repeat' first
      | (with_reducible exact spec_flRun.mono _ _ _ _ _)
      | (with_reducible exact spec_saIn.mono _ _ _ _ _)
      | (with_reducible exact spec_saNumber.mono _ _ _ _)
      | (with_reducible exact LeO.refl _)
      | (with_reducible exact LeO.none _)
      | (with_reducible refine LeO.ite ?_ ?_)
      | (with_reducible refine LeO.bind ?_ (fun _ => ?_))
      | exact spec_flRun.mono _ _ _ _ _
      | exact spec_saIn.mono _ _ _ _ _
      | exact spec_saNumber.mono _ _ _ _
      | exact LeO.none _
      | refine LeO.ite ?_ ?_
      | refine LeO.bind ?_ (fun _ => ?_)
set_option maxHeartbeats 8000000 in
set_option maxRecDepth 100000 in
theorem spec_reNext.calls (k : Nat) (a0_0 : Int) (a0_1 : Int) (A0_2 : Option Addr) (c0_2 : Nat) (l0_2 : List (S83)) (a1 : Int) (a2 : Int) (r1 : Int) (r2 : Int) (r3 : Int) (r4 : Int) (w : World) (hr0_2 : Kd.C k83 w A0_2 l0_2.length l0_2) (hc0_2 : l0_2.length ≤ c0_2) (h : spec_reNext.f k a0_0 a0_1 l0_2 a1 a2 = some (r1, r2, r3, r4)) :
    Calls Try.prog 43 #[.agg #[.int .i64 a0_0, .int .i64 a0_1, .slice A0_2 l0_2.length c0_2], .int .i64 a1, .int .i64 a2] w fun e w' => e = .returned (.tuple #[.int .i64 r1, .agg #[.int .i64 r2, .int .i64 r3, .int .i64 r4]]) ∧ Below w.heap.size w w' := by
  have hu30 := Try.underlying30
  have hu54 := Try.underlying54
  have HR0_2 := Aside0.mk hr0_2
  have HC0_2 := Aside0.mk hc0_2
  clear hr0_2 hc0_2
  have HB := Aside0.mk (Below.refl w.heap.size w)
  have H := h
  clear h
  unfold spec_reNext.f at H
  replace H := bindA H; obtain ⟨⟨t317, t318, t319⟩, A4, H⟩ := H
  dsimp only at H
  replace H := bindA H; obtain ⟨⟨t322, t323, t324, t325, t326, t327⟩, A5, H⟩ := H
  dsimp only at H
  replace H := bindA H; obtain ⟨t332, A6, H⟩ := H
  simp only [Option.some.injEq, Prod.mk.injEq] at H
  obtain ⟨rfl, rfl, rfl, rfl⟩ := H
  go_enter Try.func43, Try.ntmps43
  try go_wp2_with (first | ((with_reducible refine gate_dst (N := 3) rfl ?_); refine boxE (cs := #[.int .i64 a0_0, .int .i64 a0_1, .slice A0_2 l0_2.length c0_2]) (t := 30) ?_; intro gb315 hg w7 hbox hb; refine E4b HB.1 hg hbox hb ?_; clear HB; intro HB BK315 GW315 GE315; clear hb hbox hg) | ((with_reducible refine gate_dst (N := 7) rfl ?_); refine boxE (cs := #[.int .i64 0, .int .i64 0, .int .i64 0]) (t := 54) ?_; intro gb316 hg w8 hbox hb; refine E7 (bB BK315.1 hb) (below_step (BL HB.1) hb) (hbox) (gX HB.1 hg) (gX HB.1 hg) (nB BK315.1 hg) (nC BK315.1 hg) ?_; clear BK315 HB; intro BK315 HB BK316 GW316 GE316 NB315_316 NB316_315; clear hb hbox hg; have hnb9 := NB315_316.1; have hnc9 := NB316_315.1; obtain ⟨hcz10_0, hcz10_1, hcz10_2, hfz10_0, hfz10_1, hfz10_2⟩ := cz3 BK315.1) | ((with_reducible refine gate_callee (f := 70) rfl ?_); refine goesM (N := (some 13)) #[.agg #[.int .i64 a0_0, .int .i64 a0_1, .slice A0_2 l0_2.length c0_2], .int .i64 a1] Try.func70 ?_; (with_reducible refine (spec_saIn.calls k a0_0 a0_1 _ _ l0_2 a1 t317 t318 t319 _ ?side1 ?side2 A4.1).mono ?_); (case side1 => exact CB (Kd.C_below HR0_2.1 HB.1)); (case side2 => exact HC0_2.1); rintro e w11 ⟨v320, rfl, ho0, hb⟩; refine ⟨_, rfl, ?_⟩; refine E4 (Kd.R_lower ho0 (below_size (BL HB.1))) (bB BK315.1 hb) (bB BK316.1 hb) (below_step (BL HB.1) hb) ?_; clear BK315 BK316 HB; intro HO321 BK315 BK316 HB; (try clear hb); (try clear ho0); obtain ⟨Ao12, co12, eo12⟩ := Kd.R_slice HO321.1; subst eo12) | ((with_reducible refine gate_callee (f := 69) rfl ?_); refine goesM (N := (some 15)) #[.agg #[.int .i64 t317, .int .i64 t318, .slice Ao12 t319.length co12], .int .i64 a2] Try.func69 ?_; (with_reducible refine (spec_flRun.calls k t317 t318 _ _ t319 a2 t322 t323 t324 t325 t326 t327 _ ?side1 ?side2 A5.1).mono ?_); (case side1 => exact CB (Kd.R_reads' HO321.1).2.2); (case side2 => exact (Kd.R_reads' HO321.1).2.1); rintro e w13 ⟨v328, rfl, ho0, hb⟩; refine ⟨_, rfl, ?_⟩; refine E5 (Kd.R_elder' (PR HO321.1) (Kd.R_base ho0) hb) (Kd.R_lower (Kd.R_new' ho0 (Kd.R_lt (PR HO321.1))) (below_size (BL HB.1))) (bB BK315.1 hb) (bB BK316.1 hb) (below_step (BL HB.1) hb) ?_; clear HO321 BK315 BK316 HB; intro HO321 HO329 BK315 BK316 HB; (try clear hb); (try clear ho0)) | ((with_reducible refine gate_dst (N := 8) rfl ?_); refine boxE (cs := #[.int .i64 0, .int .i64 0, .int .i64 0]) (t := 54) ?_; intro gb330 hg w14 hbox hb; refine E12 (Kd.R_below (PR HO321.1) hb) (Kd.R_below (PR HO329.1) hb) (bB BK315.1 hb) (bB BK316.1 hb) (below_step (BL HB.1) hb) (hbox) (gX HB.1 hg) (gX HB.1 hg) (nB BK315.1 hg) (nC BK315.1 hg) (nB BK316.1 hg) (nC BK316.1 hg) ?_; clear HO321 HO329 BK315 BK316 HB; intro HO321 HO329 BK315 BK316 HB BK330 GW330 GE330 NB315_330 NB330_315 NB316_330 NB330_316; clear hb hbox hg) | ((with_reducible refine gate_dst (N := 9) rfl ?_); refine boxE (cs := #[.int .i64 0, .int .i64 0, .slice none 0 0]) (t := 30) ?_; intro gb331 hg w15 hbox hb; refine E15 (Kd.R_below (PR HO321.1) hb) (Kd.R_below (PR HO329.1) hb) (bB BK315.1 hb) (bB BK316.1 hb) (bB BK330.1 hb) (below_step (BL HB.1) hb) (hbox) (gX HB.1 hg) (gX HB.1 hg) (nB BK315.1 hg) (nC BK315.1 hg) (nB BK316.1 hg) (nC BK316.1 hg) (nB BK330.1 hg) (nC BK330.1 hg) ?_; clear HO321 HO329 BK315 BK316 BK330 HB; intro HO321 HO329 BK315 BK316 BK330 HB BK331 GW331 GE331 NB315_331 NB331_315 NB316_331 NB331_316 NB330_331 NB331_330; clear hb hbox hg; have hnb16 := NB330_315.1; have hnc16 := NB315_330.1; have hnb17 := NB330_316.1; have hnc17 := NB316_330.1; have hnb18 := NB330_331.1; have hnc18 := NB331_330.1; obtain ⟨hcz19_0, hcz19_1, hcz19_2, hfz19_0, hfz19_1, hfz19_2⟩ := cz3 BK330.1; have hnb20 := NB331_315.1; have hnc20 := NB315_331.1; have hnb21 := NB331_316.1; have hnc21 := NB316_331.1; obtain ⟨hcz22_0, hcz22_1, hcz22_2, hfz22_0, hfz22_1, hfz22_2⟩ := cz3 BK331.1; obtain ⟨Ao23, co23, eo23⟩ := Kd.R_slice HO329.1; subst eo23))
  have n0_ : Aside0 (Kd.R k83 83 ((((((w15.setCell ⟨gb330, 0, none⟩ (.int .i64 t322)).setCell ⟨gb330, 1, none⟩ (.int .i64 t323)).setCell ⟨gb330, 2, none⟩ (.int .i64 t324)).setCell ⟨gb331, 0, none⟩ (.int .i64 t325)).setCell ⟨gb331, 1, none⟩ (.int .i64 t326)).setCell ⟨gb331, 2, none⟩ (.slice Ao23 t327.length co23)) w.heap.size (fun k_ => some k_ ≠ (.slice Ao23 t327.length co23 : Value).ownBlock) (.slice Ao12 t319.length co12) t319) := ⟨by (with_reducible repeat (first | apply Kd.R_alloc | apply Kd.R_drewN | apply Kd.R_drew)); exact Kd.R_mono (Kd.R_far (p := ⟨gb331, 2, none⟩) (Kd.R_far (p := ⟨gb331, 1, none⟩) (Kd.R_far (p := ⟨gb331, 0, none⟩) (Kd.R_far (p := ⟨gb330, 2, none⟩) (Kd.R_far (p := ⟨gb330, 1, none⟩) (Kd.R_far (p := ⟨gb330, 0, none⟩) (Kd.R_types (Kd.R_types HO321.1 BK330.1 (by decide)) BK331.1 (by decide)) (fun _ hk => hk.1.2) (.int .i64 t322)) (fun _ hk => hk.1.2) (.int .i64 t323)) (fun _ hk => hk.1.2) (.int .i64 t324)) (fun _ hk => hk.2) (.int .i64 t325)) (fun _ hk => hk.2) (.int .i64 t326)) (fun _ hk => hk.2) (.slice Ao23 t327.length co23)) (fun _ hk => hk.1.1.2)⟩
  have n1_ : Aside0 (Kd.R k83 83 ((((((w15.setCell ⟨gb330, 0, none⟩ (.int .i64 t322)).setCell ⟨gb330, 1, none⟩ (.int .i64 t323)).setCell ⟨gb330, 2, none⟩ (.int .i64 t324)).setCell ⟨gb331, 0, none⟩ (.int .i64 t325)).setCell ⟨gb331, 1, none⟩ (.int .i64 t326)).setCell ⟨gb331, 2, none⟩ (.slice Ao23 t327.length co23)) w.heap.size (fun k_ => some k_ ≠ (.slice Ao12 t319.length co12 : Value).ownBlock) (.slice Ao23 t327.length co23) t327) := ⟨by (with_reducible repeat (first | apply Kd.R_alloc | apply Kd.R_drewN | apply Kd.R_drew)); exact Kd.R_mono (Kd.R_far (p := ⟨gb331, 2, none⟩) (Kd.R_far (p := ⟨gb331, 1, none⟩) (Kd.R_far (p := ⟨gb331, 0, none⟩) (Kd.R_far (p := ⟨gb330, 2, none⟩) (Kd.R_far (p := ⟨gb330, 1, none⟩) (Kd.R_far (p := ⟨gb330, 0, none⟩) (Kd.R_types (Kd.R_types HO329.1 BK330.1 (by decide)) BK331.1 (by decide)) (fun _ hk => hk.1.2) (.int .i64 t322)) (fun _ hk => hk.1.2) (.int .i64 t323)) (fun _ hk => hk.1.2) (.int .i64 t324)) (fun _ hk => hk.2) (.int .i64 t325)) (fun _ hk => hk.2) (.int .i64 t326)) (fun _ hk => hk.2) (.slice Ao23 t327.length co23)) (fun _ hk => hk.1.1.2)⟩
  have n2_ : Aside0 (((((((w15.setCell ⟨gb330, 0, none⟩ (.int .i64 t322)).setCell ⟨gb330, 1, none⟩ (.int .i64 t323)).setCell ⟨gb330, 2, none⟩ (.int .i64 t324)).setCell ⟨gb331, 0, none⟩ (.int .i64 t325)).setCell ⟨gb331, 1, none⟩ (.int .i64 t326)).setCell ⟨gb331, 2, none⟩ (.slice Ao23 t327.length co23)).heap[gb315]? = some (.cells #[.int .i64 a0_0, .int .i64 a0_1, .slice A0_2 l0_2.length c0_2] 30 (0, 0))) := ⟨by (with_reducible repeat (first | refine blk_drewN ?_ _ | refine blk_drew ?_ | refine blk_alloc ?_ _)); refine blk_far ?_ NB315_331.1 _; (with_reducible repeat (first | refine blk_drewN ?_ _ | refine blk_drew ?_ | refine blk_alloc ?_ _)); refine blk_far ?_ NB315_331.1 _; (with_reducible repeat (first | refine blk_drewN ?_ _ | refine blk_drew ?_ | refine blk_alloc ?_ _)); refine blk_far ?_ NB315_331.1 _; (with_reducible repeat (first | refine blk_drewN ?_ _ | refine blk_drew ?_ | refine blk_alloc ?_ _)); refine blk_far ?_ NB315_330.1 _; (with_reducible repeat (first | refine blk_drewN ?_ _ | refine blk_drew ?_ | refine blk_alloc ?_ _)); refine blk_far ?_ NB315_330.1 _; (with_reducible repeat (first | refine blk_drewN ?_ _ | refine blk_drew ?_ | refine blk_alloc ?_ _)); refine blk_far ?_ NB315_330.1 _; (with_reducible repeat (first | refine blk_drewN ?_ _ | refine blk_drew ?_ | refine blk_alloc ?_ _)); exact BK315.1⟩
  have n3_ : Aside0 (((((((w15.setCell ⟨gb330, 0, none⟩ (.int .i64 t322)).setCell ⟨gb330, 1, none⟩ (.int .i64 t323)).setCell ⟨gb330, 2, none⟩ (.int .i64 t324)).setCell ⟨gb331, 0, none⟩ (.int .i64 t325)).setCell ⟨gb331, 1, none⟩ (.int .i64 t326)).setCell ⟨gb331, 2, none⟩ (.slice Ao23 t327.length co23)).heap[gb316]? = some (.cells #[.int .i64 0, .int .i64 0, .int .i64 0] 54 (0, 0))) := ⟨by (with_reducible repeat (first | refine blk_drewN ?_ _ | refine blk_drew ?_ | refine blk_alloc ?_ _)); refine blk_far ?_ NB316_331.1 _; (with_reducible repeat (first | refine blk_drewN ?_ _ | refine blk_drew ?_ | refine blk_alloc ?_ _)); refine blk_far ?_ NB316_331.1 _; (with_reducible repeat (first | refine blk_drewN ?_ _ | refine blk_drew ?_ | refine blk_alloc ?_ _)); refine blk_far ?_ NB316_331.1 _; (with_reducible repeat (first | refine blk_drewN ?_ _ | refine blk_drew ?_ | refine blk_alloc ?_ _)); refine blk_far ?_ NB316_330.1 _; (with_reducible repeat (first | refine blk_drewN ?_ _ | refine blk_drew ?_ | refine blk_alloc ?_ _)); refine blk_far ?_ NB316_330.1 _; (with_reducible repeat (first | refine blk_drewN ?_ _ | refine blk_drew ?_ | refine blk_alloc ?_ _)); refine blk_far ?_ NB316_330.1 _; (with_reducible repeat (first | refine blk_drewN ?_ _ | refine blk_drew ?_ | refine blk_alloc ?_ _)); exact BK316.1⟩
  have n4_ : Aside0 (((((((w15.setCell ⟨gb330, 0, none⟩ (.int .i64 t322)).setCell ⟨gb330, 1, none⟩ (.int .i64 t323)).setCell ⟨gb330, 2, none⟩ (.int .i64 t324)).setCell ⟨gb331, 0, none⟩ (.int .i64 t325)).setCell ⟨gb331, 1, none⟩ (.int .i64 t326)).setCell ⟨gb331, 2, none⟩ (.slice Ao23 t327.length co23)).heap[gb330]? = some (.cells #[.int .i64 t322, .int .i64 t323, .int .i64 t324] 54 (0, 0))) := ⟨by (with_reducible repeat (first | refine blk_drewN ?_ _ | refine blk_drew ?_ | refine blk_alloc ?_ _)); refine blk_far ?_ NB330_331.1 _; (with_reducible repeat (first | refine blk_drewN ?_ _ | refine blk_drew ?_ | refine blk_alloc ?_ _)); refine blk_far ?_ NB330_331.1 _; (with_reducible repeat (first | refine blk_drewN ?_ _ | refine blk_drew ?_ | refine blk_alloc ?_ _)); refine blk_far ?_ NB330_331.1 _; (with_reducible repeat (first | refine blk_drewN ?_ _ | refine blk_drew ?_ | refine blk_alloc ?_ _)); refine blk_put (cs := #[.int .i64 t322, .int .i64 t323, .int .i64 0]) ?_ 2 _ rfl; (with_reducible repeat (first | refine blk_drewN ?_ _ | refine blk_drew ?_ | refine blk_alloc ?_ _)); refine blk_put (cs := #[.int .i64 t322, .int .i64 0, .int .i64 0]) ?_ 1 _ rfl; (with_reducible repeat (first | refine blk_drewN ?_ _ | refine blk_drew ?_ | refine blk_alloc ?_ _)); refine blk_put (cs := #[.int .i64 0, .int .i64 0, .int .i64 0]) ?_ 0 _ rfl; (with_reducible repeat (first | refine blk_drewN ?_ _ | refine blk_drew ?_ | refine blk_alloc ?_ _)); exact BK330.1⟩
  have n5_ : Aside0 (((((((w15.setCell ⟨gb330, 0, none⟩ (.int .i64 t322)).setCell ⟨gb330, 1, none⟩ (.int .i64 t323)).setCell ⟨gb330, 2, none⟩ (.int .i64 t324)).setCell ⟨gb331, 0, none⟩ (.int .i64 t325)).setCell ⟨gb331, 1, none⟩ (.int .i64 t326)).setCell ⟨gb331, 2, none⟩ (.slice Ao23 t327.length co23)).heap[gb331]? = some (.cells #[.int .i64 t325, .int .i64 t326, .slice Ao23 t327.length co23] 30 (0, 0))) := ⟨by (with_reducible repeat (first | refine blk_drewN ?_ _ | refine blk_drew ?_ | refine blk_alloc ?_ _)); refine blk_put (cs := #[.int .i64 t325, .int .i64 t326, .slice none 0 0]) ?_ 2 _ rfl; (with_reducible repeat (first | refine blk_drewN ?_ _ | refine blk_drew ?_ | refine blk_alloc ?_ _)); refine blk_put (cs := #[.int .i64 t325, .int .i64 0, .slice none 0 0]) ?_ 1 _ rfl; (with_reducible repeat (first | refine blk_drewN ?_ _ | refine blk_drew ?_ | refine blk_alloc ?_ _)); refine blk_put (cs := #[.int .i64 0, .int .i64 0, .slice none 0 0]) ?_ 0 _ rfl; (with_reducible repeat (first | refine blk_drewN ?_ _ | refine blk_drew ?_ | refine blk_alloc ?_ _)); refine blk_far ?_ NB331_330.1 _; (with_reducible repeat (first | refine blk_drewN ?_ _ | refine blk_drew ?_ | refine blk_alloc ?_ _)); refine blk_far ?_ NB331_330.1 _; (with_reducible repeat (first | refine blk_drewN ?_ _ | refine blk_drew ?_ | refine blk_alloc ?_ _)); refine blk_far ?_ NB331_330.1 _; (with_reducible repeat (first | refine blk_drewN ?_ _ | refine blk_drew ?_ | refine blk_alloc ?_ _)); exact BK331.1⟩
  have n6_ : Aside0 (Below w.heap.size w ((((((w15.setCell ⟨gb330, 0, none⟩ (.int .i64 t322)).setCell ⟨gb330, 1, none⟩ (.int .i64 t323)).setCell ⟨gb330, 2, none⟩ (.int .i64 t324)).setCell ⟨gb331, 0, none⟩ (.int .i64 t325)).setCell ⟨gb331, 1, none⟩ (.int .i64 t326)).setCell ⟨gb331, 2, none⟩ (.slice Ao23 t327.length co23))) := ⟨BL HB.1⟩
  (try clear HO321)
  (try clear HO329)
  (try clear BK315)
  (try clear BK316)
  (try clear BK330)
  (try clear BK331)
  (try clear HB)
  generalize ((((((w15.setCell ⟨gb330, 0, none⟩ (.int .i64 t322)).setCell ⟨gb330, 1, none⟩ (.int .i64 t323)).setCell ⟨gb330, 2, none⟩ (.int .i64 t324)).setCell ⟨gb331, 0, none⟩ (.int .i64 t325)).setCell ⟨gb331, 1, none⟩ (.int .i64 t326)).setCell ⟨gb331, 2, none⟩ (.slice Ao23 t327.length co23)) = w24 at n0_ n1_ n2_ n3_ n4_ n5_ n6_ ⊢
  have HO321 := n0_
  have HO329 := n1_
  have BK315 := n2_
  have BK316 := n3_
  have BK330 := n4_
  have BK331 := n5_
  have HB := n6_
  clear n0_ n1_ n2_ n3_ n4_ n5_ n6_
  refine E7 (Kd.R_drew HO321.1) (Kd.R_drew HO329.1) (blk_drew BK315.1) (blk_drew BK316.1) (blk_drew BK330.1) (blk_drew BK331.1) (below_drew1 HB.1) ?_
  clear HO321 HO329 BK315 BK316 BK330 BK331 HB
  intro HO321 HO329 BK315 BK316 BK330 BK331 HB
  refine start_ (n := 5) (S := fun w' => w'.cell? ⟨gb331, 0, none⟩ = some (.int .i64 t325) ∧ w'.cell? ⟨gb331, 1, none⟩ = some (.int .i64 t326) ∧ w'.cell? ⟨gb331, 2, none⟩ = some (.slice Ao23 t327.length co23) ∧ w'.cell? ⟨gb330, 0, none⟩ = some (.int .i64 t322) ∧ w'.cell? ⟨gb330, 1, none⟩ = some (.int .i64 t323) ∧ w'.cell? ⟨gb330, 2, none⟩ = some (.int .i64 t324)) (ds := []) #[Zz,Zz,Zz,Zz,Zz] (by kernel_rfl) rfl rfl ⟨(blk_cell BK331.1 0).trans rfl, (blk_cell BK331.1 1).trans rfl, (blk_cell BK331.1 2).trans rfl, (blk_cell BK330.1 0).trans rfl, (blk_cell BK330.1 1).trans rfl, (blk_cell BK330.1 2).trans rfl⟩ (fun hHeld => ?_)
  generalize w24.drew = w25 at HO321 HO329 BK315 BK316 BK330 BK331 HB hHeld ⊢
  refine take_ (i := 0) (N := some 18) (v := ?_) (a' := ?_) #[Yy,Zz,Zz,Zz,Zz] rfl rfl (by kernel_rfl) (fun _ _ _ h => h) (Or.inl ⟨by rfl, ?_⟩) hHeld ?_ ?_
  rotate_left
  · rintro w' ⟨s0, s1, s2, s3, s4, s5⟩
    go_simp
    with_reducible rfl
  rotate_left
  · simp only [Act.put, List.setIfInBounds_toArray, List.set_cons_zero, List.set_cons_succ, i64_w, i32_w]
    rfl
  refine take_ (i := 2) (N := some 20) (v := ?_) (a' := ?_) #[Yy,Zz,Yy,Zz,Zz] rfl rfl (by kernel_rfl) (fun _ _ _ h => h) (Or.inl ⟨by rfl, ?_⟩) hHeld ?_ ?_
  rotate_left
  · rintro w' ⟨s0, s1, s2, s3, s4, s5⟩
    go_simp
    with_reducible rfl
  rotate_left
  · simp only [Act.put, List.setIfInBounds_toArray, List.set_cons_zero, List.set_cons_succ, i64_w, i32_w]
    rfl
  refine one_ (i := 1) (N := some 19) #[Yy,Yy,Yy,Zz,Zz] rfl rfl (by kernel_rfl) (by decide) (fun K hK => ?_)
  refine goes_ Try.func44 (by kernel_rfl) rfl #[.agg #[.int .i64 t325, .int .i64 t326, .slice Ao23 t327.length co23]] (by rfl) rfl rfl (by (try simp only [List.map_toArray, List.map_cons, List.map_nil]); first | done | rfl | (simp only [List.length_drop, List.length_take]; rfl)) ?_
  with_reducible refine (spec_saNumber.calls k t325 t326 _ _ t327 t332 _ ?side1 ?side2 A6.1).mono ?_
  (case side1 => exact CB (Kd.R_reads' HO329.1).2.2)
  (case side2 => exact (Kd.R_reads' HO329.1).2.1)
  rintro e w26 ⟨rfl, hb⟩
  refine ⟨_, rfl, ?_⟩
  refine E7 (Kd.R_below (PR HO321.1) hb) (Kd.R_below (PR HO329.1) hb) (bB BK315.1 hb) (bB BK316.1 hb) (bB BK330.1 hb) (bB BK331.1 hb) (below_step (BL HB.1) hb) ?_
  clear HO321 HO329 BK315 BK316 BK330 BK331 HB
  intro HO321 HO329 BK315 BK316 BK330 BK331 HB
  (try clear hb)
  (try clear hb2)
  (try clear hk)
  (try clear hi)
  refine hK.out _ _ ⟨(blk_cell BK331.1 0).trans rfl, (blk_cell BK331.1 1).trans rfl, (blk_cell BK331.1 2).trans rfl, (blk_cell BK330.1 0).trans rfl, (blk_cell BK330.1 1).trans rfl, (blk_cell BK330.1 2).trans rfl⟩ (fun hHeld => ?_)
  clear hK K
  refine norm_ (a' := ?_) ?_ ?_
  rotate_left
  · show Act.put _ (some 19) _ = _
    simp only [Act.put, List.setIfInBounds_toArray, List.set_cons_zero, List.set_cons_succ, i64_w, i32_w]
    rfl
  refine pure_ (i := 3) (N := some 6) (v := ?_) (a' := ?_) #[Yy,Yy,Yy,Yy,Zz] rfl rfl (by kernel_rfl) (fun _ _ _ h => h) (Or.inl ⟨by rfl, ?_⟩) ?_ ?_
  rotate_left
  · intro w'
    go_simp
    with_reducible rfl
  rotate_left
  · simp only [Act.put, List.setIfInBounds_toArray, List.set_cons_zero, List.set_cons_succ, i64_w, i32_w]
    rfl
  refine one_ (i := 4) (N := none) #[Yy,Yy,Yy,Yy,Yy] rfl rfl (by kernel_rfl) (by decide) (fun K hK => ?_)
  have hs27 : w26.cell? ⟨gb316, 0, none⟩ = some (.int .i64 0) := (blk_cell BK316.1 0).trans rfl
  have hfs27 := blk_frozen BK316.1 0
  have hs28 : w26.cell? ⟨gb316, 1, none⟩ = some (.int .i64 0) := (blk_cell BK316.1 1).trans rfl
  have hfs28 := blk_frozen BK316.1 1
  have hs29 : w26.cell? ⟨gb316, 2, none⟩ = some (.int .i64 0) := (blk_cell BK316.1 2).trans rfl
  have hfs29 := blk_frozen BK316.1 2
  refine skip_ (w1 := ?_) (by rfl) rfl ?_ ?_
  rotate_left
  · go_simp
    rfl
  refine hK.out _ _ ⟨(CF3 NB331_316.1 hHeld.1), (CF3 NB331_316.1 hHeld.2.1), (CF3 NB331_316.1 hHeld.2.2.1), (CF3 NB330_316.1 hHeld.2.2.2.1), (CF3 NB330_316.1 hHeld.2.2.2.2.1), (CF3 NB330_316.1 hHeld.2.2.2.2.2)⟩ (fun hHeld => ?_)
  clear hK K
  refine done_ (by kernel_rfl) ?_
  try go_wp2
  refine bodyPost_ret (results_tc rfl _ _ gb316 54 #[.int .i64 t322, .int .i64 t323, .int .i64 t324] (0, 0) _ rfl (PF0 BK316.1) Try.underlying54 rfl (by kernel_rfl)) rfl ?_
  exact ⟨RF, BL HB.1⟩

/-! ### laws_toCell: function 72 -/
def laws_toCell.f (a0_0 : Int) (a0_1 : Int) : Option (Int × Int) := some (a0_0, a0_1)
set_option maxHeartbeats 8000000 in
set_option maxRecDepth 100000 in
theorem laws_toCell.calls (a0_0 : Int) (a0_1 : Int) (r1 : Int) (r2 : Int) (w : World) (h : laws_toCell.f a0_0 a0_1 = some (r1, r2)) :
    Calls Try.prog 72 #[.agg #[.int .i64 a0_0, .int .i64 a0_1]] w fun e w' => e = .returned (.agg #[.int .i64 r1, .int .i64 r2]) ∧ Below w.heap.size w w' := by
  have hu85 := Try.underlying85
  have hu83 := Try.underlying83
  have HB := Aside0.mk (Below.refl w.heap.size w)
  have H := h
  clear h
  unfold laws_toCell.f at H
  simp only [Option.some.injEq, Prod.mk.injEq] at H
  obtain ⟨rfl, rfl⟩ := H
  go_enter Try.func72, Try.ntmps72
  go_wp2_with (first | ((with_reducible refine gate_dst (N := 1) rfl ?_); refine boxE (cs := #[.int .i64 a0_0, .int .i64 a0_1]) (t := 85) ?_; intro gb341 hg w2 hbox hb; refine E4b HB.1 hg hbox hb ?_; clear HB; intro HB BK341 GW341 GE341; clear hb hbox hg) | ((with_reducible refine gate_dst (N := 2) rfl ?_); refine boxE (cs := #[.int .i64 0, .int .i64 0]) (t := 83) ?_; intro gb342 hg w3 hbox hb; refine E7 (bB BK341.1 hb) (below_step (BL HB.1) hb) (hbox) (gX HB.1 hg) (gX HB.1 hg) (nB BK341.1 hg) (nC BK341.1 hg) ?_; clear BK341 HB; intro BK341 HB BK342 GW342 GE342 NB341_342 NB342_341; clear hb hbox hg) | ((with_reducible refine gate_dst (N := 3) rfl ?_); refine boxE (cs := #[.int .i64 0, .int .i64 0]) (t := 83) ?_; intro gb343 hg w4 hbox hb; refine E10 (bB BK341.1 hb) (bB BK342.1 hb) (below_step (BL HB.1) hb) (hbox) (gX HB.1 hg) (gX HB.1 hg) (nB BK341.1 hg) (nC BK341.1 hg) (nB BK342.1 hg) (nC BK342.1 hg) ?_; clear BK341 BK342 HB; intro BK341 BK342 HB BK343 GW343 GE343 NB341_343 NB343_341 NB342_343 NB343_342; clear hb hbox hg; have hnb5 := NB341_342.1; have hnc5 := NB342_341.1; have hnb6 := NB341_343.1; have hnc6 := NB343_341.1; obtain ⟨hcz7_0, hcz7_1, hfz7_0, hfz7_1⟩ := cz2 BK341.1; have hnb8 := NB343_342.1; have hnc8 := NB342_343.1; obtain ⟨hcz9_0, hcz9_1, hfz9_0, hfz9_1⟩ := cz2 BK343.1; obtain ⟨hcz10_0, hcz10_1, hfz10_0, hfz10_1⟩ := cz2 BK342.1))
  refine bodyPost_ret (results_cell_row rfl _ _ gb342 83 #[.int .i64 a0_0, .int .i64 a0_1] (0, 0) _ rfl (PF1 NB342_343.1 BK342.1) Try.underlying83 rfl (by kernel_rfl)) rfl ?_
  exact ⟨RF, BL HB.1⟩

/-! ### laws_toCellS: function 45 -/
def laws_toCellS.l0 : Nat → List (S85) → List (S83) → Int → Option ((List (S83)))
  | 0, _, _, _ => none
  | k + 1, x0, x3, x4 => if x4 < (x0.length : Int) then (if 0 ≤ x4 then ((laws_toCell.f ((rd_T85 x0 x4).f0) ((rd_T85 x0 x4).f1)).bind fun bt348 => (if x4 < (x3.length : Int) then (laws_toCellS.l0 k x0 (x3.set (x4 : Int).toNat (⟨bt348.1, bt348.2⟩ : S83)) (wrap64 (x4 + 1))) else (none))) else (none)) else (some x3)
def laws_toCellS.f (k : Nat) (l0 : List (S85)) : Option ((List (S83))) := if 0 ≤ (l0.length : Int) then (if ((l0.length : Int) : Int).toNat ≤ 17592186044416 then (laws_toCellS.l0 k l0 (List.replicate ((l0.length : Int) : Int).toNat z83) 0) else (none)) else (none)
theorem laws_toCellS.mono_l : ∀ k, (∀ y0 y1 y2, LeO (laws_toCellS.l0 k y0 y1 y2) (laws_toCellS.l0 (k + 1) y0 y1 y2))
  | 0 => fun _ _ _ r h => by simp [laws_toCellS.l0] at h
  | k + 1 => by
    have ih0 := laws_toCellS.mono_l k
    intros
    first | unfold laws_toCellS.l0
    repeat' first | (with_reducible first | apply ih0 | exact LeO.refl _ | exact LeO.none _ | refine LeO.ite ?_ ?_ | refine LeO.bind ?_ (fun _ => ?_)) | apply ih0 | exact LeO.none _ | refine LeO.ite ?_ ?_ | refine LeO.bind ?_ (fun _ => ?_)
theorem laws_toCellS.mono : ∀ a0 k, LeO (laws_toCellS.f k a0) (laws_toCellS.f (k + 1) a0) := by
  intro a0 k
  have ih0 := laws_toCellS.mono_l k
  unfold laws_toCellS.f
  repeat' first | (with_reducible first | apply ih0 | exact LeO.refl _ | exact LeO.none _ | refine LeO.ite ?_ ?_ | refine LeO.bind ?_ (fun _ => ?_)) | apply ih0 | exact LeO.none _ | refine LeO.ite ?_ ?_ | refine LeO.bind ?_ (fun _ => ?_)
set_option maxHeartbeats 8000000 in
set_option maxRecDepth 100000 in
theorem laws_toCellS.calls (k : Nat) (A0 : Option Addr) (c0 : Nat) (l0 : List (S85)) (r : List (S83)) (w : World) (hr0 : Kd.C k85 w A0 l0.length l0) (hc0 : l0.length ≤ c0) (h : laws_toCellS.f k l0 = some r) :
    Calls Try.prog 45 #[.slice A0 l0.length c0] w fun e w' => ∃ v0_ : Value, e = .returned (v0_) ∧ Kd.R k83 83 w' w.heap.size (fun _ => True) v0_ r ∧ Below w.heap.size w w' := by
  have hu85 := Try.underlying85
  have hu83 := Try.underlying83
  have HR0 := Aside0.mk hr0
  have HC0 := Aside0.mk hc0
  clear hr0 hc0
  have HB := Aside0.mk (Below.refl w.heap.size w)
  have H := h
  clear h
  unfold laws_toCellS.f at H
  replace H := ifP H; obtain ⟨c2, H⟩ := H
  have c2b0 := eq_true c2
  have c2b1 := decide_eq_true c2
  clear c2
  replace H := ifP H; obtain ⟨c3, H⟩ := H
  have c3b0 := eq_true c3
  have c3b1 := decide_eq_true c3
  clear c3
  generalize hy344 : ((List.replicate ((l0.length : Int) : Int).toNat z83) : List (S83)) = y344 at H
  have Ny344 := Aside0.mk hy344.symm; clear hy344
  have H' := Aside0.mk H
  clear H
  go_enter Try.func45, Try.ntmps45
  go_wp2_with (first | ((with_reducible refine gate_dst (N := 7) rfl ?_); refine Kd.R_make k83 _ 83 rfl (N := 7) rfl 28 _ _ rfl (l0.length : Int) rfl rfl Try.underlying28 (.agg #[(.int .i64 0), (.int .i64 0)]) 16 info83 rfl (by decide) (by omega) z83 (ok := fun _ => True) (okp := fun _ => True) (k83_mkM _ _ _ z83 ) (fun _ hk => hk) trivial (OD) (Nat.le_trans (Nat.mul_le_mul_right _ (OD : (l0.length : Int).toNat ≤ 17592186044416)) (by omega)) (Below.refl _ _) (Nat.le_refl _) ?_; intro v345 w4 ho5 hb hg_ hnew_; clear hg_ hnew_; (first | rw [← Ny344.1] at ho5 | (simp only [Int.reduceToNat] at ho5; rw [← Ny344.1] at ho5)); refine E2 (Kd.R_lower ho5 (below_size (BL HB.1))) (below_step (BL HB.1) hb) ?_; clear HB; intro HO346 HB; clear hb ho5))
  go_loopg [4] k (fun kq v4 w' => ∃ (x3_1 : List (S83)) (x4_1 : Int), v4 = .int .i64 x4_1 ∧ Aside0 (laws_toCellS.l0 kq l0 x3_1 x4_1 = some r) ∧ Aside0 (kq ≤ k) ∧ Aside0 (Kd.R k83 83 w' w.heap.size (fun _ => True) v345 x3_1) ∧ Aside0 (Below w.heap.size w w'))
  case atStart => exact ⟨(y344), (0), RG, H', ⟨Nat.le_refl _⟩, ⟨PR HO346.1⟩, ⟨BL HB.1⟩⟩
  clear H'
  try clear c2b0; try clear c2b1; try clear c3b0; try clear c3b1
  obtain ⟨x3_1, x4_1, rfl, HA, HK1, HO_3, HB⟩ := hrel
  cases gk with
  | zero => exact absurd HA.1 (by simp [laws_toCellS.l0])
  | succ k1 => ?_
  have H := HA.1
  clear HA
  simp only [laws_toCellS.l0] at H
  replace H := ifB H; rcases H with ⟨c6b0, H⟩ | ⟨c6b0, H⟩
  · replace H := ifN H; obtain ⟨c7b0, H⟩ := H
    replace H := bindA H; obtain ⟨⟨t348, t349⟩, A8, H⟩ := H
    dsimp only at H
    replace H := ifN H; obtain ⟨c9b0, H⟩ := H
    generalize hy350 : ((x3_1.set (x4_1 : Int).toNat (⟨t348, t349⟩ : S83)) : List (S83)) = y350 at H
    have Ny350 := Aside0.mk hy350.symm; clear hy350
    have H' := Aside0.mk H
    clear H
    have p347 : 0 ≤ (x4_1 : Int) := OD
    have q347 : x4_1 < (l0.length : Int) := OD
    obtain ⟨ad347, e347, hx347_0, hx347_1⟩ := at_T85 HR0.1 x4_1 p347 q347
    cases e347
    replace hx347_0 := (HB.1.cell (World.block_lt_of_cell? w _ hx347_0)).trans hx347_0
    replace hx347_1 := (HB.1.cell (World.block_lt_of_cell? w _ hx347_1)).trans hx347_1
    replace p347 := eq_true p347
    replace q347 := eq_true q347
    go_wp2_with (first | ((with_reducible refine gate_callee (f := 72) rfl ?_); refine goesM (N := (some 20)) #[.agg #[.int .i64 ((rd_T85 l0 x4_1).f0), .int .i64 ((rd_T85 l0 x4_1).f1)]] Try.func72 ?_; (with_reducible refine (laws_toCell.calls ((rd_T85 l0 x4_1).f0) ((rd_T85 l0 x4_1).f1) t348 t349 _ A8.1).mono ?_); rintro e w11 ⟨rfl, hb⟩; refine ⟨_, rfl, ?_⟩; refine E2 (Kd.R_below (PR HO_3.1) hb) (below_step (BL HB.1) hb) ?_; clear HO_3 HB; intro HO_3 HB; (try clear hb); have p10 : 0 ≤ (x4_1 : Int) := OD; have q10 : (x4_1 : Int) < ((x3_1.length : Int) : Int) := OD; obtain ⟨go10, co10, eo10, gb10, gl10, cl10, HG10⟩ := Kd.R_form HO_3.1 (by omega); (first | cases eo10 | (injection eo10 with ea_ en_ ec_; (first | subst ea_ | (injection ea_ with ea_; subst ea_)); subst ec_; clear en_)); have GB10 := Aside0.mk gb10; have GG10 := Aside0.mk HG10; clear gb10 gl10 HG10; obtain ⟨ce10, hcl10, hM10, hcc10, hfr10⟩ := Kd.R_elem HO_3.1 z83 (x4_1 : Int) p10 q10; obtain rfl := k83_openM hM10; have hx10_0 : w11.cell? ⟨go10, (x4_1 : Int).toNat * 2, none⟩ = some (.int .i64 ((rd_T83 x3_1 x4_1).f0)) := hcc10 0 _ rfl; have hx10_1 : w11.cell? ⟨go10, (x4_1 : Int).toNat * 2 + 1, none⟩ = some (.int .i64 ((rd_T83 x3_1 x4_1).f1)) := hcc10 1 _ rfl; have hf10_0 : w11.frozen? ⟨go10, (x4_1 : Int).toNat * 2, none⟩ = false := hfr10 0; have hf10_1 : w11.frozen? ⟨go10, (x4_1 : Int).toNat * 2 + 1, none⟩ = false := hfr10 1; (try clear hM10); clear hcl10 hcc10 hfr10; replace p10 := eq_true p10; replace q10 := eq_true q10; have HX12 := Aside0.mk (show Kd.R k83 83 w11 w.heap.size (fun _ => True) (.slice (some ⟨go10, 0, none⟩) x3_1.length co10) x3_1 from (PR HO_3.1)); obtain ⟨ce12, hcl12, hM12, hcc12, hfr12⟩ := Kd.R_elem HX12.1 z83 (x4_1 : Int) (OD) (by have h_ : (x4_1 : Int) < ((x3_1.length : Int) : Int) := OD; first | exact h_ | (have e_ := (Kd.R_reads' HO_3.1).1; omega) | simpa using h_); obtain rfl := k83_openM hM12; have HP12 := Kd.R_seg HX12.1 (x4_1 : Int) (OD) (by have h_ : (x4_1 : Int) < ((x3_1.length : Int) : Int) := OD; first | exact h_ | (have e_ := (Kd.R_reads' HO_3.1).1; omega) | simpa using h_) (seg := [.int .i64 t348, .int .i64 t349]) (j := 0) hcl12 hcc12 (show 2 ≤ 2 from by decide) (x' := (⟨t348, t349⟩ : S83)) (k83_mkM _ _ _ (⟨t348, t349⟩ : S83) ) (fun _ hk => hk); have hx12_0 := hcc12 0 _ rfl; (try simp only [show (k83).sz = 2 from rfl, Nat.mul_one, Nat.add_zero] at hx12_0); have hf12_0 := hfr12 0; (try simp only [show (k83).sz = 2 from rfl, Nat.mul_one, Nat.add_zero] at hf12_0); have hx12_1 := hcc12 1 _ rfl; (try simp only [show (k83).sz = 2 from rfl, Nat.mul_one, Nat.add_zero] at hx12_1); have hf12_1 := hfr12 1; (try simp only [show (k83).sz = 2 from rfl, Nat.mul_one, Nat.add_zero] at hf12_1); clear hcl12 hcc12 hfr12) | ((with_reducible refine gate_store (t := 83) (p := 21) rfl ?_); refine storeE (t := 83) (p := 21) (w1 := ((w11.setCell ⟨go10, (x4_1 : Int).toNat * 2, none⟩ (.int .i64 t348)).setCell ⟨go10, (x4_1 : Int).toNat * 2 + 1, none⟩ (.int .i64 t349))) ?_; intro w13 hw; have hg : w11.grownBy w13 (some go10) := (by rw [hw]; exact HP12.2); have hp_ : Kd.R k83 83 w13 w.heap.size (fun _ => True) (.slice (some ⟨go10, 0, none⟩) x3_1.length co10) y350 := (by rw [hw, Ny350.1]; exact HP12.1); clear HP12; refine E2 (hp_) ((by rw [hw]; exact below_set (below_set (HB.1) GB10.1) GB10.1 : Below w.heap.size w w13)) ?_; clear HO_3 HB; intro HO_3 HB; clear hg hw hp_))
    go_roundg k1
    case measure => have := HK1.1; omega
    case rel => exact ⟨(y350), (wrap64 (x4_1 + 1)), RG, H', ⟨by have := HK1.1; omega⟩, ⟨PR HO_3.1⟩, ⟨BL HB.1⟩⟩
  obtain rfl := Option.some.inj H
  go_wp2
  go_ret
  exact ⟨_, RF, by (with_reducible repeat (first | apply Kd.R_alloc | apply Kd.R_drewN | apply Kd.R_drew)); exact HO_3.1, BL HB.1⟩
end Go.Proofs.Ytbpfdbjnnlmdjaa.P
