-- PRINTED by print.py (a twelfth state) out of the translation. Not trusted: Lean checks it.
import Derived.Test.YtakihdabbpconaaPx0
namespace Go.Proofs.Ytakihdabbpconaa.P
open Go.RowKit Go.Proofs.YtakihdabbpconaaW.PrintWords Go.Proofs.YtakihdabbpconaaW.PrintLast Go.Proofs.YtakihdabbpconaaW.PrintMore
attribute [local go_sem] max2_int min2_int max_two min_two max_three min_three max_four min_four   -- for this text's walks alone
set_option linter.unusedVariables false
set_option linter.unusedSimpArgs false

/-! ### spec_boOwn: function 60 -/
def spec_boOwn.f (a0_0 : Int) (a0_1 : Int) (l0_2 : List (S73)) : Option (Int × Int × (List (S73))) := (some (([] : List (S73)) : List (S73))).bind fun y482 => (if y482.length + l0_2.length < 8796093022208 then (some (a0_0, a0_1, (y482 ++ l0_2))) else (none))
def spec_boOwn.T1 : Bool × List (List Nat × List Nat) := (true, [([], []), ([0], [0]), ([], []), ([2], [2]), ([], []), ([], []), ([5], [5]), ([4, 6], [4, 6]), ([1, 3, 7], [1, 3, 7]), ([8, 7, 0, 1, 2, 3, 4, 5, 6, 7, 8], [8])])
def spec_boOwn.B1 : List Nat := [0, 1, 0, 4, 0, 0, 32, 112, 255, 511]
theorem spec_boOwn.tab1 : rtab .any (opsOf Try.f60 1) = spec_boOwn.T1 := by kernel_rfl
theorem spec_boOwn.bits1 : waitsOk spec_boOwn.T1.2 spec_boOwn.B1 = true := by kernel_rfl
set_option maxHeartbeats 8000000 in
set_option maxRecDepth 100000 in
theorem spec_boOwn.calls (a0_0 : Int) (a0_1 : Int) (A0_2 : Option Addr) (c0_2 : Nat) (l0_2 : List (S73)) (r1 : Int) (r2 : Int) (r3 : List (S73)) (w : World) (hr0_2 : Kd.C k73 w A0_2 l0_2.length l0_2) (hc0_2 : l0_2.length ≤ c0_2) (h : spec_boOwn.f a0_0 a0_1 l0_2 = some (r1, r2, r3)) :
    Calls Try.prog 60 #[.agg #[.int .i64 a0_0, .int .i64 a0_1, .slice A0_2 l0_2.length c0_2]] w fun e w' => ∃ v2_ : Value, e = .returned (.agg #[.int .i64 r1, .int .i64 r2, v2_]) ∧ Kd.R k73 73 w' w.heap.size (fun _ => True) v2_ r3 ∧ Below w.heap.size w w' := by
  have hu30 := Try.underlying30
  have HR0_2 := Aside0.mk hr0_2
  have HC0_2 := Aside0.mk hc0_2
  clear hr0_2 hc0_2
  have HB := Aside0.mk (Below.refl w.heap.size w)
  have H := h
  clear h
  unfold spec_boOwn.f at H
  replace H := nameB H; obtain ⟨y482, Ny482, H⟩ := H
  replace H := ifP H; obtain ⟨c2, H⟩ := H
  have LMc2 := Aside0.mk c2
  clear c2
  generalize hy485 : ((y482 ++ l0_2) : List (S73)) = y485 at H
  have Ny485 := Aside0.mk hy485.symm; clear hy485
  simp only [Option.some.injEq, Prod.mk.injEq] at H
  obtain ⟨rfl, rfl, rfl⟩ := H
  go_enter Try.func60, Try.ntmps60
  try go_wp2_with (first | ((with_reducible refine gate_dst (N := 1) rfl ?_); refine boxE (N := 1) (cs := #[.int .i64 a0_0, .int .i64 a0_1, .slice A0_2 l0_2.length c0_2]) (t := 30) ?_; intro gb480 hg w3 hbox hb; refine E4b HB.out hg hbox hb ?_; clear HB; intro HB BK480 GW480 GE480; clear hb hbox hg) | ((with_reducible refine gate_dst (N := 2) rfl ?_); refine boxE (N := 2) (cs := #[.int .i64 0, .int .i64 0, .slice none 0 0]) (t := 30) ?_; intro gb481 hg w4 hbox hb; refine E7 (bB BK480.out hb) (below_step (BL HB.out) hb) (hbox) (gwM hg (below_size (BL HB.out)) : w.heap.size ≤ gb481) (gwM hg (below_size (BL HB.out)) : w.heap.size ≤ gb481) ((nB BK480.out hg : gb480 ≠ gb481)) ((nC BK480.out hg : gb481 ≠ gb480)) ?_; clear BK480 HB; intro BK480 HB BK481 GW481 GE481 NB480_481 NB481_480; clear hb hbox hg))
  refine E3 (blk_drew BK480.out) (blk_drew BK481.out) (below_drew1 HB.out) ?_
  clear BK480 BK481 HB
  intro BK480 BK481 HB
  refine start_ (n := 10) (S := fun w' => w'.cell? ⟨gb480, 0, none⟩ = some (.int .i64 a0_0) ∧ w'.cell? ⟨gb480, 1, none⟩ = some (.int .i64 a0_1) ∧ w'.cell? ⟨gb480, 2, none⟩ = some (.slice A0_2 l0_2.length c0_2)) (ds := []) #[false, false, false, false, false, false, false, false, false, false] (by kernel_rfl) rfl rfl ⟨(blk_cell BK480.out 0).trans rfl, (blk_cell BK480.out 1).trans rfl, (blk_cell BK480.out 2).trans rfl⟩ (fun hHeld => ?_); refine with_tabW spec_boOwn.tab1 spec_boOwn.bits1 (fun HT_ HW_ => ?_)
  generalize w4.drew = w5 at BK480 BK481 HB hHeld ⊢
  refine pureE (i := 0) (N := some 3) #[true, false, false, false, false, false, false, false, false, false] HT_.out ?_
  refine pureE (i := 2) (N := some 5) #[true, false, true, false, false, false, false, false, false, false] HT_.out ?_
  refine pureE (i := 5) (N := some 8) #[true, false, true, false, false, true, false, false, false, false] HT_.out ?_
  refine take_ (i := 1) (N := some 4) (v := ?_) (a' := ?_) #[true, true, true, false, false, true, false, false, false, false] rfl rfl (take_ofW HT_.out HW_.out (by kernel_rfl)) (fun _ _ _ h => h) (Or.inl ⟨by rfl, ?_⟩) hHeld ?_ ?_
  rotate_left
  · rintro w' ⟨s0, s1, s2⟩
    go_simp
    with_reducible rfl
  rotate_left
  · simp only [Act.put, List.setIfInBounds_toArray, List.set_cons_zero, List.set_cons_succ, i64_w, i32_w]
    rfl
  refine take_ (i := 3) (N := some 6) (v := ?_) (a' := ?_) #[true, true, true, true, false, true, false, false, false, false] rfl rfl (take_ofW HT_.out HW_.out (by kernel_rfl)) (fun _ _ _ h => h) (Or.inl ⟨by rfl, ?_⟩) hHeld ?_ ?_
  rotate_left
  · rintro w' ⟨s0, s1, s2⟩
    go_simp
    with_reducible rfl
  rotate_left
  · simp only [Act.put, List.setIfInBounds_toArray, List.set_cons_zero, List.set_cons_succ, i64_w, i32_w]
    rfl
  refine take_ (i := 6) (N := some 9) (v := ?_) (a' := ?_) #[true, true, true, true, false, true, true, false, false, false] rfl rfl (take_ofW HT_.out HW_.out (by kernel_rfl)) (fun _ _ _ h => h) (Or.inl ⟨by rfl, ?_⟩) hHeld ?_ ?_
  rotate_left
  · rintro w' ⟨s0, s1, s2⟩
    go_simp
    with_reducible rfl
  rotate_left
  · simp only [Act.put, List.setIfInBounds_toArray, List.set_cons_zero, List.set_cons_succ, i64_w, i32_w]
    rfl
  refine one_ (i := 4) (N := some 7) #[true, true, true, true, true, true, true, false, false, false] rfl rfl (one_of HT_.out (by kernel_rfl)) (by decide) (fun K hK => ?_)
  refine Kd.R_lit_step k73 _ 73 ?hg (N := 7) ?hd (xs := ([] : List (S73))) (inner := []) (ok := fun _ => True) (okp := fun _ => True) ?hr ?hp (fun _ hk => hk) trivial (Below.refl _ _) (Nat.le_refl _) (by simp) ?_; (case hd => rfl); (case hg => rfl); (case hr => first | (go_simp; done) | (go_simp; rfl)); (case hp => exact (Reps.none _ _))
  intro v483 w6 ho7 hb hg_ hnew_
  clear hg_ hnew_
  (first | rw [← Ny482.out] at ho7 | (simp only [Int.reduceToNat] at ho7; rw [← Ny482.out] at ho7))
  refine E4 (Kd.R_lower ho7 (below_size (BL HB.out))) (bB BK480.out hb) (bB BK481.out hb) (below_step (BL HB.out) hb) ?_
  clear BK480 BK481 HB
  intro HO484 BK480 BK481 HB
  clear hb ho7
  refine hK.out _ _ ⟨(blk_cell BK480.out 0).trans rfl, (blk_cell BK480.out 1).trans rfl, (blk_cell BK480.out 2).trans rfl⟩ (fun hHeld => ?_)
  clear hK K
  refine norm_ (a' := ?_) ?_ ?_
  rotate_left
  · show Act.put _ (some 7) _ = _
    simp only [Act.put, List.setIfInBounds_toArray, List.set_cons_zero, List.set_cons_succ, i64_w, i32_w]
    rfl
  refine one_ (i := 7) (N := some 10) #[true, true, true, true, true, true, true, true, false, false] rfl rfl (one_of HT_.out (by kernel_rfl)) (by decide) (fun K hK => ?_)
  refine Kd.R_append_rows_step k73 (w0 := w) w.heap.size (by rfl) (.tmp 7) (.tmp 9) 28 73 (.agg #[(.int .i64 0), (.int .i64 0)]) 16 rfl Try.underlying28 info73 rfl (by decide) (by omega) v483 y482 l0_2 _ _ _ (fun _ => True) (fun _ => False) rfl rfl ?aO ?aR (fun _ _ h => h) (fun _ h => h.elim) ?aF ?aB ?aS ?aL ?_
  (case aR => repeat (first | exact (Kd.C_below HR0_2.out HB.out) | (with_reducible refine Kd.C_alloc ?_ _) | (with_reducible refine Kd.C_drewN ?_ _) | (with_reducible refine Kd.C_drew ?_)))
  (case aB => exact (BL HB.out))
  (case aF => exact (fun _ _ => trivial))
  (case aO => exact (PR HO484.out))
  (case aS => exact (below_size (BL HB.out)))
  (case aL => have := LMc2.out; omega)
  intro v486 w8 ho hb hg hat
  rw [← Ny485.out] at ho
  refine E4 (bG BK480.out hg (Kd.R_ne HO484.out BK480.out (by decide))) (bG BK481.out hg (Kd.R_ne HO484.out BK481.out (by decide))) (hb) (ho) ?_
  clear BK480 BK481 HB HO484
  intro BK480 BK481 HB HO487
  clear ho hb hg hat
  obtain ⟨Ao9, co9, eo9⟩ := Kd.R_slice HO487.out
  (first | subst eo9 | (injection eo9 with f1_ f2_ f3_; have f4_ := f1_.symm; have f5_ := f3_.symm; clear f1_ f2_ f3_; subst f4_; subst f5_))
  refine hK.out _ _ ⟨(blk_cell BK480.out 0).trans rfl, (blk_cell BK480.out 1).trans rfl, (blk_cell BK480.out 2).trans rfl⟩ (fun hHeld => ?_)
  clear hK K
  refine norm_ (a' := ?_) ?_ ?_
  rotate_left
  · show Act.put _ (some 10) _ = _
    simp only [Act.put, List.setIfInBounds_toArray, List.set_cons_zero, List.set_cons_succ, i64_w, i32_w]
    rfl
  refine pureE (i := 8) (N := some 11) #[true, true, true, true, true, true, true, true, true, false] HT_.out ?_
  refine one_ (i := 9) (N := none) #[true, true, true, true, true, true, true, true, true, true] rfl rfl (one_of HT_.out (by kernel_rfl)) (by decide) (fun K hK => ?_)
  have hs10 : w8.cell? ⟨gb481, 0, none⟩ = some (.int .i64 0) := (blk_cell BK481.out 0).trans rfl
  have hfs10 := blk_frozen BK481.out 0
  have hns10_0 := NB480_481.out
  have hms10_0 := NB481_480.out
  have hs11 : w8.cell? ⟨gb481, 1, none⟩ = some (.int .i64 0) := (blk_cell BK481.out 1).trans rfl
  have hfs11 := blk_frozen BK481.out 1
  have hns11_0 := NB480_481.out
  have hms11_0 := NB481_480.out
  have hs12 : w8.cell? ⟨gb481, 2, none⟩ = some (.slice none 0 0) := (blk_cell BK481.out 2).trans rfl
  have hfs12 := blk_frozen BK481.out 2
  have hns12_0 := NB480_481.out
  have hms12_0 := NB481_480.out
  refine skip_ (w1 := ?_) (by rfl) rfl ?_ ?_
  rotate_left
  · go_simp
    rfl
  refine hK.out _ _ ⟨((cell_far (p := ⟨gb481, _, none⟩) NB480_481.out _).trans (((cell_far (p := ⟨gb481, _, none⟩) NB480_481.out _).trans (((cell_far (p := ⟨gb481, _, none⟩) NB480_481.out _).trans (hHeld.1)))))), ((cell_far (p := ⟨gb481, _, none⟩) NB480_481.out _).trans (((cell_far (p := ⟨gb481, _, none⟩) NB480_481.out _).trans (((cell_far (p := ⟨gb481, _, none⟩) NB480_481.out _).trans (hHeld.2.1)))))), ((cell_far (p := ⟨gb481, _, none⟩) NB480_481.out _).trans (((cell_far (p := ⟨gb481, _, none⟩) NB480_481.out _).trans (((cell_far (p := ⟨gb481, _, none⟩) NB480_481.out _).trans (hHeld.2.2))))))⟩ (fun hHeld => ?_)
  clear hK K
  refine done_ (done_of HT_.out (by kernel_rfl)) ?_
  try go_wp2
  refine bodyPost_ret (results_cell_row rfl _ _ gb481 30 #[.int .i64 a0_0, .int .i64 a0_1, .slice Ao9 y485.length co9] (0, 0) _ rfl (by (with_reducible repeat (first | refine blk_drewN ?_ _ | refine blk_drew ?_ | refine blk_alloc ?_ _)); refine blk_put (cs := #[.int .i64 a0_0, .int .i64 a0_1, .slice none 0 0]) ?_ 2 _ rfl; (with_reducible repeat (first | refine blk_drewN ?_ _ | refine blk_drew ?_ | refine blk_alloc ?_ _)); refine blk_put (cs := #[.int .i64 a0_0, .int .i64 0, .slice none 0 0]) ?_ 1 _ rfl; (with_reducible repeat (first | refine blk_drewN ?_ _ | refine blk_drew ?_ | refine blk_alloc ?_ _)); refine blk_put (cs := #[.int .i64 0, .int .i64 0, .slice none 0 0]) ?_ 0 _ rfl; (with_reducible repeat (first | refine blk_drewN ?_ _ | refine blk_drew ?_ | refine blk_alloc ?_ _)); exact BK481.out) Try.underlying30 rfl (by kernel_rfl)) rfl ?_
  exact ⟨_, RF, by (with_reducible repeat (first | apply Kd.R_alloc | apply Kd.R_drewN | apply Kd.R_drew)); exact Kd.R_mono (Kd.R_far (p := ⟨gb481, 2, none⟩) (Kd.R_far (p := ⟨gb481, 1, none⟩) (Kd.R_far (p := ⟨gb481, 0, none⟩) (Kd.R_types HO487.out BK481.out (by decide)) (fun _ hk => hk.2) (.int .i64 a0_0)) (fun _ hk => hk.2) (.int .i64 a0_1)) (fun _ hk => hk.2) (.slice Ao9 y485.length co9)) (fun _ hk => trivial), BL HB.out⟩
/-! ### spec_paTurn: function 79 -/
def spec_paTurn.f (a0_0 : Int) (a0_1 : Int) : Option (Int × Int) := some (a0_0, wrap64 (1 - a0_1))
set_option maxHeartbeats 8000000 in
set_option maxRecDepth 100000 in
theorem spec_paTurn.calls (a0_0 : Int) (a0_1 : Int) (r1 : Int) (r2 : Int) (w : World) (h : spec_paTurn.f a0_0 a0_1 = some (r1, r2)) :
    Calls Try.prog 79 #[.agg #[.int .i64 a0_0, .int .i64 a0_1]] w fun e w' => e = .returned (.agg #[.int .i64 r1, .int .i64 r2]) ∧ Below w.heap.size w w' := by
  have hu73 := Try.underlying73
  have HB := Aside0.mk (Below.refl w.heap.size w)
  have H := h
  clear h
  unfold spec_paTurn.f at H
  simp only [Option.some.injEq, Prod.mk.injEq] at H
  obtain ⟨rfl, rfl⟩ := H
  go_enter Try.func79, Try.ntmps79
  go_wp2_with (first | ((with_reducible refine gate_dst (N := 1) rfl ?_); refine boxE (N := 1) (cs := #[.int .i64 a0_0, .int .i64 a0_1]) (t := 73) ?_; intro gb488 hg w2 hbox hb; refine E4b HB.out hg hbox hb ?_; clear HB; intro HB BK488 GW488 GE488; clear hb hbox hg) | ((with_reducible refine gate_dst (N := 2) rfl ?_); refine boxE (N := 2) (cs := #[.int .i64 0, .int .i64 0]) (t := 73) ?_; intro gb489 hg w3 hbox hb; refine E7 (bB BK488.out hb) (below_step (BL HB.out) hb) (hbox) (gwM hg (below_size (BL HB.out)) : w.heap.size ≤ gb489) (gwM hg (below_size (BL HB.out)) : w.heap.size ≤ gb489) ((nB BK488.out hg : gb488 ≠ gb489)) ((nC BK488.out hg : gb489 ≠ gb488)) ?_; clear BK488 HB; intro BK488 HB BK489 GW489 GE489 NB488_489 NB489_488; clear hb hbox hg; have hnb4 := NB488_489.out; have hnc4 := NB489_488.out; obtain ⟨hcz5_0, hcz5_1, hfz5_0, hfz5_1⟩ := cz2 BK488.out; obtain ⟨hcz6_0, hcz6_1, hfz6_0, hfz6_1⟩ := cz2 BK489.out))
  refine bodyPost_ret (results_cell_row rfl _ _ gb489 73 #[.int .i64 a0_0, .int .i64 (wrap64 (1 - a0_1))] (0, 0) _ rfl (by (with_reducible repeat (first | refine blk_drewN ?_ _ | refine blk_drew ?_ | refine blk_alloc ?_ _)); refine blk_put (cs := #[.int .i64 a0_0, .int .i64 0]) ?_ 1 _ rfl; (with_reducible repeat (first | refine blk_drewN ?_ _ | refine blk_drew ?_ | refine blk_alloc ?_ _)); refine blk_put (cs := #[.int .i64 0, .int .i64 0]) ?_ 0 _ rfl; (with_reducible repeat (first | refine blk_drewN ?_ _ | refine blk_drew ?_ | refine blk_alloc ?_ _)); exact BK489.out) Try.underlying73 rfl (by kernel_rfl)) rfl ?_
  exact ⟨RF, BL HB.out⟩

/-! ### spec_saTurn: function 61 -/
def spec_saTurn.l0 : Nat → List Int → Int → Int → Int → Int → List (S73) → Option ((List (S73)))
  | 0, _, _, _, _, _, _ => none
  | k + 1, x6, x7, x8, x491000, x491001, x491002 => if x8 < x7 then (if 0 ≤ x8 then (if x8 < (x6.length : Int) then (if 0 ≤ (rd x6 x8) then (if (rd x6 x8) < (x491002.length : Int) then ((spec_paTurn.f ((rd_T73 x491002 (rd x6 x8)).f0) ((rd_T73 x491002 (rd x6 x8)).f1)).bind fun bt493 => (spec_saTurn.l0 k x6 x7 (wrap64 (x8 + 1)) x491000 x491001 (x491002.set ((rd x6 x8) : Int).toNat (⟨bt493.1, bt493.2⟩ : S73)))) else (none)) else (none)) else (none)) else (none)) else (some x491002)
def spec_saTurn.f (k : Nat) (a0_0 : Int) (a0_1 : Int) (l0_2 : List (S73)) (l1 : List Int) : Option ((List (S73))) := spec_saTurn.l0 k l1 (l1.length : Int) 0 a0_0 a0_1 l0_2
theorem spec_saTurn.mono_l : ∀ k, (∀ y0 y1 y2 y3 y4 y5, LeO (spec_saTurn.l0 k y0 y1 y2 y3 y4 y5) (spec_saTurn.l0 (k + 1) y0 y1 y2 y3 y4 y5))
  | 0 => fun _ _ _ _ _ _ r h => by simp [spec_saTurn.l0] at h
  | k + 1 => by
    have ih0 := spec_saTurn.mono_l k
    intros
    first | unfold spec_saTurn.l0
    repeat' first | (with_reducible first | apply ih0 | exact LeO.refl _ | exact LeO.none _ | refine LeO.ite ?_ ?_ | refine LeO.bind ?_ (fun _ => ?_)) | apply ih0 | exact LeO.none _ | refine LeO.ite ?_ ?_ | refine LeO.bind ?_ (fun _ => ?_)
theorem spec_saTurn.mono : ∀ a0 a1 a2 a3 k, LeO (spec_saTurn.f k a0 a1 a2 a3) (spec_saTurn.f (k + 1) a0 a1 a2 a3) := by
  intro a0 a1 a2 a3 k
  have ih0 := spec_saTurn.mono_l k
  unfold spec_saTurn.f
  repeat' first | (with_reducible first | apply ih0 | exact LeO.refl _ | exact LeO.none _ | refine LeO.ite ?_ ?_ | refine LeO.bind ?_ (fun _ => ?_)) | apply ih0 | exact LeO.none _ | refine LeO.ite ?_ ?_ | refine LeO.bind ?_ (fun _ => ?_)
def spec_saTurn.T4 : Bool × List (List Nat × List Nat) := (true, [([], []), ([0], [0]), ([], []), ([], []), ([3], [3]), ([], []), ([4, 5], [4, 5]), ([6], [6]), ([7], [7]), ([1, 2, 0, 1, 2, 3, 4, 5, 6, 7, 8], [1, 2]), ([9, 8, 8, 0, 1, 2, 3, 4, 5, 6, 7, 8], [8, 9])])
def spec_saTurn.B4 : List Nat := [0, 1, 0, 0, 8, 0, 56, 120, 248, 511, 1023]
theorem spec_saTurn.tab4 : rtab .any (opsOf Try.f61 4) = spec_saTurn.T4 := by kernel_rfl
theorem spec_saTurn.bits4 : waitsOk spec_saTurn.T4.2 spec_saTurn.B4 = true := by kernel_rfl
set_option maxHeartbeats 8000000 in
set_option maxRecDepth 100000 in
theorem spec_saTurn.calls (k : Nat) (a0_0 : Int) (a0_1 : Int) (P0_2_ : Nat → Prop) (u9000_ : Value) (l0_2 : List (S73)) (A1 : Option Addr) (c1 : Nat) (l1 : List Int) (r : List (S73)) (w0 w : World) (hB : Below w0.heap.size w0 w) (ho0_2 : Kd.R k73 73 w w0.heap.size P0_2_ u9000_ l0_2) (hr1 : ∀ W_, Kept w W_ (fun k_ => P0_2_ k_) → Kd.C (Kd.int .i64) W_ A1 l1.length l1) (hc1 : l1.length ≤ c1) (h : spec_saTurn.f k a0_0 a0_1 l0_2 l1 = some r) :
    Calls Try.prog 61 #[.agg #[.int .i64 a0_0, .int .i64 a0_1, u9000_], .slice A1 l1.length c1] w fun e w' => e = .returned (.tuple #[]) ∧ Kd.R k73 73 w' w0.heap.size (fun k_ => (P0_2_ k_ ∨ w.heap.size ≤ k_)) u9000_ r ∧ Below w0.heap.size w0 w' ∧ Kept w w' (fun k_ => P0_2_ k_) := by
  have hu30 := Try.underlying30
  have hu73 := Try.underlying73
  have HO0_2 := Aside0.mk (show Kd.R k73 73 w w0.heap.size (fun k_ => (P0_2_ k_ ∨ w.heap.size ≤ k_)) u9000_ l0_2 from Kd.R_mono ho0_2 (fun k_ hk => (.inl hk)))
  have HR1 := Aside0.mk hr1
  have HC1 := Aside0.mk hc1
  clear hr1 hc1
  have HK := Aside0.mk (Kept.refl w (fun k_ => P0_2_ k_))
  have HW0 := Aside0.mk hB.size
  have HB := Aside0.mk hB
  clear hB
  have H := h
  clear h
  unfold spec_saTurn.f at H
  have H' := Aside0.mk H
  clear H
  obtain ⟨Ao3, co3, eo3⟩ := Kd.R_slice HO0_2.out
  subst eo3
  go_enter Try.func61, Try.ntmps61
  go_wp2_with (first | ((with_reducible refine gate_dst (N := 2) rfl ?_); refine boxE (N := 2) (cs := #[.int .i64 a0_0, .int .i64 a0_1, .slice Ao3 l0_2.length co3]) (t := 30) ?_; intro gb490 hg w4 hbox hb; refine E6 (Kd.R_below (PR HO0_2.out) hb) (Kept.below (S := (fun k_ => P0_2_ k_)) (by repeat (first | (with_reducible first | exact HK.out | apply Kept.alloc | apply Kept.drewN | apply Kept.drew) | exact HK.out)) hb) (below_step (BL HB.out) hb) (hbox) ((by rw [hg]; exact (by first | exact HK.out.1 | exact (show Kept w _ (fun k_ => P0_2_ k_) from by repeat (first | (with_reducible first | exact HK.out | apply Kept.alloc | apply Kept.drewN | apply Kept.drew) | exact HK.out)).1) : w.heap.size ≤ gb490)) (gwM hg (below_size (BL HB.out)) : w0.heap.size ≤ gb490) ?_; clear HO0_2 HK HB; intro HO0_2 HK HB BK490 GW490 GE490; clear hb hbox hg))
  go_loopg [8] k (fun kq v8 w' => ∃ (x8_1 : Int) (x491002_1 : List (S73)), v8 = .int .i64 x8_1 ∧ Aside0 (spec_saTurn.l0 kq l1 (l1.length : Int) x8_1 a0_0 a0_1 x491002_1 = some r) ∧ Aside0 (kq ≤ k) ∧ Aside0 (Kd.R k73 73 w' w0.heap.size (fun k_ => (P0_2_ k_ ∨ w.heap.size ≤ k_)) (.slice Ao3 l0_2.length co3) x491002_1) ∧ Aside0 (w'.heap[gb490]? = some (.cells #[.int .i64 a0_0, .int .i64 a0_1, (.slice Ao3 l0_2.length co3)] 30 (0, 0))) ∧ Aside0 (Kept w w' (fun k_ => P0_2_ k_)) ∧ Aside0 (Below w0.heap.size w0 w'))
  case atStart => exact ⟨(0), (l0_2), RG, H', ⟨Nat.le_refl _⟩, ⟨PR HO0_2.out⟩, ⟨PB BK490.out⟩, ⟨by repeat (first | (with_reducible first | exact HK.out | apply Kept.alloc | apply Kept.drewN | apply Kept.drew | refine Kept.setCell ?_ (.inr GW490.out) _) | exact HK.out)⟩, ⟨BL HB.out⟩⟩
  clear H'
  try clear c1
  obtain ⟨x8_1, x491002_1, rfl, HA, HK1, HO_491002, BK490, HK, HB⟩ := hrel
  have hl491002_1 := (Kd.R_reads' HO_491002.out).1
  rw [hl491002_1] at HO_491002
  (try simp only [hl491002_1])
  (try simp only [hl491002_1] at BK490)
  cases gk with
  | zero => exact absurd HA.out (by simp [spec_saTurn.l0])
  | succ k1 => ?_
  have H := HA.out
  clear HA
  simp only [spec_saTurn.l0] at H
  replace H := ifB H; rcases H with ⟨c5b0, H⟩ | ⟨c5b0, H⟩
  · replace H := ifN H; obtain ⟨c6b0, H⟩ := H
    replace H := ifN H; obtain ⟨c7b0, H⟩ := H
    replace H := ifN H; obtain ⟨c8b0, H⟩ := H
    replace H := ifN H; obtain ⟨c9b0, H⟩ := H
    replace H := bindA H; obtain ⟨⟨t493, t494⟩, A10, H⟩ := H
    dsimp only at H
    generalize hy495 : ((x491002_1.set ((rd l1 x8_1) : Int).toNat (⟨t493, t494⟩ : S73)) : List (S73)) = y495 at H
    have Ny495 := Aside0.mk hy495.symm; clear hy495
    have H' := Aside0.mk H
    clear H
    have p491 : 0 ≤ (x8_1 : Int) := OD
    have q491 : x8_1 < (l1.length : Int) := OD
    obtain ⟨ad491, e491, hx491_0⟩ := Kd.at_int (Kd.C_kept_now HR1.out HK.out) x8_1 p491 q491
    cases e491
    replace p491 := eq_true p491
    replace q491 := eq_true q491
    try go_wp2
    refine E4 (Kd.R_drew HO_491002.out) (blk_drew BK490.out) (Kept.drew HK.out) (below_drew1 HB.out) ?_
    clear HO_491002 BK490 HK HB
    intro HO_491002 BK490 HK HB
    have p492 : 0 ≤ ((rd l1 x8_1) : Int) := OD
    have q492 : (rd l1 x8_1) < (x491002_1.length : Int) := OD
    obtain ⟨ad492, e492, hx492_0, hx492_1⟩ := at_T73 (Kd.R_reads' HO_491002.out).2.2 (rd l1 x8_1) p492 q492
    cases e492
    replace p492 := eq_true p492
    replace q492 := eq_true q492
    refine start_ (n := 11) (S := fun w' => w'.cell? ⟨gb490, 0, none⟩ = some (.int .i64 a0_0) ∧ w'.cell? ⟨gb490, 1, none⟩ = some (.int .i64 a0_1) ∧ w'.cell? ⟨gb490, 2, none⟩ = some (.slice (some ad492) x491002_1.length co3) ∧ w'.cell? (ad492.add (((rd l1 x8_1)).toNat * 2)) = some (.int .i64 ((rd_T73 x491002_1 (rd l1 x8_1)).f0)) ∧ w'.cell? ⟨(ad492.add (((rd l1 x8_1)).toNat * 2)).block, (ad492.add (((rd l1 x8_1)).toNat * 2)).off + 1, none⟩ = some (.int .i64 ((rd_T73 x491002_1 (rd l1 x8_1)).f1))) (ds := [10]) #[false, false, false, false, false, false, false, false, false, false, false] (by kernel_rfl) rfl rfl ⟨(blk_cell BK490.out 0).trans rfl, (blk_cell BK490.out 1).trans rfl, (blk_cell BK490.out 2).trans rfl, hx492_0, hx492_1⟩ (fun hHeld => ?_); refine with_tabW spec_saTurn.tab4 spec_saTurn.bits4 (fun HT_ HW_ => ?_)
    generalize wr.drew = w12 at HO_491002 BK490 HK HB hx492_0 hx492_1 hHeld ⊢
    refine pureE (i := 0) (N := some 12) #[true, false, false, false, false, false, false, false, false, false, false] HT_.out ?_
    refine pureE (i := 2) (N := some 14) #[true, false, true, false, false, false, false, false, false, false, false] HT_.out ?_
    refine pureE (i := 3) (N := some 15) #[true, false, true, true, false, false, false, false, false, false, false] HT_.out ?_
    refine pureE (i := 5) (N := some 17) #[true, false, true, true, false, true, false, false, false, false, false] HT_.out ?_
    refine take_ (i := 1) (N := some 13) (v := ?_) (a' := ?_) #[true, true, true, true, false, true, false, false, false, false, false] rfl rfl (take_ofW HT_.out HW_.out (by kernel_rfl)) (fun _ _ _ h => h) (Or.inl ⟨by rfl, ?_⟩) hHeld ?_ ?_
    rotate_left
    · rintro w' ⟨s0, s1, s2, s3, s4⟩
      go_simp
      with_reducible rfl
    rotate_left
    · simp only [Act.put, List.setIfInBounds_toArray, List.set_cons_zero, List.set_cons_succ, i64_w, i32_w]
      rfl
    refine take_ (i := 4) (N := some 16) (v := ?_) (a' := ?_) #[true, true, true, true, true, true, false, false, false, false, false] rfl rfl (take_ofW HT_.out HW_.out (by kernel_rfl)) (fun _ _ _ h => h) (Or.inl ⟨by rfl, ?_⟩) hHeld ?_ ?_
    rotate_left
    · rintro w' ⟨s0, s1, s2, s3, s4⟩
      go_simp
      with_reducible rfl
    rotate_left
    · simp only [Act.put, List.setIfInBounds_toArray, List.set_cons_zero, List.set_cons_succ, i64_w, i32_w]
      rfl
    refine pureE (i := 6) (N := some 18) #[true, true, true, true, true, true, true, false, false, false, false] HT_.out ?_
    refine take_ (i := 7) (N := some 19) (v := ?_) (a' := ?_) #[true, true, true, true, true, true, true, true, false, false, false] rfl rfl (take_ofW HT_.out HW_.out (by kernel_rfl)) (fun _ _ _ h => h) (Or.inl ⟨by rfl, ?_⟩) hHeld ?_ ?_
    rotate_left
    · rintro w' ⟨s0, s1, s2, s3, s4⟩
      go_simp
      with_reducible rfl
    rotate_left
    · simp only [Act.put, List.setIfInBounds_toArray, List.set_cons_zero, List.set_cons_succ, i64_w, i32_w]
      rfl
    refine one_ (i := 8) (N := some 20) #[true, true, true, true, true, true, true, true, true, false, false] rfl rfl (one_of HT_.out (by kernel_rfl)) (by decide) (fun K hK => ?_)
    refine goes_ Try.func79 (by kernel_rfl) rfl #[.agg #[.int .i64 ((rd_T73 x491002_1 (rd l1 x8_1)).f0), .int .i64 ((rd_T73 x491002_1 (rd l1 x8_1)).f1)]] (by rfl) rfl rfl (by (try simp only [List.map_toArray, List.map_cons, List.map_nil]); first | done | rfl | (simp only [List.length_drop, List.length_take]; rfl)) ?_
    with_reducible refine (spec_paTurn.calls ((rd_T73 x491002_1 (rd l1 x8_1)).f0) ((rd_T73 x491002_1 (rd l1 x8_1)).f1) t493 t494 _ A10.out).mono ?_
    rintro e w13 ⟨rfl, hb⟩
    have HS3_ := (hb.cell (World.block_lt_of_cell? _ _ (hHeld.2.2.2.1))).trans (hHeld.2.2.2.1)
    have HS4_ := (hb.cell (World.block_lt_of_cell? _ _ (hHeld.2.2.2.2))).trans (hHeld.2.2.2.2)
    refine ⟨_, rfl, ?_⟩
    refine E4 (Kd.R_below (PR HO_491002.out) hb) (bB BK490.out hb) (Kept.below (S := (fun k_ => P0_2_ k_)) (by repeat (first | (with_reducible first | exact HK.out | apply Kept.alloc | apply Kept.drewN | apply Kept.drew | refine Kept.setCell ?_ (.inr GW490.out) _) | exact HK.out)) hb) (below_step (BL HB.out) hb) ?_
    clear HO_491002 BK490 HK HB
    intro HO_491002 BK490 HK HB
    (try clear hb)
    (try clear hb2)
    (try clear hk)
    (try clear hi)
    have p11 : 0 ≤ ((rd l1 x8_1) : Int) := OD
    have q11 : ((rd l1 x8_1) : Int) < ((x491002_1.length : Int) : Int) := OD
    obtain ⟨go11, co11, eo11, gb11, gl11, cl11, HG11⟩ := Kd.R_form HO_491002.out (by omega)
    (first | cases eo11 | (injection eo11 with ea_ en_ ec_; (first | subst ea_ | (injection ea_ with ea_; subst ea_)); subst ec_; clear en_))
    have GB11 := Aside0.mk gb11
    have GG11 := Aside0.mk HG11
    clear gb11 gl11 HG11
    have HMgo11 := Aside0.mk (show (P0_2_ go11 ∨ w.heap.size ≤ go11) from (HO_491002.out.1 _ rfl))
    (first | simp only [add_plain] at hx492_0 | skip)
    (first | simp only [add_plain] at hx492_1 | skip)
    obtain ⟨ce11, hcl11, hM11, hcc11, hfr11⟩ := Kd.R_elem HO_491002.out z73 ((rd l1 x8_1) : Int) p11 q11
    obtain rfl := k73_openM hM11
    have hx11_0 : World.cell? _ ⟨go11, ((rd l1 x8_1) : Int).toNat * 2, none⟩ = some (.int .i64 ((rd_T73 x491002_1 (rd l1 x8_1)).f0)) := hcc11 0 _ rfl
    have hx11_1 : World.cell? _ ⟨go11, ((rd l1 x8_1) : Int).toNat * 2 + 1, none⟩ = some (.int .i64 ((rd_T73 x491002_1 (rd l1 x8_1)).f1)) := hcc11 1 _ rfl
    have hf11_0 : World.frozen? _ ⟨go11, ((rd l1 x8_1) : Int).toNat * 2, none⟩ = false := hfr11 0
    have hf11_1 : World.frozen? _ ⟨go11, ((rd l1 x8_1) : Int).toNat * 2 + 1, none⟩ = false := hfr11 1
    clear hcl11 hcc11 hfr11 hM11
    replace p11 := eq_true p11
    replace q11 := eq_true q11
    obtain ⟨ce14, hcl14, hM14, hcc14, hfr14⟩ := Kd.R_elem HO_491002.out z73 ((rd l1 x8_1) : Int) (OD) (by have h_ : ((rd l1 x8_1) : Int) < ((x491002_1.length : Int) : Int) := OD; first | exact h_ | (have e_ := (Kd.R_reads' HO_491002.out).1; omega) | simpa using h_)
    obtain rfl := k73_openM hM14
    have HP14 := (Kd.R_seg HO_491002.out ((rd l1 x8_1) : Int) (OD) (by have h_ : ((rd l1 x8_1) : Int) < ((x491002_1.length : Int) : Int) := OD; first | exact h_ | (have e_ := (Kd.R_reads' HO_491002.out).1; omega) | simpa using h_) (seg := [.int .i64 t493, .int .i64 t494]) (j := 0) hcl14 hcc14 (show 2 ≤ 2 from by decide) (x' := (⟨t493, t494⟩ : S73)) (k73_mkM _ _ _ (⟨t493, t494⟩ : S73) ) (fun _ hk => hk)).1
    rw [← Ny495.out] at HP14
    have HQ14 := Aside0.mk HP14
    clear hcl14 hcc14 hfr14 hM14 HP14
    refine hK.out _ _ ⟨(blk_cell BK490.out 0).trans rfl, (blk_cell BK490.out 1).trans rfl, (blk_cell BK490.out 2).trans rfl, HS3_, HS4_⟩ (fun hHeld => ?_)
    clear hK K
    refine norm_ (a' := ?_) ?_ ?_
    rotate_left
    · show Act.put _ (some 20) _ = _
      simp only [Act.put, List.setIfInBounds_toArray, List.set_cons_zero, List.set_cons_succ, i64_w, i32_w]
      rfl
    refine pureE (i := 9) (N := some 21) #[true, true, true, true, true, true, true, true, true, true, false] HT_.out ?_
    refine last_ (i := 10) (N := none) #[true, true, true, true, true, true, true, true, true, true, true] rfl rfl (one_of HT_.out (by kernel_rfl)) (by decide) (fun K hK => ?_)
    refine skip_ (w1 := ?_) (by rfl) rfl ?_ ?_
    rotate_left
    · go_simp
      rfl
    refine hK.out _ _ ?_
    clear hK K
    refine done_ (done_of HT_.out (by kernel_rfl)) ?_
    try go_wp2
    (try simp only [← hl491002_1])
    go_roundg k1
    case measure => have := HK1.out; omega
    case rel => exact ⟨(wrap64 (x8_1 + 1)), (y495), RG, H', ⟨by have := HK1.out; omega⟩, ⟨PR1 HQ14.out hl491002_1⟩, ⟨by (try simp only [hl491002_1]); (with_reducible repeat (first | refine blk_drewN ?_ _ | refine blk_drew ?_ | refine blk_alloc ?_ _)); refine blk_far ?_ (by have h_ := Kd.R_ne HO_491002.out BK490.out (by decide); intro e_; exact h_ (by rw [e_]; rfl)) _; (with_reducible repeat (first | refine blk_drewN ?_ _ | refine blk_drew ?_ | refine blk_alloc ?_ _)); refine blk_far ?_ (by have h_ := Kd.R_ne HO_491002.out BK490.out (by decide); intro e_; exact h_ (by rw [e_]; rfl)) _; (with_reducible repeat (first | refine blk_drewN ?_ _ | refine blk_drew ?_ | refine blk_alloc ?_ _)); exact BK490.out⟩, ⟨by repeat (first | (with_reducible first | exact HK.out | apply Kept.alloc | apply Kept.drewN | apply Kept.drew | refine Kept.setCell ?_ HMgo11.out _ | refine Kept.setCell ?_ HMgo11.out _ | refine Kept.setCell ?_ (.inr GW490.out) _) | exact HK.out)⟩, ⟨by repeat (first | (with_reducible first | exact HB.out | apply below_alloc | apply pw_below_drewN | apply below_drew1 | refine below_set ?_ GB11.out | refine below_set ?_ GB11.out | refine below_set ?_ GE490.out) | exact HB.out)⟩⟩
  obtain rfl := Option.some.inj H
  go_wp2
  first | go_end0 | ((try simp only [Exit.inBlock, Exit.then]); refine bodyPost_ret (results_none rfl _ _ _) rfl ?_)
  exact ⟨RF, (by first | exact (PR HO_491002.out) | (simp only [hl491002_1]; exact (PR HO_491002.out))), by repeat (first | (with_reducible first | exact HB.out | apply below_alloc | apply pw_below_drewN | apply below_drew1 | refine below_set ?_ GE490.out) | exact HB.out), by repeat (first | (with_reducible first | exact HK.out | apply Kept.alloc | apply Kept.drewN | apply Kept.drew | refine Kept.setCell ?_ (.inr GW490.out) _) | exact HK.out)⟩
/-! ### impl_copyBoard: function 63 -/
def impl_copyBoard.f (a0_0 : Int) (a0_1 : Int) (l0_2 : List (S73)) : Option (Int × Int × (List (S73))) := (some (([] : List (S73)) : List (S73))).bind fun y516 => (if y516.length + l0_2.length < 8796093022208 then (some (a0_0, a0_1, (y516 ++ l0_2))) else (none))
def impl_copyBoard.T1 : Bool × List (List Nat × List Nat) := (true, [([], []), ([0], [0]), ([], []), ([2], [2]), ([], []), ([], []), ([5], [5]), ([4, 6], [4, 6]), ([1, 3, 7], [1, 3, 7]), ([8, 7, 0, 1, 2, 3, 4, 5, 6, 7, 8], [8])])
def impl_copyBoard.B1 : List Nat := [0, 1, 0, 4, 0, 0, 32, 112, 255, 511]
theorem impl_copyBoard.tab1 : rtab .any (opsOf Try.f63 1) = impl_copyBoard.T1 := by kernel_rfl
theorem impl_copyBoard.bits1 : waitsOk impl_copyBoard.T1.2 impl_copyBoard.B1 = true := by kernel_rfl
set_option maxHeartbeats 8000000 in
set_option maxRecDepth 100000 in
theorem impl_copyBoard.calls (a0_0 : Int) (a0_1 : Int) (A0_2 : Option Addr) (c0_2 : Nat) (l0_2 : List (S73)) (r1 : Int) (r2 : Int) (r3 : List (S73)) (w : World) (hr0_2 : Kd.C k73 w A0_2 l0_2.length l0_2) (hc0_2 : l0_2.length ≤ c0_2) (h : impl_copyBoard.f a0_0 a0_1 l0_2 = some (r1, r2, r3)) :
    Calls Try.prog 63 #[.agg #[.int .i64 a0_0, .int .i64 a0_1, .slice A0_2 l0_2.length c0_2]] w fun e w' => ∃ v2_ : Value, e = .returned (.agg #[.int .i64 r1, .int .i64 r2, v2_]) ∧ Kd.R k73 73 w' w.heap.size (fun _ => True) v2_ r3 ∧ Below w.heap.size w w' := by
  have hu30 := Try.underlying30
  have HR0_2 := Aside0.mk hr0_2
  have HC0_2 := Aside0.mk hc0_2
  clear hr0_2 hc0_2
  have HB := Aside0.mk (Below.refl w.heap.size w)
  have H := h
  clear h
  unfold impl_copyBoard.f at H
  replace H := nameB H; obtain ⟨y516, Ny516, H⟩ := H
  replace H := ifP H; obtain ⟨c2, H⟩ := H
  have LMc2 := Aside0.mk c2
  clear c2
  generalize hy519 : ((y516 ++ l0_2) : List (S73)) = y519 at H
  have Ny519 := Aside0.mk hy519.symm; clear hy519
  simp only [Option.some.injEq, Prod.mk.injEq] at H
  obtain ⟨rfl, rfl, rfl⟩ := H
  go_enter Try.func63, Try.ntmps63
  try go_wp2_with (first | ((with_reducible refine gate_dst (N := 1) rfl ?_); refine boxE (N := 1) (cs := #[.int .i64 a0_0, .int .i64 a0_1, .slice A0_2 l0_2.length c0_2]) (t := 30) ?_; intro gb514 hg w3 hbox hb; refine E4b HB.out hg hbox hb ?_; clear HB; intro HB BK514 GW514 GE514; clear hb hbox hg) | ((with_reducible refine gate_dst (N := 2) rfl ?_); refine boxE (N := 2) (cs := #[.int .i64 0, .int .i64 0, .slice none 0 0]) (t := 30) ?_; intro gb515 hg w4 hbox hb; refine E7 (bB BK514.out hb) (below_step (BL HB.out) hb) (hbox) (gwM hg (below_size (BL HB.out)) : w.heap.size ≤ gb515) (gwM hg (below_size (BL HB.out)) : w.heap.size ≤ gb515) ((nB BK514.out hg : gb514 ≠ gb515)) ((nC BK514.out hg : gb515 ≠ gb514)) ?_; clear BK514 HB; intro BK514 HB BK515 GW515 GE515 NB514_515 NB515_514; clear hb hbox hg))
  refine E3 (blk_drew BK514.out) (blk_drew BK515.out) (below_drew1 HB.out) ?_
  clear BK514 BK515 HB
  intro BK514 BK515 HB
  refine start_ (n := 10) (S := fun w' => w'.cell? ⟨gb514, 0, none⟩ = some (.int .i64 a0_0) ∧ w'.cell? ⟨gb514, 1, none⟩ = some (.int .i64 a0_1) ∧ w'.cell? ⟨gb514, 2, none⟩ = some (.slice A0_2 l0_2.length c0_2)) (ds := []) #[false, false, false, false, false, false, false, false, false, false] (by kernel_rfl) rfl rfl ⟨(blk_cell BK514.out 0).trans rfl, (blk_cell BK514.out 1).trans rfl, (blk_cell BK514.out 2).trans rfl⟩ (fun hHeld => ?_); refine with_tabW impl_copyBoard.tab1 impl_copyBoard.bits1 (fun HT_ HW_ => ?_)
  generalize w4.drew = w5 at BK514 BK515 HB hHeld ⊢
  refine pureE (i := 0) (N := some 3) #[true, false, false, false, false, false, false, false, false, false] HT_.out ?_
  refine pureE (i := 2) (N := some 5) #[true, false, true, false, false, false, false, false, false, false] HT_.out ?_
  refine pureE (i := 5) (N := some 8) #[true, false, true, false, false, true, false, false, false, false] HT_.out ?_
  refine take_ (i := 1) (N := some 4) (v := ?_) (a' := ?_) #[true, true, true, false, false, true, false, false, false, false] rfl rfl (take_ofW HT_.out HW_.out (by kernel_rfl)) (fun _ _ _ h => h) (Or.inl ⟨by rfl, ?_⟩) hHeld ?_ ?_
  rotate_left
  · rintro w' ⟨s0, s1, s2⟩
    go_simp
    with_reducible rfl
  rotate_left
  · simp only [Act.put, List.setIfInBounds_toArray, List.set_cons_zero, List.set_cons_succ, i64_w, i32_w]
    rfl
  refine take_ (i := 3) (N := some 6) (v := ?_) (a' := ?_) #[true, true, true, true, false, true, false, false, false, false] rfl rfl (take_ofW HT_.out HW_.out (by kernel_rfl)) (fun _ _ _ h => h) (Or.inl ⟨by rfl, ?_⟩) hHeld ?_ ?_
  rotate_left
  · rintro w' ⟨s0, s1, s2⟩
    go_simp
    with_reducible rfl
  rotate_left
  · simp only [Act.put, List.setIfInBounds_toArray, List.set_cons_zero, List.set_cons_succ, i64_w, i32_w]
    rfl
  refine take_ (i := 6) (N := some 9) (v := ?_) (a' := ?_) #[true, true, true, true, false, true, true, false, false, false] rfl rfl (take_ofW HT_.out HW_.out (by kernel_rfl)) (fun _ _ _ h => h) (Or.inl ⟨by rfl, ?_⟩) hHeld ?_ ?_
  rotate_left
  · rintro w' ⟨s0, s1, s2⟩
    go_simp
    with_reducible rfl
  rotate_left
  · simp only [Act.put, List.setIfInBounds_toArray, List.set_cons_zero, List.set_cons_succ, i64_w, i32_w]
    rfl
  refine one_ (i := 4) (N := some 7) #[true, true, true, true, true, true, true, false, false, false] rfl rfl (one_of HT_.out (by kernel_rfl)) (by decide) (fun K hK => ?_)
  refine Kd.R_lit_step k73 _ 73 ?hg (N := 7) ?hd (xs := ([] : List (S73))) (inner := []) (ok := fun _ => True) (okp := fun _ => True) ?hr ?hp (fun _ hk => hk) trivial (Below.refl _ _) (Nat.le_refl _) (by simp) ?_; (case hd => rfl); (case hg => rfl); (case hr => first | (go_simp; done) | (go_simp; rfl)); (case hp => exact (Reps.none _ _))
  intro v517 w6 ho7 hb hg_ hnew_
  clear hg_ hnew_
  (first | rw [← Ny516.out] at ho7 | (simp only [Int.reduceToNat] at ho7; rw [← Ny516.out] at ho7))
  refine E4 (Kd.R_lower ho7 (below_size (BL HB.out))) (bB BK514.out hb) (bB BK515.out hb) (below_step (BL HB.out) hb) ?_
  clear BK514 BK515 HB
  intro HO518 BK514 BK515 HB
  clear hb ho7
  refine hK.out _ _ ⟨(blk_cell BK514.out 0).trans rfl, (blk_cell BK514.out 1).trans rfl, (blk_cell BK514.out 2).trans rfl⟩ (fun hHeld => ?_)
  clear hK K
  refine norm_ (a' := ?_) ?_ ?_
  rotate_left
  · show Act.put _ (some 7) _ = _
    simp only [Act.put, List.setIfInBounds_toArray, List.set_cons_zero, List.set_cons_succ, i64_w, i32_w]
    rfl
  refine one_ (i := 7) (N := some 10) #[true, true, true, true, true, true, true, true, false, false] rfl rfl (one_of HT_.out (by kernel_rfl)) (by decide) (fun K hK => ?_)
  refine Kd.R_append_rows_step k73 (w0 := w) w.heap.size (by rfl) (.tmp 7) (.tmp 9) 28 73 (.agg #[(.int .i64 0), (.int .i64 0)]) 16 rfl Try.underlying28 info73 rfl (by decide) (by omega) v517 y516 l0_2 _ _ _ (fun _ => True) (fun _ => False) rfl rfl ?aO ?aR (fun _ _ h => h) (fun _ h => h.elim) ?aF ?aB ?aS ?aL ?_
  (case aR => repeat (first | exact (Kd.C_below HR0_2.out HB.out) | (with_reducible refine Kd.C_alloc ?_ _) | (with_reducible refine Kd.C_drewN ?_ _) | (with_reducible refine Kd.C_drew ?_)))
  (case aB => exact (BL HB.out))
  (case aF => exact (fun _ _ => trivial))
  (case aO => exact (PR HO518.out))
  (case aS => exact (below_size (BL HB.out)))
  (case aL => have := LMc2.out; omega)
  intro v520 w8 ho hb hg hat
  rw [← Ny519.out] at ho
  refine E4 (bG BK514.out hg (Kd.R_ne HO518.out BK514.out (by decide))) (bG BK515.out hg (Kd.R_ne HO518.out BK515.out (by decide))) (hb) (ho) ?_
  clear BK514 BK515 HB HO518
  intro BK514 BK515 HB HO521
  clear ho hb hg hat
  obtain ⟨Ao9, co9, eo9⟩ := Kd.R_slice HO521.out
  (first | subst eo9 | (injection eo9 with f1_ f2_ f3_; have f4_ := f1_.symm; have f5_ := f3_.symm; clear f1_ f2_ f3_; subst f4_; subst f5_))
  refine hK.out _ _ ⟨(blk_cell BK514.out 0).trans rfl, (blk_cell BK514.out 1).trans rfl, (blk_cell BK514.out 2).trans rfl⟩ (fun hHeld => ?_)
  clear hK K
  refine norm_ (a' := ?_) ?_ ?_
  rotate_left
  · show Act.put _ (some 10) _ = _
    simp only [Act.put, List.setIfInBounds_toArray, List.set_cons_zero, List.set_cons_succ, i64_w, i32_w]
    rfl
  refine pureE (i := 8) (N := some 11) #[true, true, true, true, true, true, true, true, true, false] HT_.out ?_
  refine one_ (i := 9) (N := none) #[true, true, true, true, true, true, true, true, true, true] rfl rfl (one_of HT_.out (by kernel_rfl)) (by decide) (fun K hK => ?_)
  have hs10 : w8.cell? ⟨gb515, 0, none⟩ = some (.int .i64 0) := (blk_cell BK515.out 0).trans rfl
  have hfs10 := blk_frozen BK515.out 0
  have hns10_0 := NB514_515.out
  have hms10_0 := NB515_514.out
  have hs11 : w8.cell? ⟨gb515, 1, none⟩ = some (.int .i64 0) := (blk_cell BK515.out 1).trans rfl
  have hfs11 := blk_frozen BK515.out 1
  have hns11_0 := NB514_515.out
  have hms11_0 := NB515_514.out
  have hs12 : w8.cell? ⟨gb515, 2, none⟩ = some (.slice none 0 0) := (blk_cell BK515.out 2).trans rfl
  have hfs12 := blk_frozen BK515.out 2
  have hns12_0 := NB514_515.out
  have hms12_0 := NB515_514.out
  refine skip_ (w1 := ?_) (by rfl) rfl ?_ ?_
  rotate_left
  · go_simp
    rfl
  refine hK.out _ _ ⟨((cell_far (p := ⟨gb515, _, none⟩) NB514_515.out _).trans (((cell_far (p := ⟨gb515, _, none⟩) NB514_515.out _).trans (((cell_far (p := ⟨gb515, _, none⟩) NB514_515.out _).trans (hHeld.1)))))), ((cell_far (p := ⟨gb515, _, none⟩) NB514_515.out _).trans (((cell_far (p := ⟨gb515, _, none⟩) NB514_515.out _).trans (((cell_far (p := ⟨gb515, _, none⟩) NB514_515.out _).trans (hHeld.2.1)))))), ((cell_far (p := ⟨gb515, _, none⟩) NB514_515.out _).trans (((cell_far (p := ⟨gb515, _, none⟩) NB514_515.out _).trans (((cell_far (p := ⟨gb515, _, none⟩) NB514_515.out _).trans (hHeld.2.2))))))⟩ (fun hHeld => ?_)
  clear hK K
  refine done_ (done_of HT_.out (by kernel_rfl)) ?_
  try go_wp2
  refine bodyPost_ret (results_cell_row rfl _ _ gb515 30 #[.int .i64 a0_0, .int .i64 a0_1, .slice Ao9 y519.length co9] (0, 0) _ rfl (by (with_reducible repeat (first | refine blk_drewN ?_ _ | refine blk_drew ?_ | refine blk_alloc ?_ _)); refine blk_put (cs := #[.int .i64 a0_0, .int .i64 a0_1, .slice none 0 0]) ?_ 2 _ rfl; (with_reducible repeat (first | refine blk_drewN ?_ _ | refine blk_drew ?_ | refine blk_alloc ?_ _)); refine blk_put (cs := #[.int .i64 a0_0, .int .i64 0, .slice none 0 0]) ?_ 1 _ rfl; (with_reducible repeat (first | refine blk_drewN ?_ _ | refine blk_drew ?_ | refine blk_alloc ?_ _)); refine blk_put (cs := #[.int .i64 0, .int .i64 0, .slice none 0 0]) ?_ 0 _ rfl; (with_reducible repeat (first | refine blk_drewN ?_ _ | refine blk_drew ?_ | refine blk_alloc ?_ _)); exact BK515.out) Try.underlying30 rfl (by kernel_rfl)) rfl ?_
  exact ⟨_, RF, by (with_reducible repeat (first | apply Kd.R_alloc | apply Kd.R_drewN | apply Kd.R_drew)); exact Kd.R_mono (Kd.R_far (p := ⟨gb515, 2, none⟩) (Kd.R_far (p := ⟨gb515, 1, none⟩) (Kd.R_far (p := ⟨gb515, 0, none⟩) (Kd.R_types HO521.out BK515.out (by decide)) (fun _ hk => hk.2) (.int .i64 a0_0)) (fun _ hk => hk.2) (.int .i64 a0_1)) (fun _ hk => hk.2) (.slice Ao9 y519.length co9)) (fun _ hk => trivial), BL HB.out⟩
end Go.Proofs.Ytakihdabbpconaa.P
