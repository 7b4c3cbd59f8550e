import Derived.Test.YtbpfdbjnnlmdjaaPx0
import Derived.Test.YtbpfdbjnnlmdjaaPx4
namespace Go.Proofs.Ytbpfdbjnnlmdjaa.P
open Go.RowKit Go.Proofs.YtbpfdbjnnlmdjaaW.PrintWords Go.Proofs.YtbpfdbjnnlmdjaaW.PrintLast Go.Proofs.YtbpfdbjnnlmdjaaW.PrintMore
attribute [local go_sem] max2_int min2_int max_two min_two max_three min_three max_four min_four
set_option linter.unusedVariables false
set_option linter.unusedSimpArgs false
set_option maxHeartbeats 8000000
set_option maxRecDepth 100000
open Kd
def laws_eqCellS.l0 : Nat -> List (S83) -> List (S83) -> Int -> Option (Bool)
 | 0, _, _, _ => none
 | k + 1, x0, x1, x5 => if x5 < (x0.length : Int) then (if 0 <= x5 then (if x5 < (x1.length : Int) then ((laws_eqCell.f ((rd_T83 x0 x5).f0) ((rd_T83 x0 x5).f1) ((rd_T83 x1 x5).f0) ((rd_T83 x1 x5).f1)).bind fun t564 => (if t564 = true then (laws_eqCellS.l0 k x0 x1 (wrap64 (x5 + 1))) else (some false))) else (none)) else (none)) else (some true)
def laws_eqCellS.f (k : Nat) (l0 : List (S83)) (l1 : List (S83)) : Option (Bool) := if (l0.length : Int) = (l1.length : Int) then (laws_eqCellS.l0 k l0 l1 0) else (some false)
theorem laws_eqCellS.mono_l : ∀ k, (∀ y0 y1 y2, LeO (laws_eqCellS.l0 k y0 y1 y2) (laws_eqCellS.l0 (k + 1) y0 y1 y2))
 | 0 => fun _ _ _ r h => by simp [laws_eqCellS.l0] at h
 | k + 1 => by
  have ih0 := laws_eqCellS.mono_l k
  intros
  first | unfold laws_eqCellS.l0
  exact LM1 ih0
theorem laws_eqCellS.mono : ∀ a0 a1 k, LeO (laws_eqCellS.f k a0 a1) (laws_eqCellS.f (k + 1) a0 a1) := by
 intro a0 a1 k
 have ih0 := laws_eqCellS.mono_l k
 unfold laws_eqCellS.f
 exact LM1 ih0
def laws_eqCellS.T6 : Bool × List (List Nat × List Nat) := (true, [([], []), ([], []), ([0, 1], [0, 1]), ([2], [2]), ([], []), ([], []), ([4, 5], [4, 5]), ([6], [6]), ([3, 7], [3, 7]), ([8], [8])])
def laws_eqCellS.B6 : List Nat := [0, 0, 3, 7, 0, 0, 48, 112, 255, 511]
theorem laws_eqCellS.tab6 : rtab .any (opsOf Try.f51 6) = laws_eqCellS.T6 := by kernel_rfl
theorem laws_eqCellS.bits6 : waitsOk laws_eqCellS.T6.2 laws_eqCellS.B6 = true := by kernel_rfl
theorem laws_eqCellS.calls (k : Nat) (A0 : Option Addr) (c0 : Nat) (l0 : List (S83)) (A1 : Option Addr) (c1 : Nat) (l1 : List (S83)) (r : Bool) (w : World) (hr0 : Kd.C k83 w A0 l0.length l0) (hc0 : l0.length <= c0) (hr1 : Kd.C k83 w A1 l1.length l1) (hc1 : l1.length <= c1) (h : laws_eqCellS.f k l0 l1 = some r) :
 Calls Try.prog 51 #[.slice A0 l0.length c0, .slice A1 l1.length c1] w fun e w' => e = .returned (.bool r) /\ Below w.heap.size w w' := by
 have hu83 := Try.underlying83
 have HR0 := Aside0.mk hr0
 have HC0 := Aside0.mk hc0
 clear hr0 hc0
 have HR1 := Aside0.mk hr1
 have HC1 := Aside0.mk hc1
 clear hr1 hc1
 have HB := Aside0.mk (Below.refl w.heap.size w)
 have H := h
 clear h
 unfold laws_eqCellS.f at H
 replace H := ifQ H; rcases H with ⟨c3, H⟩ | ⟨c3, H⟩
 · have c3b0 := beq_iff_eq.mpr c3
   have c3b1 := bne_eq_false_iff_eq.mpr c3
   have c3b2 : (l0.length == l1.length) = true := by first | simpa using c3 | (simp at c3 ⊢; omega)
   clear c3
   have H' := Aside0.mk H
   clear H
   go_enter Try.func51, Try.ntmps51
   go_wp2
   go_loopg [5] k (fun kq v5 w' => ∃ (x5_1 : Int), v5 = .int .i64 x5_1 /\ Aside0 (laws_eqCellS.l0 kq l0 l1 x5_1 = some r) /\ Aside0 (kq <= k) /\ Aside0 (Below w.heap.size w w'))
   case atStart => exact ⟨(0), RG, H', ⟨Nat.le_refl _⟩, ⟨BL HB.1⟩⟩
   clear H'
   try clear c1; clear c3b0 c3b1 c3b2
   obtain ⟨x5_1, rfl, HA, HK1, HB⟩ := hrel
   cases gk with
   | zero => exact absurd HA.1 (by simp [laws_eqCellS.l0])
   | succ k1 => ?_
   have H := HA.1
   clear HA
   simp only [laws_eqCellS.l0] at H
   replace H := ifB H; rcases H with ⟨c4b0, H⟩ | ⟨c4b0, H⟩
   · replace H := ifN H; obtain ⟨c5b0, H⟩ := H
     replace H := ifN H; obtain ⟨c6b0, H⟩ := H
     replace H := bindA H; obtain ⟨t564, A7, H⟩ := H
     replace H := ifX H; rcases H with ⟨rfl, H⟩ | ⟨rfl, H⟩
     · have H' := Aside0.mk H
       clear H
       try go_wp2
       refine E1 (below_drew1 HB.1) ?_
       clear HB
       intro HB
       have p562 : 0 <= (x5_1 : Int) := OD
       have q562 : x5_1 < (l0.length : Int) := OD
       obtain ⟨ad562, e562, hx562_0, hx562_1⟩ := at_T83 HR0.1 x5_1 p562 q562
       have hw562_1 := hx562_1
       have hw562_0 := hx562_0
       cases e562
       replace hx562_0 := (HB.1.cell (World.block_lt_of_cell? w _ hx562_0)).trans hx562_0
       replace hx562_1 := (HB.1.cell (World.block_lt_of_cell? w _ hx562_1)).trans hx562_1
       replace p562 := eq_true p562
       replace q562 := eq_true q562
       have p563 : 0 <= (x5_1 : Int) := OD
       have q563 : x5_1 < (l1.length : Int) := OD
       obtain ⟨ad563, e563, hx563_0, hx563_1⟩ := at_T83 HR1.1 x5_1 p563 q563
       have hw563_1 := hx563_1
       have hw563_0 := hx563_0
       cases e563
       replace hx563_0 := (HB.1.cell (World.block_lt_of_cell? w _ hx563_0)).trans hx563_0
       replace hx563_1 := (HB.1.cell (World.block_lt_of_cell? w _ hx563_1)).trans hx563_1
       replace p563 := eq_true p563
       replace q563 := eq_true q563
       refine start_ (n := 10) (S := fun w' => w'.cell? (ad562.add ((x5_1).toNat * 2)) = some (.int .i64 ((rd_T83 l0 x5_1).f0)) /\ w'.cell? ⟨(ad562.add ((x5_1).toNat * 2)).block, (ad562.add ((x5_1).toNat * 2)).off + 1, none⟩ = some (.int .i64 ((rd_T83 l0 x5_1).f1)) /\ w'.cell? (ad563.add ((x5_1).toNat * 2)) = some (.int .i64 ((rd_T83 l1 x5_1).f0)) /\ w'.cell? ⟨(ad563.add ((x5_1).toNat * 2)).block, (ad563.add ((x5_1).toNat * 2)).off + 1, none⟩ = some (.int .i64 ((rd_T83 l1 x5_1).f1))) (ds := []) #[Zz,Zz,Zz,Zz,Zz,Zz,Zz,Zz,Zz,Zz] (by kernel_rfl) rfl rfl ⟨((HB.1.cell (World.block_lt_of_cell? w _ hw562_0)).trans hw562_0), ((HB.1.cell (World.block_lt_of_cell? w _ hw562_1)).trans hw562_1), ((HB.1.cell (World.block_lt_of_cell? w _ hw563_0)).trans hw563_0), ((HB.1.cell (World.block_lt_of_cell? w _ hw563_1)).trans hw563_1)⟩ (fun hHeld => ?_); refine with_tabW laws_eqCellS.tab6 laws_eqCellS.bits6 (fun HT_ HW_ => ?_)
       generalize wr.drew = w9 at HB hx562_0 hx562_1 hx563_0 hx563_1 hHeld ⊢
       refine pureF 0 (N := some 17) HT_.1 ?_
       refine pureF 1 (N := some 18) HT_.1 ?_
       refine pureF 2 (N := some 19) HT_.1 ?_
       refine pureF 4 (N := some 21) HT_.1 ?_
       refine pureF 5 (N := some 22) HT_.1 ?_
       refine pureF 6 (N := some 23) HT_.1 ?_
       refine takeE 3 (N := some 20) HT_.1 HW_.1 hHeld ?_
       refine takeE 7 (N := some 24) HT_.1 HW_.1 hHeld ?_
       refine one_ (i := 8) (N := some 25) #[Yy,Yy,Yy,Yy,Yy,Yy,Yy,Yy,Yy,Zz] rfl rfl (one_of HT_.1 (by kernel_rfl)) (by decide) (fun K hK => ?_)
       refine goes_ Try.func79 (by kernel_rfl) rfl #[.agg #[.int .i64 ((rd_T83 l0 x5_1).f0), .int .i64 ((rd_T83 l0 x5_1).f1)], .agg #[.int .i64 ((rd_T83 l1 x5_1).f0), .int .i64 ((rd_T83 l1 x5_1).f1)]] (by rfl) rfl rfl (by (try simp only [List.map_toArray, List.map_cons, List.map_nil]); first | done | rfl | (simp only [List.length_drop, List.length_take]; rfl)) ?_
       with_reducible refine (laws_eqCell.calls ((rd_T83 l0 x5_1).f0) ((rd_T83 l0 x5_1).f1) ((rd_T83 l1 x5_1).f0) ((rd_T83 l1 x5_1).f1) true _ A7.1).mono ?_
       rintro e w10 ⟨rfl, hb⟩
       refine ⟨_, rfl, ?_⟩
       refine E1 (bS HB.1 hb) ?_
       clear HB
       intro HB
       (try clear hb)
       (try clear hb2)
       (try clear hk)
       (try clear hi)
       refine hK.out _ _ ⟨((HB.1.cell (World.block_lt_of_cell? w _ hw562_0)).trans hw562_0), ((HB.1.cell (World.block_lt_of_cell? w _ hw562_1)).trans hw562_1), ((HB.1.cell (World.block_lt_of_cell? w _ hw563_0)).trans hw563_0), ((HB.1.cell (World.block_lt_of_cell? w _ hw563_1)).trans hw563_1)⟩ (fun hHeld => ?_)
       clear hK K
       refine norm_ (a' := ?_) ?_ ?_
       rotate_left
       · show Act.put _ (some 25) _ = _
         simp only [Act.put, List.setIfInBounds_toArray, List.set_cons_zero, List.set_cons_succ, i64_w, i32_w]
         rfl
       refine pureF 9 (N := some 26) HT_.1 ?_
       refine done_ (done_of HT_.1 (by kernel_rfl)) ?_
       try go_wp2
       go_roundg k1
       case measure => have := HK1.1; omega
       case rel => exact ⟨(wrap64 (x5_1 + 1)), RG, H', ⟨by have := HK1.1; omega⟩, ⟨BL HB.1⟩⟩
     obtain rfl := Option.some.inj H
     try go_wp2
     refine E1 (below_drew1 HB.1) ?_
     clear HB
     intro HB
     have p562 : 0 <= (x5_1 : Int) := OD
     have q562 : x5_1 < (l0.length : Int) := OD
     obtain ⟨ad562, e562, hx562_0, hx562_1⟩ := at_T83 HR0.1 x5_1 p562 q562
     have hw562_1 := hx562_1
     have hw562_0 := hx562_0
     cases e562
     replace hx562_0 := (HB.1.cell (World.block_lt_of_cell? w _ hx562_0)).trans hx562_0
     replace hx562_1 := (HB.1.cell (World.block_lt_of_cell? w _ hx562_1)).trans hx562_1
     replace p562 := eq_true p562
     replace q562 := eq_true q562
     have p563 : 0 <= (x5_1 : Int) := OD
     have q563 : x5_1 < (l1.length : Int) := OD
     obtain ⟨ad563, e563, hx563_0, hx563_1⟩ := at_T83 HR1.1 x5_1 p563 q563
     have hw563_1 := hx563_1
     have hw563_0 := hx563_0
     cases e563
     replace hx563_0 := (HB.1.cell (World.block_lt_of_cell? w _ hx563_0)).trans hx563_0
     replace hx563_1 := (HB.1.cell (World.block_lt_of_cell? w _ hx563_1)).trans hx563_1
     replace p563 := eq_true p563
     replace q563 := eq_true q563
     refine start_ (n := 10) (S := fun w' => w'.cell? (ad562.add ((x5_1).toNat * 2)) = some (.int .i64 ((rd_T83 l0 x5_1).f0)) /\ w'.cell? ⟨(ad562.add ((x5_1).toNat * 2)).block, (ad562.add ((x5_1).toNat * 2)).off + 1, none⟩ = some (.int .i64 ((rd_T83 l0 x5_1).f1)) /\ w'.cell? (ad563.add ((x5_1).toNat * 2)) = some (.int .i64 ((rd_T83 l1 x5_1).f0)) /\ w'.cell? ⟨(ad563.add ((x5_1).toNat * 2)).block, (ad563.add ((x5_1).toNat * 2)).off + 1, none⟩ = some (.int .i64 ((rd_T83 l1 x5_1).f1))) (ds := []) #[Zz,Zz,Zz,Zz,Zz,Zz,Zz,Zz,Zz,Zz] (by kernel_rfl) rfl rfl ⟨((HB.1.cell (World.block_lt_of_cell? w _ hw562_0)).trans hw562_0), ((HB.1.cell (World.block_lt_of_cell? w _ hw562_1)).trans hw562_1), ((HB.1.cell (World.block_lt_of_cell? w _ hw563_0)).trans hw563_0), ((HB.1.cell (World.block_lt_of_cell? w _ hw563_1)).trans hw563_1)⟩ (fun hHeld => ?_); refine with_tabW laws_eqCellS.tab6 laws_eqCellS.bits6 (fun HT_ HW_ => ?_)
     generalize wr.drew = w11 at HB hx562_0 hx562_1 hx563_0 hx563_1 hHeld ⊢
     refine pureF 0 (N := some 17) HT_.1 ?_
     refine pureF 1 (N := some 18) HT_.1 ?_
     refine pureF 2 (N := some 19) HT_.1 ?_
     refine pureF 4 (N := some 21) HT_.1 ?_
     refine pureF 5 (N := some 22) HT_.1 ?_
     refine pureF 6 (N := some 23) HT_.1 ?_
     refine takeE 3 (N := some 20) HT_.1 HW_.1 hHeld ?_
     refine takeE 7 (N := some 24) HT_.1 HW_.1 hHeld ?_
     refine one_ (i := 8) (N := some 25) #[Yy,Yy,Yy,Yy,Yy,Yy,Yy,Yy,Yy,Zz] rfl rfl (one_of HT_.1 (by kernel_rfl)) (by decide) (fun K hK => ?_)
     refine goes_ Try.func79 (by kernel_rfl) rfl #[.agg #[.int .i64 ((rd_T83 l0 x5_1).f0), .int .i64 ((rd_T83 l0 x5_1).f1)], .agg #[.int .i64 ((rd_T83 l1 x5_1).f0), .int .i64 ((rd_T83 l1 x5_1).f1)]] (by rfl) rfl rfl (by (try simp only [List.map_toArray, List.map_cons, List.map_nil]); first | done | rfl | (simp only [List.length_drop, List.length_take]; rfl)) ?_
     with_reducible refine (laws_eqCell.calls ((rd_T83 l0 x5_1).f0) ((rd_T83 l0 x5_1).f1) ((rd_T83 l1 x5_1).f0) ((rd_T83 l1 x5_1).f1) false _ A7.1).mono ?_
     rintro e w12 ⟨rfl, hb⟩
     refine ⟨_, rfl, ?_⟩
     refine E1 (bS HB.1 hb) ?_
     clear HB
     intro HB
     (try clear hb)
     (try clear hb2)
     (try clear hk)
     (try clear hi)
     refine hK.out _ _ ⟨((HB.1.cell (World.block_lt_of_cell? w _ hw562_0)).trans hw562_0), ((HB.1.cell (World.block_lt_of_cell? w _ hw562_1)).trans hw562_1), ((HB.1.cell (World.block_lt_of_cell? w _ hw563_0)).trans hw563_0), ((HB.1.cell (World.block_lt_of_cell? w _ hw563_1)).trans hw563_1)⟩ (fun hHeld => ?_)
     clear hK K
     refine norm_ (a' := ?_) ?_ ?_
     rotate_left
     · show Act.put _ (some 25) _ = _
       simp only [Act.put, List.setIfInBounds_toArray, List.set_cons_zero, List.set_cons_succ, i64_w, i32_w]
       rfl
     refine pureF 9 (N := some 26) HT_.1 ?_
     refine done_ (done_of HT_.1 (by kernel_rfl)) ?_
     try go_wp2
     go_ret
     exact ⟨RF, BL HB.1⟩
   obtain rfl := Option.some.inj H
   go_wp2
   go_ret
   exact ⟨RF, BL HB.1⟩
 have c3b0 := beq_eq_false_iff_ne.mpr c3
 have c3b1 := bne_iff_ne.mpr c3
 have c3b2 : (l0.length == l1.length) = false := by first | simpa using c3 | (simp at c3 ⊢; omega)
 obtain rfl := Option.some.inj H
 go_enter Try.func51, Try.ntmps51
 go_wp2
 go_ret
 exact ⟨RF, BL HB.1⟩
def laws_eqBoard.f (k : Nat) (a0_0 : Int) (a0_1 : Int) (l0_2 : List (S83)) (a1_0 : Int) (a1_1 : Int) (l1_2 : List (S83)) : Option (Bool) := if a0_0 = a1_0 then (if a0_1 = a1_1 then ((laws_eqCellS.f k l0_2 l1_2).bind fun t567 => (if t567 = true then (some true) else (some false))) else (some false)) else (some false)
theorem laws_eqBoard.mono : ∀ a0 a1 a2 a3 a4 a5 k, LeO (laws_eqBoard.f k a0 a1 a2 a3 a4 a5) (laws_eqBoard.f (k + 1) a0 a1 a2 a3 a4 a5) := by
 intro a0 a1 a2 a3 a4 a5 k
 unfold laws_eqBoard.f
 repeat' first
  | (with_reducible exact laws_eqCellS.mono _ _ _)
  | (with_reducible exact LeO.refl _)
  | (with_reducible exact LeO.none _)
  | (with_reducible refine LeO.ite ?_ ?_)
  | (with_reducible refine LeO.bind ?_ (fun _ => ?_))
  | exact laws_eqCellS.mono _ _ _
  | exact LeO.none _
  | refine LeO.ite ?_ ?_
  | refine LeO.bind ?_ (fun _ => ?_)
theorem laws_eqBoard.calls (k : Nat) (a0_0 : Int) (a0_1 : Int) (A0_2 : Option Addr) (c0_2 : Nat) (l0_2 : List (S83)) (a1_0 : Int) (a1_1 : Int) (A1_2 : Option Addr) (c1_2 : Nat) (l1_2 : List (S83)) (r : Bool) (w : World) (hr0_2 : Kd.C k83 w A0_2 l0_2.length l0_2) (hc0_2 : l0_2.length <= c0_2) (hr1_2 : Kd.C k83 w A1_2 l1_2.length l1_2) (hc1_2 : l1_2.length <= c1_2) (h : laws_eqBoard.f k a0_0 a0_1 l0_2 a1_0 a1_1 l1_2 = some r) :
 Calls Try.prog 17 #[.agg #[.int .i64 a0_0, .int .i64 a0_1, .slice A0_2 l0_2.length c0_2], .agg #[.int .i64 a1_0, .int .i64 a1_1, .slice A1_2 l1_2.length c1_2]] w fun e w' => e = .returned (.bool r) /\ Below w.heap.size w w' := by
 have hu30 := Try.underlying30
 have HR0_2 := Aside0.mk hr0_2
 have HC0_2 := Aside0.mk hc0_2
 clear hr0_2 hc0_2
 have HR1_2 := Aside0.mk hr1_2
 have HC1_2 := Aside0.mk hc1_2
 clear hr1_2 hc1_2
 have HB := Aside0.mk (Below.refl w.heap.size w)
 have H := h
 clear h
 unfold laws_eqBoard.f at H
 replace H := ifQ H; rcases H with ⟨c3, H⟩ | ⟨c3, H⟩
 · have c3b0 := beq_iff_eq.mpr c3
   have c3b1 := bne_eq_false_iff_eq.mpr c3
   clear c3
   replace H := ifQ H; rcases H with ⟨c4, H⟩ | ⟨c4, H⟩
   · have c4b0 := beq_iff_eq.mpr c4
     have c4b1 := bne_eq_false_iff_eq.mpr c4
     clear c4
     replace H := bindA H; obtain ⟨t567, A5, H⟩ := H
     replace H := ifX H; rcases H with ⟨rfl, H⟩ | ⟨rfl, H⟩
     · obtain rfl := Option.some.inj H
       go_enter Try.func17, Try.ntmps17
       go_wp2_with (first | ((with_reducible refine gate_dst (N := 2) rfl ?_); refine boxE (cs := #[.int .i64 a0_0, .int .i64 a0_1, .slice A0_2 l0_2.length c0_2]) (t := 30) ?_; intro gb565 hg w7 hbox hb; refine E4b HB.1 hg hbox hb ?_; clear HB; intro HB BK565 GW565 GE565; clear hb hbox hg) | ((with_reducible refine gate_dst (N := 3) rfl ?_); refine boxE (cs := #[.int .i64 a1_0, .int .i64 a1_1, .slice A1_2 l1_2.length c1_2]) (t := 30) ?_; intro gb566 hg w8 hbox hb; refine E7 (bB BK565.1 hb) (bS HB.1 hb) (hbox) (gX HB.1 hg) (gX HB.1 hg) (nB BK565.1 hg) (nC BK565.1 hg) ?_; clear BK565 HB; intro BK565 HB BK566 GW566 GE566 NB565_566 NB566_565; clear hb hbox hg; have hnb9 := NB565_566.1; have hnc9 := NB566_565.1; obtain ⟨hcz10_0, hcz10_1, hcz10_2, hfz10_0, hfz10_1, hfz10_2⟩ := cz3 BK565.1; obtain ⟨hcz11_0, hcz11_1, hcz11_2, hfz11_0, hfz11_1, hfz11_2⟩ := cz3 BK566.1) | ((with_reducible refine gate_callee (f := 51) rfl ?_); refine goesM (N := (some 19)) #[.slice A0_2 l0_2.length c0_2, .slice A1_2 l1_2.length c1_2] Try.func51 ?_; (with_reducible refine (laws_eqCellS.calls k _ _ l0_2 _ _ l1_2 true _ ?side1 ?side2 ?side3 ?side4 A5.1).mono ?_); (case side1 => exact CB (C_below HR0_2.1 HB.1)); (case side2 => exact HC0_2.1); (case side3 => exact CB (C_below HR1_2.1 HB.1)); (case side4 => exact HC1_2.1); rintro e w12 ⟨rfl, hb⟩; refine ⟨_, rfl, ?_⟩; refine E3 (bB BK565.1 hb) (bB BK566.1 hb) (bS HB.1 hb) ?_; clear BK565 BK566 HB; intro BK565 BK566 HB; (try clear hb)))
       go_ret
       exact ⟨RF, BL HB.1⟩
     obtain rfl := Option.some.inj H
     go_enter Try.func17, Try.ntmps17
     go_wp2_with (first | ((with_reducible refine gate_dst (N := 2) rfl ?_); refine boxE (cs := #[.int .i64 a0_0, .int .i64 a0_1, .slice A0_2 l0_2.length c0_2]) (t := 30) ?_; intro gb565 hg w13 hbox hb; refine E4b HB.1 hg hbox hb ?_; clear HB; intro HB BK565 GW565 GE565; clear hb hbox hg) | ((with_reducible refine gate_dst (N := 3) rfl ?_); refine boxE (cs := #[.int .i64 a1_0, .int .i64 a1_1, .slice A1_2 l1_2.length c1_2]) (t := 30) ?_; intro gb566 hg w14 hbox hb; refine E7 (bB BK565.1 hb) (bS HB.1 hb) (hbox) (gX HB.1 hg) (gX HB.1 hg) (nB BK565.1 hg) (nC BK565.1 hg) ?_; clear BK565 HB; intro BK565 HB BK566 GW566 GE566 NB565_566 NB566_565; clear hb hbox hg; have hnb15 := NB565_566.1; have hnc15 := NB566_565.1; obtain ⟨hcz16_0, hcz16_1, hcz16_2, hfz16_0, hfz16_1, hfz16_2⟩ := cz3 BK565.1; obtain ⟨hcz17_0, hcz17_1, hcz17_2, hfz17_0, hfz17_1, hfz17_2⟩ := cz3 BK566.1) | ((with_reducible refine gate_callee (f := 51) rfl ?_); refine goesM (N := (some 19)) #[.slice A0_2 l0_2.length c0_2, .slice A1_2 l1_2.length c1_2] Try.func51 ?_; (with_reducible refine (laws_eqCellS.calls k _ _ l0_2 _ _ l1_2 false _ ?side1 ?side2 ?side3 ?side4 A5.1).mono ?_); (case side1 => exact CB (C_below HR0_2.1 HB.1)); (case side2 => exact HC0_2.1); (case side3 => exact CB (C_below HR1_2.1 HB.1)); (case side4 => exact HC1_2.1); rintro e w18 ⟨rfl, hb⟩; refine ⟨_, rfl, ?_⟩; refine E3 (bB BK565.1 hb) (bB BK566.1 hb) (bS HB.1 hb) ?_; clear BK565 BK566 HB; intro BK565 BK566 HB; (try clear hb)))
     go_ret
     exact ⟨RF, BL HB.1⟩
   have c4b0 := beq_eq_false_iff_ne.mpr c4
   have c4b1 := bne_iff_ne.mpr c4
   obtain rfl := Option.some.inj H
   go_enter Try.func17, Try.ntmps17
   go_wp2_with (first | ((with_reducible refine gate_dst (N := 2) rfl ?_); refine boxE (cs := #[.int .i64 a0_0, .int .i64 a0_1, .slice A0_2 l0_2.length c0_2]) (t := 30) ?_; intro gb565 hg w19 hbox hb; refine E4b HB.1 hg hbox hb ?_; clear HB; intro HB BK565 GW565 GE565; clear hb hbox hg) | ((with_reducible refine gate_dst (N := 3) rfl ?_); refine boxE (cs := #[.int .i64 a1_0, .int .i64 a1_1, .slice A1_2 l1_2.length c1_2]) (t := 30) ?_; intro gb566 hg w20 hbox hb; refine E7 (bB BK565.1 hb) (bS HB.1 hb) (hbox) (gX HB.1 hg) (gX HB.1 hg) (nB BK565.1 hg) (nC BK565.1 hg) ?_; clear BK565 HB; intro BK565 HB BK566 GW566 GE566 NB565_566 NB566_565; clear hb hbox hg; have hnb21 := NB565_566.1; have hnc21 := NB566_565.1; obtain ⟨hcz22_0, hcz22_1, hcz22_2, hfz22_0, hfz22_1, hfz22_2⟩ := cz3 BK565.1; obtain ⟨hcz23_0, hcz23_1, hcz23_2, hfz23_0, hfz23_1, hfz23_2⟩ := cz3 BK566.1))
   go_ret
   exact ⟨RF, BL HB.1⟩
 have c3b0 := beq_eq_false_iff_ne.mpr c3
 have c3b1 := bne_iff_ne.mpr c3
 obtain rfl := Option.some.inj H
 go_enter Try.func17, Try.ntmps17
 go_wp2_with (first | ((with_reducible refine gate_dst (N := 2) rfl ?_); refine boxE (cs := #[.int .i64 a0_0, .int .i64 a0_1, .slice A0_2 l0_2.length c0_2]) (t := 30) ?_; intro gb565 hg w24 hbox hb; refine E4b HB.1 hg hbox hb ?_; clear HB; intro HB BK565 GW565 GE565; clear hb hbox hg) | ((with_reducible refine gate_dst (N := 3) rfl ?_); refine boxE (cs := #[.int .i64 a1_0, .int .i64 a1_1, .slice A1_2 l1_2.length c1_2]) (t := 30) ?_; intro gb566 hg w25 hbox hb; refine E7 (bB BK565.1 hb) (bS HB.1 hb) (hbox) (gX HB.1 hg) (gX HB.1 hg) (nB BK565.1 hg) (nC BK565.1 hg) ?_; clear BK565 HB; intro BK565 HB BK566 GW566 GE566 NB565_566 NB566_565; clear hb hbox hg; have hnb26 := NB565_566.1; have hnc26 := NB566_565.1; obtain ⟨hcz27_0, hcz27_1, hcz27_2, hfz27_0, hfz27_1, hfz27_2⟩ := cz3 BK565.1; obtain ⟨hcz28_0, hcz28_1, hcz28_2, hfz28_0, hfz28_1, hfz28_2⟩ := cz3 BK566.1))
 go_ret
 exact ⟨RF, BL HB.1⟩
end Go.Proofs.Ytbpfdbjnnlmdjaa.P
