-- PRINTED by print.py (a twelfth state) out of the translation. Not trusted: Lean checks it.
import Derived.Test.YteenahjnpeegpaaPx0
import Derived.Test.YteenahjnpeegpaaPx1
import Derived.Test.YteenahjnpeegpaaPx3
import Derived.Test.YteenahjnpeegpaaPx4
namespace Go.Proofs.Yteenahjnpeegpaa.P
open Go.RowKit Go.Proofs.YteenahjnpeegpaaW.PrintWords Go.Proofs.YteenahjnpeegpaaW.PrintLast Go.Proofs.YteenahjnpeegpaaW.PrintMore
attribute [local go_sem] max2_int min2_int max_two min_two max_three min_three max_four min_four   -- for this text's walks alone
set_option linter.unusedVariables false
set_option linter.unusedSimpArgs false

/-! ### laws_eqCellS: function 21 -/
open Kd
def laws_eqCellS.l0 : Nat -> List (S45) -> List (S45) -> Int -> Option (Bool)
 | 0, _, _, _ => none
 | k + 1, x0, x1, x5 => if x5 < (x0.length : Int) then (if 0 <= x5 then (if x5 < (x1.length : Int) then ((laws_eqCell.f ((rd_T45 x0 x5).f0) ((rd_T45 x0 x5).f1) ((rd_T45 x1 x5).f0) ((rd_T45 x1 x5).f1)).bind fun t354 => (if t354 = true then (laws_eqCellS.l0 k x0 x1 (wrap64 (x5 + 1))) else (some false))) else (none)) else (none)) else (some true)
def laws_eqCellS.f (k : Nat) (l0 : List (S45)) (l1 : List (S45)) : Option (Bool) := if (l0.length : Int) = (l1.length : Int) then (laws_eqCellS.l0 k l0 l1 0) else (some false)
theorem laws_eqCellS.mono_l : ∀ k, (∀ y0 y1 y2, LeO (laws_eqCellS.l0 k y0 y1 y2) (laws_eqCellS.l0 (k + 1) y0 y1 y2))
 | 0 => fun _ _ _ r h => by simp [laws_eqCellS.l0] at h
 | k + 1 => by
  have ih0 := laws_eqCellS.mono_l k
  intros
  first | unfold laws_eqCellS.l0
  exact LM1 ih0
theorem laws_eqCellS.mono : ∀ a0 a1 k, LeO (laws_eqCellS.f k a0 a1) (laws_eqCellS.f (k + 1) a0 a1) := by
 intro a0 a1 k
 have ih0 := laws_eqCellS.mono_l k
 unfold laws_eqCellS.f
 exact LM1 ih0
def laws_eqCellS.T6 : Bool × List (List Nat × List Nat) := (true, [([], []), ([], []), ([0, 1], [0, 1]), ([2], [2]), ([], []), ([], []), ([4, 5], [4, 5]), ([6], [6]), ([3, 7], [3, 7]), ([8], [8])])
def laws_eqCellS.B6 : List Nat := [0, 0, 3, 7, 0, 0, 48, 112, 255, 511]
theorem laws_eqCellS.tab6 : rtab .any (opsOf Try.f21 6) = laws_eqCellS.T6 := by kernel_rfl
theorem laws_eqCellS.bits6 : waitsOk laws_eqCellS.T6.2 laws_eqCellS.B6 = true := by kernel_rfl
set_option maxHeartbeats 8000000 in
set_option maxRecDepth 100000 in
theorem laws_eqCellS.calls (k : Nat) (A0 : Option Addr) (c0 : Nat) (l0 : List (S45)) (A1 : Option Addr) (c1 : Nat) (l1 : List (S45)) (r : Bool) (w : World) (hr0 : Kd.C k45 w A0 l0.length l0) (hc0 : l0.length <= c0) (hr1 : Kd.C k45 w A1 l1.length l1) (hc1 : l1.length <= c1) (h : laws_eqCellS.f k l0 l1 = some r) :
 Calls Try.prog 21 #[.slice A0 l0.length c0, .slice A1 l1.length c1] w fun e w' => e = .returned (.bool r) /\ Below w.heap.size w w' := by
 have hu45 := Try.underlying45
 have HR0 := Aside0.mk hr0
 have HC0 := Aside0.mk hc0
 clear hr0 hc0
 have HR1 := Aside0.mk hr1
 have HC1 := Aside0.mk hc1
 clear hr1 hc1
 have HB := Aside0.mk (Below.refl w.heap.size w)
 have H := h
 clear h
 unfold laws_eqCellS.f at H
 replace H := ifQ H; rcases H with ⟨c3, H⟩ | ⟨c3, H⟩
 · have c3b0 := beq_iff_eq.mpr c3
   have c3b1 := bne_eq_false_iff_eq.mpr c3
   have c3b2 : (l0.length == l1.length) = true := by first | simpa using c3 | (simp at c3 ⊢; omega)
   clear c3
   have H' := Aside0.mk H
   clear H
   go_enter Try.func21, Try.ntmps21
   go_wp2
   go_loopg [5] k (fun kq v5 w' => ∃ (x5_1 : Int), v5 = .int .i64 x5_1 /\ Aside0 (laws_eqCellS.l0 kq l0 l1 x5_1 = some r) /\ Aside0 (kq <= k) /\ Aside0 (Below w.heap.size w w'))
   case atStart => exact ⟨(0), RG, H', ⟨Nat.le_refl _⟩, ⟨BL HB.1⟩⟩
   clear H'
   try clear c1; clear c3b0 c3b1 c3b2
   obtain ⟨x5_1, rfl, HA, HK1, HB⟩ := hrel
   cases gk with
   | zero => exact absurd HA.1 (by simp [laws_eqCellS.l0])
   | succ k1 => ?_
   have H := HA.1
   clear HA
   simp only [laws_eqCellS.l0] at H
   replace H := ifB H; rcases H with ⟨c4b0, H⟩ | ⟨c4b0, H⟩
   · replace H := ifN H; obtain ⟨c5b0, H⟩ := H
     replace H := ifN H; obtain ⟨c6b0, H⟩ := H
     replace H := bindA H; obtain ⟨t354, A7, H⟩ := H
     replace H := ifX H; rcases H with ⟨rfl, H⟩ | ⟨rfl, H⟩
     · have H' := Aside0.mk H
       clear H
       try go_wp2
       refine E1 (below_drew1 HB.1) ?_
       clear HB
       intro HB
       have p352 : 0 <= (x5_1 : Int) := OD
       have q352 : x5_1 < (l0.length : Int) := OD
       obtain ⟨ad352, e352, hx352_0, hx352_1⟩ := at_T45 HR0.1 x5_1 p352 q352
       have hw352_1 := hx352_1
       have hw352_0 := hx352_0
       cases e352
       replace hx352_0 := (HB.1.cell (World.block_lt_of_cell? w _ hx352_0)).trans hx352_0
       replace hx352_1 := (HB.1.cell (World.block_lt_of_cell? w _ hx352_1)).trans hx352_1
       replace p352 := eq_true p352
       replace q352 := eq_true q352
       have p353 : 0 <= (x5_1 : Int) := OD
       have q353 : x5_1 < (l1.length : Int) := OD
       obtain ⟨ad353, e353, hx353_0, hx353_1⟩ := at_T45 HR1.1 x5_1 p353 q353
       have hw353_1 := hx353_1
       have hw353_0 := hx353_0
       cases e353
       replace hx353_0 := (HB.1.cell (World.block_lt_of_cell? w _ hx353_0)).trans hx353_0
       replace hx353_1 := (HB.1.cell (World.block_lt_of_cell? w _ hx353_1)).trans hx353_1
       replace p353 := eq_true p353
       replace q353 := eq_true q353
       refine start_ (n := 10) (S := fun w' => w'.cell? (ad352.add ((x5_1).toNat * 2)) = some (.int .i64 ((rd_T45 l0 x5_1).f0)) /\ w'.cell? ⟨(ad352.add ((x5_1).toNat * 2)).block, (ad352.add ((x5_1).toNat * 2)).off + 1, none⟩ = some (.int .i64 ((rd_T45 l0 x5_1).f1)) /\ w'.cell? (ad353.add ((x5_1).toNat * 2)) = some (.int .i64 ((rd_T45 l1 x5_1).f0)) /\ w'.cell? ⟨(ad353.add ((x5_1).toNat * 2)).block, (ad353.add ((x5_1).toNat * 2)).off + 1, none⟩ = some (.int .i64 ((rd_T45 l1 x5_1).f1))) (ds := []) #[Zz,Zz,Zz,Zz,Zz,Zz,Zz,Zz,Zz,Zz] (by kernel_rfl) rfl rfl ⟨((HB.1.cell (World.block_lt_of_cell? w _ hw352_0)).trans hw352_0), ((HB.1.cell (World.block_lt_of_cell? w _ hw352_1)).trans hw352_1), ((HB.1.cell (World.block_lt_of_cell? w _ hw353_0)).trans hw353_0), ((HB.1.cell (World.block_lt_of_cell? w _ hw353_1)).trans hw353_1)⟩ (fun hHeld => ?_); refine with_tabW laws_eqCellS.tab6 laws_eqCellS.bits6 (fun HT_ HW_ => ?_)
       generalize wr.drew = w9 at HB hx352_0 hx352_1 hx353_0 hx353_1 hHeld ⊢
       refine pureF 0 (N := some 17) HT_.1 ?_
       refine pureF 1 (N := some 18) HT_.1 ?_
       refine pureF 2 (N := some 19) HT_.1 ?_
       refine pureF 4 (N := some 21) HT_.1 ?_
       refine pureF 5 (N := some 22) HT_.1 ?_
       refine pureF 6 (N := some 23) HT_.1 ?_
       refine takeE 3 (N := some 20) HT_.1 HW_.1 hHeld ?_
       refine takeE 7 (N := some 24) HT_.1 HW_.1 hHeld ?_
       refine one_ (i := 8) (N := some 25) #[Yy,Yy,Yy,Yy,Yy,Yy,Yy,Yy,Yy,Zz] rfl rfl (one_of HT_.1 (by kernel_rfl)) (by decide) (fun K hK => ?_)
       refine goes_ Try.func30 (by kernel_rfl) rfl #[.agg #[.int .i64 ((rd_T45 l0 x5_1).f0), .int .i64 ((rd_T45 l0 x5_1).f1)], .agg #[.int .i64 ((rd_T45 l1 x5_1).f0), .int .i64 ((rd_T45 l1 x5_1).f1)]] (by rfl) rfl rfl (by (try simp only [List.map_toArray, List.map_cons, List.map_nil]); first | done | rfl | (simp only [List.length_drop, List.length_take]; rfl)) ?_
       with_reducible refine (laws_eqCell.calls ((rd_T45 l0 x5_1).f0) ((rd_T45 l0 x5_1).f1) ((rd_T45 l1 x5_1).f0) ((rd_T45 l1 x5_1).f1) true _ A7.1).mono ?_
       rintro e w10 ⟨rfl, hb⟩
       refine ⟨_, rfl, ?_⟩
       refine E1 (bS HB.1 hb) ?_
       clear HB
       intro HB
       (try clear hb)
       (try clear hb2)
       (try clear hk)
       (try clear hi)
       refine hK.out _ _ ⟨((HB.1.cell (World.block_lt_of_cell? w _ hw352_0)).trans hw352_0), ((HB.1.cell (World.block_lt_of_cell? w _ hw352_1)).trans hw352_1), ((HB.1.cell (World.block_lt_of_cell? w _ hw353_0)).trans hw353_0), ((HB.1.cell (World.block_lt_of_cell? w _ hw353_1)).trans hw353_1)⟩ (fun hHeld => ?_)
       clear hK K
       refine norm_ (a' := ?_) ?_ ?_
       rotate_left
       · show Act.put _ (some 25) _ = _
         simp only [Act.put, List.setIfInBounds_toArray, List.set_cons_zero, List.set_cons_succ, i64_w, i32_w]
         rfl
       refine pureF 9 (N := some 26) HT_.1 ?_
       refine done_ (done_of HT_.1 (by kernel_rfl)) ?_
       try go_wp2
       go_roundg k1
       case measure => have := HK1.1; omega
       case rel => exact ⟨(wrap64 (x5_1 + 1)), RG, H', ⟨by have := HK1.1; omega⟩, ⟨BL HB.1⟩⟩
     obtain rfl := Option.some.inj H
     try go_wp2
     refine E1 (below_drew1 HB.1) ?_
     clear HB
     intro HB
     have p352 : 0 <= (x5_1 : Int) := OD
     have q352 : x5_1 < (l0.length : Int) := OD
     obtain ⟨ad352, e352, hx352_0, hx352_1⟩ := at_T45 HR0.1 x5_1 p352 q352
     have hw352_1 := hx352_1
     have hw352_0 := hx352_0
     cases e352
     replace hx352_0 := (HB.1.cell (World.block_lt_of_cell? w _ hx352_0)).trans hx352_0
     replace hx352_1 := (HB.1.cell (World.block_lt_of_cell? w _ hx352_1)).trans hx352_1
     replace p352 := eq_true p352
     replace q352 := eq_true q352
     have p353 : 0 <= (x5_1 : Int) := OD
     have q353 : x5_1 < (l1.length : Int) := OD
     obtain ⟨ad353, e353, hx353_0, hx353_1⟩ := at_T45 HR1.1 x5_1 p353 q353
     have hw353_1 := hx353_1
     have hw353_0 := hx353_0
     cases e353
     replace hx353_0 := (HB.1.cell (World.block_lt_of_cell? w _ hx353_0)).trans hx353_0
     replace hx353_1 := (HB.1.cell (World.block_lt_of_cell? w _ hx353_1)).trans hx353_1
     replace p353 := eq_true p353
     replace q353 := eq_true q353
     refine start_ (n := 10) (S := fun w' => w'.cell? (ad352.add ((x5_1).toNat * 2)) = some (.int .i64 ((rd_T45 l0 x5_1).f0)) /\ w'.cell? ⟨(ad352.add ((x5_1).toNat * 2)).block, (ad352.add ((x5_1).toNat * 2)).off + 1, none⟩ = some (.int .i64 ((rd_T45 l0 x5_1).f1)) /\ w'.cell? (ad353.add ((x5_1).toNat * 2)) = some (.int .i64 ((rd_T45 l1 x5_1).f0)) /\ w'.cell? ⟨(ad353.add ((x5_1).toNat * 2)).block, (ad353.add ((x5_1).toNat * 2)).off + 1, none⟩ = some (.int .i64 ((rd_T45 l1 x5_1).f1))) (ds := []) #[Zz,Zz,Zz,Zz,Zz,Zz,Zz,Zz,Zz,Zz] (by kernel_rfl) rfl rfl ⟨((HB.1.cell (World.block_lt_of_cell? w _ hw352_0)).trans hw352_0), ((HB.1.cell (World.block_lt_of_cell? w _ hw352_1)).trans hw352_1), ((HB.1.cell (World.block_lt_of_cell? w _ hw353_0)).trans hw353_0), ((HB.1.cell (World.block_lt_of_cell? w _ hw353_1)).trans hw353_1)⟩ (fun hHeld => ?_); refine with_tabW laws_eqCellS.tab6 laws_eqCellS.bits6 (fun HT_ HW_ => ?_)
     generalize wr.drew = w11 at HB hx352_0 hx352_1 hx353_0 hx353_1 hHeld ⊢
     refine pureF 0 (N := some 17) HT_.1 ?_
     refine pureF 1 (N := some 18) HT_.1 ?_
     refine pureF 2 (N := some 19) HT_.1 ?_
     refine pureF 4 (N := some 21) HT_.1 ?_
     refine pureF 5 (N := some 22) HT_.1 ?_
     refine pureF 6 (N := some 23) HT_.1 ?_
     refine takeE 3 (N := some 20) HT_.1 HW_.1 hHeld ?_
     refine takeE 7 (N := some 24) HT_.1 HW_.1 hHeld ?_
     refine one_ (i := 8) (N := some 25) #[Yy,Yy,Yy,Yy,Yy,Yy,Yy,Yy,Yy,Zz] rfl rfl (one_of HT_.1 (by kernel_rfl)) (by decide) (fun K hK => ?_)
     refine goes_ Try.func30 (by kernel_rfl) rfl #[.agg #[.int .i64 ((rd_T45 l0 x5_1).f0), .int .i64 ((rd_T45 l0 x5_1).f1)], .agg #[.int .i64 ((rd_T45 l1 x5_1).f0), .int .i64 ((rd_T45 l1 x5_1).f1)]] (by rfl) rfl rfl (by (try simp only [List.map_toArray, List.map_cons, List.map_nil]); first | done | rfl | (simp only [List.length_drop, List.length_take]; rfl)) ?_
     with_reducible refine (laws_eqCell.calls ((rd_T45 l0 x5_1).f0) ((rd_T45 l0 x5_1).f1) ((rd_T45 l1 x5_1).f0) ((rd_T45 l1 x5_1).f1) false _ A7.1).mono ?_
     rintro e w12 ⟨rfl, hb⟩
     refine ⟨_, rfl, ?_⟩
     refine E1 (bS HB.1 hb) ?_
     clear HB
     intro HB
     (try clear hb)
     (try clear hb2)
     (try clear hk)
     (try clear hi)
     refine hK.out _ _ ⟨((HB.1.cell (World.block_lt_of_cell? w _ hw352_0)).trans hw352_0), ((HB.1.cell (World.block_lt_of_cell? w _ hw352_1)).trans hw352_1), ((HB.1.cell (World.block_lt_of_cell? w _ hw353_0)).trans hw353_0), ((HB.1.cell (World.block_lt_of_cell? w _ hw353_1)).trans hw353_1)⟩ (fun hHeld => ?_)
     clear hK K
     refine norm_ (a' := ?_) ?_ ?_
     rotate_left
     · show Act.put _ (some 25) _ = _
       simp only [Act.put, List.setIfInBounds_toArray, List.set_cons_zero, List.set_cons_succ, i64_w, i32_w]
       rfl
     refine pureF 9 (N := some 26) HT_.1 ?_
     refine done_ (done_of HT_.1 (by kernel_rfl)) ?_
     try go_wp2
     go_ret
     exact ⟨RF, BL HB.1⟩
   obtain rfl := Option.some.inj H
   go_wp2
   go_ret
   exact ⟨RF, BL HB.1⟩
 have c3b0 := beq_eq_false_iff_ne.mpr c3
 have c3b1 := bne_iff_ne.mpr c3
 have c3b2 : (l0.length == l1.length) = false := by first | simpa using c3 | (simp at c3 ⊢; omega)
 obtain rfl := Option.some.inj H
 go_enter Try.func21, Try.ntmps21
 go_wp2
 go_ret
 exact ⟨RF, BL HB.1⟩
/-! ### laws_eqBoard: function 8 -/
open Kd
def laws_eqBoard.f (k : Nat) (a0_0 : Int) (a0_1 : Int) (l0_2 : List (S45)) (a1_0 : Int) (a1_1 : Int) (l1_2 : List (S45)) : Option (Bool) := if a0_0 = a1_0 then (if a0_1 = a1_1 then ((laws_eqCellS.f k l0_2 l1_2).bind fun t357 => (if t357 = true then (some true) else (some false))) else (some false)) else (some false)
theorem laws_eqBoard.mono : ∀ a0 a1 a2 a3 a4 a5 k, LeO (laws_eqBoard.f k a0 a1 a2 a3 a4 a5) (laws_eqBoard.f (k + 1) a0 a1 a2 a3 a4 a5) := by
 intro a0 a1 a2 a3 a4 a5 k
 unfold laws_eqBoard.f
 repeat' first
  | (with_reducible exact laws_eqCellS.mono _ _ _)
  | (with_reducible exact LeO.refl _)
  | (with_reducible exact LeO.none _)
  | (with_reducible refine LeO.ite ?_ ?_)
  | (with_reducible refine LeO.bind ?_ (fun _ => ?_))
  | exact laws_eqCellS.mono _ _ _
  | exact LeO.none _
  | refine LeO.ite ?_ ?_
  | refine LeO.bind ?_ (fun _ => ?_)
set_option maxHeartbeats 8000000 in
set_option maxRecDepth 100000 in
theorem laws_eqBoard.calls (k : Nat) (a0_0 : Int) (a0_1 : Int) (A0_2 : Option Addr) (c0_2 : Nat) (l0_2 : List (S45)) (a1_0 : Int) (a1_1 : Int) (A1_2 : Option Addr) (c1_2 : Nat) (l1_2 : List (S45)) (r : Bool) (w : World) (hr0_2 : Kd.C k45 w A0_2 l0_2.length l0_2) (hc0_2 : l0_2.length <= c0_2) (hr1_2 : Kd.C k45 w A1_2 l1_2.length l1_2) (hc1_2 : l1_2.length <= c1_2) (h : laws_eqBoard.f k a0_0 a0_1 l0_2 a1_0 a1_1 l1_2 = some r) :
 Calls Try.prog 8 #[.agg #[.int .i64 a0_0, .int .i64 a0_1, .slice A0_2 l0_2.length c0_2], .agg #[.int .i64 a1_0, .int .i64 a1_1, .slice A1_2 l1_2.length c1_2]] w fun e w' => e = .returned (.bool r) /\ Below w.heap.size w w' := by
 have hu28 := Try.underlying28
 have HR0_2 := Aside0.mk hr0_2
 have HC0_2 := Aside0.mk hc0_2
 clear hr0_2 hc0_2
 have HR1_2 := Aside0.mk hr1_2
 have HC1_2 := Aside0.mk hc1_2
 clear hr1_2 hc1_2
 have HB := Aside0.mk (Below.refl w.heap.size w)
 have H := h
 clear h
 unfold laws_eqBoard.f at H
 replace H := ifQ H; rcases H with ⟨c3, H⟩ | ⟨c3, H⟩
 · have c3b0 := beq_iff_eq.mpr c3
   have c3b1 := bne_eq_false_iff_eq.mpr c3
   clear c3
   replace H := ifQ H; rcases H with ⟨c4, H⟩ | ⟨c4, H⟩
   · have c4b0 := beq_iff_eq.mpr c4
     have c4b1 := bne_eq_false_iff_eq.mpr c4
     clear c4
     replace H := bindA H; obtain ⟨t357, A5, H⟩ := H
     replace H := ifX H; rcases H with ⟨rfl, H⟩ | ⟨rfl, H⟩
     · obtain rfl := Option.some.inj H
       go_enter Try.func8, Try.ntmps8
       go_wp2_with (first | ((with_reducible refine gate_dst (N := 2) rfl ?_); refine boxE (cs := #[.int .i64 a0_0, .int .i64 a0_1, .slice A0_2 l0_2.length c0_2]) (t := 28) ?_; intro gb355 hg w7 hbox hb; refine E4b HB.1 hg hbox hb ?_; clear HB; intro HB BK355 GW355 GE355; clear hb hbox hg) | ((with_reducible refine gate_dst (N := 3) rfl ?_); refine boxE (cs := #[.int .i64 a1_0, .int .i64 a1_1, .slice A1_2 l1_2.length c1_2]) (t := 28) ?_; intro gb356 hg w8 hbox hb; refine E7 (bB BK355.1 hb) (bS HB.1 hb) (hbox) (gX HB.1 hg) (gX HB.1 hg) (nB BK355.1 hg) (nC BK355.1 hg) ?_; clear BK355 HB; intro BK355 HB BK356 GW356 GE356 NB355_356 NB356_355; clear hb hbox hg; have hnb9 := NB355_356.1; have hnc9 := NB356_355.1; obtain ⟨hcz10_0, hcz10_1, hcz10_2, hfz10_0, hfz10_1, hfz10_2⟩ := cz3 BK355.1; obtain ⟨hcz11_0, hcz11_1, hcz11_2, hfz11_0, hfz11_1, hfz11_2⟩ := cz3 BK356.1) | ((with_reducible refine gate_callee (f := 21) rfl ?_); refine goesM (N := (some 19)) #[.slice A0_2 l0_2.length c0_2, .slice A1_2 l1_2.length c1_2] Try.func21 ?_; (with_reducible refine (laws_eqCellS.calls k _ _ l0_2 _ _ l1_2 true _ ?side1 ?side2 ?side3 ?side4 A5.1).mono ?_); (case side1 => exact CB (C_below HR0_2.1 HB.1)); (case side2 => exact HC0_2.1); (case side3 => exact CB (C_below HR1_2.1 HB.1)); (case side4 => exact HC1_2.1); rintro e w12 ⟨rfl, hb⟩; refine ⟨_, rfl, ?_⟩; refine E3 (bB BK355.1 hb) (bB BK356.1 hb) (bS HB.1 hb) ?_; clear BK355 BK356 HB; intro BK355 BK356 HB; (try clear hb)))
       go_ret
       exact ⟨RF, BL HB.1⟩
     obtain rfl := Option.some.inj H
     go_enter Try.func8, Try.ntmps8
     go_wp2_with (first | ((with_reducible refine gate_dst (N := 2) rfl ?_); refine boxE (cs := #[.int .i64 a0_0, .int .i64 a0_1, .slice A0_2 l0_2.length c0_2]) (t := 28) ?_; intro gb355 hg w13 hbox hb; refine E4b HB.1 hg hbox hb ?_; clear HB; intro HB BK355 GW355 GE355; clear hb hbox hg) | ((with_reducible refine gate_dst (N := 3) rfl ?_); refine boxE (cs := #[.int .i64 a1_0, .int .i64 a1_1, .slice A1_2 l1_2.length c1_2]) (t := 28) ?_; intro gb356 hg w14 hbox hb; refine E7 (bB BK355.1 hb) (bS HB.1 hb) (hbox) (gX HB.1 hg) (gX HB.1 hg) (nB BK355.1 hg) (nC BK355.1 hg) ?_; clear BK355 HB; intro BK355 HB BK356 GW356 GE356 NB355_356 NB356_355; clear hb hbox hg; have hnb15 := NB355_356.1; have hnc15 := NB356_355.1; obtain ⟨hcz16_0, hcz16_1, hcz16_2, hfz16_0, hfz16_1, hfz16_2⟩ := cz3 BK355.1; obtain ⟨hcz17_0, hcz17_1, hcz17_2, hfz17_0, hfz17_1, hfz17_2⟩ := cz3 BK356.1) | ((with_reducible refine gate_callee (f := 21) rfl ?_); refine goesM (N := (some 19)) #[.slice A0_2 l0_2.length c0_2, .slice A1_2 l1_2.length c1_2] Try.func21 ?_; (with_reducible refine (laws_eqCellS.calls k _ _ l0_2 _ _ l1_2 false _ ?side1 ?side2 ?side3 ?side4 A5.1).mono ?_); (case side1 => exact CB (C_below HR0_2.1 HB.1)); (case side2 => exact HC0_2.1); (case side3 => exact CB (C_below HR1_2.1 HB.1)); (case side4 => exact HC1_2.1); rintro e w18 ⟨rfl, hb⟩; refine ⟨_, rfl, ?_⟩; refine E3 (bB BK355.1 hb) (bB BK356.1 hb) (bS HB.1 hb) ?_; clear BK355 BK356 HB; intro BK355 BK356 HB; (try clear hb)))
     go_ret
     exact ⟨RF, BL HB.1⟩
   have c4b0 := beq_eq_false_iff_ne.mpr c4
   have c4b1 := bne_iff_ne.mpr c4
   obtain rfl := Option.some.inj H
   go_enter Try.func8, Try.ntmps8
   go_wp2_with (first | ((with_reducible refine gate_dst (N := 2) rfl ?_); refine boxE (cs := #[.int .i64 a0_0, .int .i64 a0_1, .slice A0_2 l0_2.length c0_2]) (t := 28) ?_; intro gb355 hg w19 hbox hb; refine E4b HB.1 hg hbox hb ?_; clear HB; intro HB BK355 GW355 GE355; clear hb hbox hg) | ((with_reducible refine gate_dst (N := 3) rfl ?_); refine boxE (cs := #[.int .i64 a1_0, .int .i64 a1_1, .slice A1_2 l1_2.length c1_2]) (t := 28) ?_; intro gb356 hg w20 hbox hb; refine E7 (bB BK355.1 hb) (bS HB.1 hb) (hbox) (gX HB.1 hg) (gX HB.1 hg) (nB BK355.1 hg) (nC BK355.1 hg) ?_; clear BK355 HB; intro BK355 HB BK356 GW356 GE356 NB355_356 NB356_355; clear hb hbox hg; have hnb21 := NB355_356.1; have hnc21 := NB356_355.1; obtain ⟨hcz22_0, hcz22_1, hcz22_2, hfz22_0, hfz22_1, hfz22_2⟩ := cz3 BK355.1; obtain ⟨hcz23_0, hcz23_1, hcz23_2, hfz23_0, hfz23_1, hfz23_2⟩ := cz3 BK356.1))
   go_ret
   exact ⟨RF, BL HB.1⟩
 have c3b0 := beq_eq_false_iff_ne.mpr c3
 have c3b1 := bne_iff_ne.mpr c3
 obtain rfl := Option.some.inj H
 go_enter Try.func8, Try.ntmps8
 go_wp2_with (first | ((with_reducible refine gate_dst (N := 2) rfl ?_); refine boxE (cs := #[.int .i64 a0_0, .int .i64 a0_1, .slice A0_2 l0_2.length c0_2]) (t := 28) ?_; intro gb355 hg w24 hbox hb; refine E4b HB.1 hg hbox hb ?_; clear HB; intro HB BK355 GW355 GE355; clear hb hbox hg) | ((with_reducible refine gate_dst (N := 3) rfl ?_); refine boxE (cs := #[.int .i64 a1_0, .int .i64 a1_1, .slice A1_2 l1_2.length c1_2]) (t := 28) ?_; intro gb356 hg w25 hbox hb; refine E7 (bB BK355.1 hb) (bS HB.1 hb) (hbox) (gX HB.1 hg) (gX HB.1 hg) (nB BK355.1 hg) (nC BK355.1 hg) ?_; clear BK355 HB; intro BK355 HB BK356 GW356 GE356 NB355_356 NB356_355; clear hb hbox hg; have hnb26 := NB355_356.1; have hnc26 := NB356_355.1; obtain ⟨hcz27_0, hcz27_1, hcz27_2, hfz27_0, hfz27_1, hfz27_2⟩ := cz3 BK355.1; obtain ⟨hcz28_0, hcz28_1, hcz28_2, hfz28_0, hfz28_1, hfz28_2⟩ := cz3 BK356.1))
 go_ret
 exact ⟨RF, BL HB.1⟩
/-! ### laws_markCellS: function 22 -/
open Kd
def laws_markCellS.l0 : Nat -> List (S45) -> Int -> Int -> Option (Int × (List (S45)))
 | 0, _, _, _ => none
 | k + 1, x0, x1, x5 => if x5 < (x0.length : Int) then (if 0 <= x5 then ((some (x0.set (x5 : Int).toNat (⟨x1, (rd_T45 x0 x5).f1⟩ : S45) : List (S45))).bind fun y358 => (laws_markCellS.l0 k (y358.set (x5 : Int).toNat (⟨(rd_T45 y358 x5).f0, wrap64 (x1 + 1)⟩ : S45)) (wrap64 ((wrap64 (x1 + 1)) + 1)) (wrap64 (x5 + 1)))) else (none)) else (some (x1, x0))
def laws_markCellS.f (k : Nat) (l0 : List (S45)) (a1 : Int) : Option (Int × (List (S45))) := laws_markCellS.l0 k l0 a1 0
theorem laws_markCellS.mono_l : ∀ k, (∀ y0 y1 y2, LeO (laws_markCellS.l0 k y0 y1 y2) (laws_markCellS.l0 (k + 1) y0 y1 y2))
 | 0 => fun _ _ _ r h => by simp [laws_markCellS.l0] at h
 | k + 1 => by
  have ih0 := laws_markCellS.mono_l k
  intros
  first | unfold laws_markCellS.l0
  exact LM1 ih0
theorem laws_markCellS.mono : ∀ a0 a1 k, LeO (laws_markCellS.f k a0 a1) (laws_markCellS.f (k + 1) a0 a1) := by
 intro a0 a1 k
 have ih0 := laws_markCellS.mono_l k
 unfold laws_markCellS.f
 exact LM1 ih0
set_option maxHeartbeats 8000000 in
set_option maxRecDepth 100000 in
theorem laws_markCellS.calls (k : Nat) (P0_ : Nat -> Prop) (u9000_ : Value) (l0 : List (S45)) (a1 : Int) (r1 : Int) (r2 : List (S45)) (w0 w : World) (hB : Below w0.heap.size w0 w) (ho0 : Kd.R k45 45 w w0.heap.size P0_ u9000_ l0) (h : laws_markCellS.f k l0 a1 = some (r1, r2)) :
 Calls Try.prog 22 #[u9000_, .int .i64 a1] w fun e w' => e = .returned (.int .i64 r1) /\ Kd.R k45 45 w' w0.heap.size (fun k_ => (P0_ k_ ∨ w.heap.size <= k_)) u9000_ r2 /\ Below w0.heap.size w0 w' /\ Kept w w' (fun k_ => P0_ k_) := by
 have HO0 := Aside0.mk (show Kd.R k45 45 w w0.heap.size (fun k_ => (P0_ k_ ∨ w.heap.size <= k_)) u9000_ l0 from R_mono ho0 (fun k_ hk => (.inl hk)))
 have HK := Aside0.mk (Kept.refl w (fun k_ => P0_ k_))
 have HW0 := Aside0.mk hB.size
 have HB := Aside0.mk hB
 clear hB
 have H := h
 clear h
 unfold laws_markCellS.f at H
 have H' := Aside0.mk H
 clear H
 go_enter Try.func22, Try.ntmps22
 go_wp2
 go_loopg [1, 5] k (fun kq v1 v5 w' => ∃ (x0_1 : List (S45)) (x1_1 : Int) (x5_1 : Int), v1 = .int .i64 x1_1 /\ v5 = .int .i64 x5_1 /\ Aside0 (laws_markCellS.l0 kq x0_1 x1_1 x5_1 = some (r1, r2)) /\ Aside0 (kq <= k) /\ Aside0 (Kd.R k45 45 w' w0.heap.size (fun k_ => (P0_ k_ ∨ w.heap.size <= k_)) u9000_ x0_1) /\ Aside0 (Kept w w' (fun k_ => P0_ k_)) /\ Aside0 (Below w0.heap.size w0 w'))
 case atStart => exact ⟨(l0), (a1), (0), RG, RG, H', ⟨Nat.le_refl _⟩, ⟨PR HO0.1⟩, ⟨KL HK.1⟩, ⟨BL HB.1⟩⟩
 clear H'
 obtain ⟨x0_1, x1_1, x5_1, rfl, rfl, HA, HK1, HO_0, HK, HB⟩ := hrel
 cases gk with
 | zero => exact absurd HA.1 (by simp [laws_markCellS.l0])
 | succ k1 => ?_
 have H := HA.1
 clear HA
 simp only [laws_markCellS.l0] at H
 replace H := ifB H; rcases H with ⟨c3b0, H⟩ | ⟨c3b0, H⟩
 · replace H := ifN H; obtain ⟨c4b0, H⟩ := H
   replace H := nameB H; obtain ⟨y358, Ny358, H⟩ := H
   generalize hy359 : ((y358.set (x5_1 : Int).toNat (⟨(rd_T45 y358 x5_1).f0, wrap64 (x1_1 + 1)⟩ : S45)) : List (S45)) = y359 at H
   have Ny359 := Aside0.mk hy359.symm; clear hy359
   have H' := Aside0.mk H
   clear H
   obtain ⟨Ao7, co7, eo7⟩ := R_slice HO_0.1
   subst eo7
   have p5 : 0 <= (x5_1 : Int) := OD
   have q5 : (x5_1 : Int) < ((x0_1.length : Int) : Int) := OD
   obtain ⟨go5, co5, eo5, gb5, gl5, cl5, HG5⟩ := R_form HO_0.1 (by omega)
   (first | cases eo5 | (injection eo5 with ea_ en_ ec_; (first | subst ea_ | (injection ea_ with ea_; subst ea_)); subst ec_; clear en_))
   have GB5 := Aside0.mk gb5
   have GG5 := Aside0.mk HG5
   clear gb5 gl5 HG5
   have HMgo5 := Aside0.mk (show (P0_ go5 ∨ w.heap.size <= go5) from (HO_0.1.1 _ rfl))
   obtain ⟨ce5, hcl5, hM5, hcc5, hfr5⟩ := R_elem HO_0.1 z45 (x5_1 : Int) p5 q5
   obtain rfl := k45_openM hM5
   have hx5_0 : wr.cell? ⟨go5, (x5_1 : Int).toNat * 2, none⟩ = some (.int .i64 ((rd_T45 x0_1 x5_1).f0)) := hcc5 0 _ rfl
   have hx5_1 : wr.cell? ⟨go5, (x5_1 : Int).toNat * 2 + 1, none⟩ = some (.int .i64 ((rd_T45 x0_1 x5_1).f1)) := hcc5 1 _ rfl
   have hf5_0 : wr.frozen? ⟨go5, (x5_1 : Int).toNat * 2, none⟩ = false := hfr5 0
   have hf5_1 : wr.frozen? ⟨go5, (x5_1 : Int).toNat * 2 + 1, none⟩ = false := hfr5 1
   (try clear hM5); clear hcl5 hcc5 hfr5
   replace p5 := eq_true p5
   replace q5 := eq_true q5
   have HX8 := Aside0.mk (show Kd.R k45 45 wr w0.heap.size (fun k_ => (P0_ k_ ∨ w.heap.size <= k_)) (.slice (some ⟨go5, 0, none⟩) x0_1.length co7) x0_1 from (PR HO_0.1))
   obtain ⟨ce8, hcl8, hM8, hcc8, hfr8⟩ := R_elem HX8.1 z45 (x5_1 : Int) (OD) (by have h_ : (x5_1 : Int) < ((x0_1.length : Int) : Int) := OD; first | exact h_ | (have e_ := (R_reads' HO_0.1).1; omega) | simpa using h_)
   obtain rfl := k45_openM hM8
   have HP8 := R_seg HX8.1 (x5_1 : Int) (OD) (by have h_ : (x5_1 : Int) < ((x0_1.length : Int) : Int) := OD; first | exact h_ | (have e_ := (R_reads' HO_0.1).1; omega) | simpa using h_) (seg := [.int .i64 x1_1]) (j := 0) hcl8 hcc8 (show 1 <= 2 from by decide) (x' := (⟨x1_1, (rd_T45 x0_1 x5_1).f1⟩ : S45)) (k45_mkM _ _ _ (⟨x1_1, (rd_T45 x0_1 x5_1).f1⟩ : S45) ) (fun _ hk => hk)
   have hx8_0 := hcc8 0 _ rfl
   (try simp only [show (k45).sz = 2 from rfl, Nat.mul_one, Nat.add_zero] at hx8_0)
   have hf8_0 := hfr8 0
   (try simp only [show (k45).sz = 2 from rfl, Nat.mul_one, Nat.add_zero] at hf8_0)
   (try clear hM8); clear hcl8 hcc8 hfr8
   go_wp2_with (first | ((with_reducible refine gate_store (t := 3) (p := 16) rfl ?_); refine storeE (t := 3) (p := 16) (w1 := (wr.setCell ⟨go5, (x5_1 : Int).toNat * 2, none⟩ (.int .i64 x1_1))) ?_; intro w9 hw; have hg : wr.grownBy w9 (some go5) := (by rw [hw]; exact HP8.2); have hp_ : Kd.R k45 45 w9 w0.heap.size (fun k_ => (P0_ k_ ∨ w.heap.size <= k_)) (.slice (some ⟨go5, 0, none⟩) x0_1.length co7) y358 := (by rw [hw, Ny358.1]; exact HP8.1); clear HP8; refine E3 (hp_) ((by rw [hw]; exact below_set (HB.1) GB5.1 : Below w0.heap.size w0 w9)) (Kept.of_grown (S := (fun k_ => P0_ k_)) hg (KL HK.1) (fun k_ e_ => (HO_0.1.1 k_ e_))) ?_; clear HO_0 HB HK; intro HO_0 HB HK; clear hg hw hp_; have p6 : 0 <= (x5_1 : Int) := OD; have q6 : (x5_1 : Int) < ((x0_1.length : Int) : Int) := OD; obtain ⟨ce6, hcl6, hM6, hcc6, hfr6⟩ := R_elem HO_0.1 z45 (x5_1 : Int) p6 q6; obtain rfl := k45_openM hM6; have hx6_0 : w9.cell? ⟨go5, (x5_1 : Int).toNat * 2, none⟩ = some (.int .i64 ((rd_T45 y358 x5_1).f0)) := hcc6 0 _ rfl; have hx6_1 : w9.cell? ⟨go5, (x5_1 : Int).toNat * 2 + 1, none⟩ = some (.int .i64 ((rd_T45 y358 x5_1).f1)) := hcc6 1 _ rfl; have hf6_0 : w9.frozen? ⟨go5, (x5_1 : Int).toNat * 2, none⟩ = false := hfr6 0; have hf6_1 : w9.frozen? ⟨go5, (x5_1 : Int).toNat * 2 + 1, none⟩ = false := hfr6 1; (try clear hM6); clear hcl6 hcc6 hfr6; replace p6 := eq_true p6; replace q6 := eq_true q6; have HX10 := Aside0.mk (show Kd.R k45 45 w9 w0.heap.size (fun k_ => (P0_ k_ ∨ w.heap.size <= k_)) (.slice (some ⟨go5, 0, none⟩) x0_1.length co7) y358 from (PR HO_0.1)); obtain ⟨ce10, hcl10, hM10, hcc10, hfr10⟩ := R_elem HX10.1 z45 (x5_1 : Int) (OD) (by have h_ : (x5_1 : Int) < ((x0_1.length : Int) : Int) := OD; first | exact h_ | (have e_ := (R_reads' HO_0.1).1; omega) | simpa using h_); obtain rfl := k45_openM hM10; have HP10 := R_seg HX10.1 (x5_1 : Int) (OD) (by have h_ : (x5_1 : Int) < ((x0_1.length : Int) : Int) := OD; first | exact h_ | (have e_ := (R_reads' HO_0.1).1; omega) | simpa using h_) (seg := [.int .i64 (wrap64 (x1_1 + 1))]) (j := 1) hcl10 hcc10 (show 2 <= 2 from by decide) (x' := (⟨(rd_T45 y358 x5_1).f0, wrap64 (x1_1 + 1)⟩ : S45)) (k45_mkM _ _ _ (⟨(rd_T45 y358 x5_1).f0, wrap64 (x1_1 + 1)⟩ : S45) ) (fun _ hk => hk); have hx10_1 := hcc10 1 _ rfl; (try simp only [show (k45).sz = 2 from rfl, Nat.mul_one, Nat.add_zero] at hx10_1); have hf10_1 := hfr10 1; (try simp only [show (k45).sz = 2 from rfl, Nat.mul_one, Nat.add_zero] at hf10_1); clear hcl10 hcc10 hfr10) | ((with_reducible refine gate_store (t := 3) (p := 23) rfl ?_); refine storeE (t := 3) (p := 23) (w1 := (w9.setCell ⟨go5, (x5_1 : Int).toNat * 2 + 1, none⟩ (.int .i64 (wrap64 (x1_1 + 1))))) ?_; intro w11 hw; have hg : w9.grownBy w11 (some go5) := (by rw [hw]; exact HP10.2); have hp_ : Kd.R k45 45 w11 w0.heap.size (fun k_ => (P0_ k_ ∨ w.heap.size <= k_)) (.slice (some ⟨go5, 0, none⟩) x0_1.length co7) y359 := (by rw [hw, Ny359.1]; exact HP10.1); clear HP10; refine E3 (hp_) ((by rw [hw]; exact below_set (HB.1) GB5.1 : Below w0.heap.size w0 w11)) (Kept.of_grown (S := (fun k_ => P0_ k_)) hg (KL HK.1) (fun k_ e_ => (HO_0.1.1 k_ e_))) ?_; clear HO_0 HB HK; intro HO_0 HB HK; clear hg hw hp_))
   go_roundg k1
   case measure => have := HK1.1; omega
   case rel => exact ⟨(y359), (wrap64 ((wrap64 (x1_1 + 1)) + 1)), (wrap64 (x5_1 + 1)), RG, RG, H', ⟨by have := HK1.1; omega⟩, ⟨PR HO_0.1⟩, ⟨KL HK.1⟩, ⟨BL HB.1⟩⟩
 simp only [Option.some.injEq, Prod.mk.injEq] at H
 obtain ⟨rfl, rfl⟩ := H
 obtain ⟨Ao12, co12, eo12⟩ := R_slice HO_0.1
 subst eo12
 go_wp2
 go_ret
 exact ⟨RF, RPE (HO_0.1), BL HB.1, KL HK.1⟩
/-! ### laws_markBoard: function 9 -/
open Kd
def laws_markBoard.f (k : Nat) (a0_0 : Int) (a0_1 : Int) (l0_2 : List (S45)) (a1 : Int) : Option (Int × (List (S45))) := (laws_markCellS.f k l0_2 a1).bind fun bt361 => (some (bt361.1, bt361.2))
theorem laws_markBoard.mono : ∀ a0 a1 a2 a3 k, LeO (laws_markBoard.f k a0 a1 a2 a3) (laws_markBoard.f (k + 1) a0 a1 a2 a3) := by
 intro a0 a1 a2 a3 k
 unfold laws_markBoard.f
 repeat' first
  | (with_reducible exact laws_markCellS.mono _ _ _)
  | (with_reducible exact LeO.refl _)
  | (with_reducible exact LeO.none _)
  | (with_reducible refine LeO.ite ?_ ?_)
  | (with_reducible refine LeO.bind ?_ (fun _ => ?_))
  | exact laws_markCellS.mono _ _ _
  | exact LeO.none _
  | refine LeO.ite ?_ ?_
  | refine LeO.bind ?_ (fun _ => ?_)
set_option maxHeartbeats 8000000 in
set_option maxRecDepth 100000 in
theorem laws_markBoard.calls (k : Nat) (a0_0 : Int) (a0_1 : Int) (P0_2_ : Nat -> Prop) (u9000_ : Value) (l0_2 : List (S45)) (a1 : Int) (r1 : Int) (r2 : List (S45)) (w0 w : World) (hB : Below w0.heap.size w0 w) (ho0_2 : Kd.R k45 45 w w0.heap.size P0_2_ u9000_ l0_2) (h : laws_markBoard.f k a0_0 a0_1 l0_2 a1 = some (r1, r2)) :
 Calls Try.prog 9 #[.agg #[.int .i64 a0_0, .int .i64 a0_1, u9000_], .int .i64 a1] w fun e w' => e = .returned (.int .i64 r1) /\ Kd.R k45 45 w' w0.heap.size (fun k_ => (P0_2_ k_ ∨ w.heap.size <= k_)) u9000_ r2 /\ Below w0.heap.size w0 w' /\ Kept w w' (fun k_ => P0_2_ k_) := by
 have hu28 := Try.underlying28
 have HO0_2 := Aside0.mk (show Kd.R k45 45 w w0.heap.size (fun k_ => (P0_2_ k_ ∨ w.heap.size <= k_)) u9000_ l0_2 from R_mono ho0_2 (fun k_ hk => (.inl hk)))
 have HK := Aside0.mk (Kept.refl w (fun k_ => P0_2_ k_))
 have HW0 := Aside0.mk hB.size
 have HB := Aside0.mk hB
 clear hB
 have H := h
 clear h
 unfold laws_markBoard.f at H
 replace H := bindA H; obtain ⟨⟨t361, t362⟩, A3, H⟩ := H
 dsimp only at H
 simp only [Option.some.injEq, Prod.mk.injEq] at H
 obtain ⟨rfl, rfl⟩ := H
 obtain ⟨Ao4, co4, eo4⟩ := R_slice HO0_2.1
 subst eo4
 go_enter Try.func9, Try.ntmps9
 go_wp2_with (first | ((with_reducible refine gate_dst (N := 2) rfl ?_); refine boxE (cs := #[.int .i64 a0_0, .int .i64 a0_1, .slice Ao4 l0_2.length co4]) (t := 28) ?_; intro gb360 hg w5 hbox hb; refine E6 (rB HO0_2.1 hb) (Kept.below (S := (fun k_ => P0_2_ k_)) (KL HK.1) hb) (bS HB.1 hb) (hbox) ((by rw [hg]; exact (by first | exact HK.1.1 | exact (show Kept w _ (fun k_ => P0_2_ k_) from KL HK.1).1) : w.heap.size <= gb360)) (gwM hg (bZ HB.1) : w0.heap.size <= gb360) ?_; clear HO0_2 HK HB; intro HO0_2 HK HB BK360 GW360 GE360; clear hb hbox hg; obtain ⟨hcz6_0, hcz6_1, hcz6_2, hfz6_0, hfz6_1, hfz6_2⟩ := cz3 BK360.1) | ((with_reducible refine gate_callee (f := 22) rfl ?_); refine goesM (N := (some 8)) #[.slice Ao4 l0_2.length co4, .int .i64 a1] Try.func22 ?_; (with_reducible refine (laws_markCellS.calls k (fun k_ => some k_ = (.slice Ao4 l0_2.length co4 : Value).ownBlock) (.slice Ao4 l0_2.length co4) l0_2 a1 t361 t362 w0 _ ?side1 ?side2 A3.1).mono ?_); (case side1 => exact BL HB.1); (case side2 => exact R_tight rfl HO0_2.1); rintro e w7 ⟨rfl, hy0, hb, hkp⟩; refine ⟨_, rfl, ?_⟩; refine E4 (R_reok rfl hy0 (fun k_ e_ => HO0_2.1.1 k_ e_)) (blk_kept (PB BK360.1) hkp (fun hs_ => (fun e_ => (R_ne HO0_2.1 BK360.1 (by decide)) e_) hs_)) (Kept.then_ (S := (fun k_ => P0_2_ k_)) (KL HK.1) hkp (fun k_ hs_ => (fun e_ => (HO0_2.1.1 k_ e_.symm)) hs_)) (hb) ?_; clear HO0_2 BK360 HK HB; intro HO0_2 BK360 HK HB; (try clear hb); (try clear hkp); (try clear hy0)))
 go_ret
 exact ⟨RF, RPE (HO0_2.1), BL HB.1, KL HK.1⟩

/-! ### laws_heldCellS: function 23 -/
open Kd
def laws_heldCellS.l0 : Nat -> List (S45) -> Int -> Int -> Option (Int)
 | 0, _, _, _ => none
 | k + 1, x0, x1, x5 => if x5 < (x0.length : Int) then (if 0 <= x5 then (if ((rd_T45 x0 x5).f0) = x1 then (if ((rd_T45 x0 x5).f1) = (wrap64 (x1 + 1)) then (laws_heldCellS.l0 k x0 (wrap64 ((wrap64 (x1 + 1)) + 1)) (wrap64 (x5 + 1))) else (some (-1))) else (some (-1))) else (none)) else (some x1)
def laws_heldCellS.f (k : Nat) (l0 : List (S45)) (a1 : Int) : Option (Int) := laws_heldCellS.l0 k l0 a1 0
theorem laws_heldCellS.mono_l : ∀ k, (∀ y0 y1 y2, LeO (laws_heldCellS.l0 k y0 y1 y2) (laws_heldCellS.l0 (k + 1) y0 y1 y2))
 | 0 => fun _ _ _ r h => by simp [laws_heldCellS.l0] at h
 | k + 1 => by
  have ih0 := laws_heldCellS.mono_l k
  intros
  first | unfold laws_heldCellS.l0
  exact LM1 ih0
theorem laws_heldCellS.mono : ∀ a0 a1 k, LeO (laws_heldCellS.f k a0 a1) (laws_heldCellS.f (k + 1) a0 a1) := by
 intro a0 a1 k
 have ih0 := laws_heldCellS.mono_l k
 unfold laws_heldCellS.f
 exact LM1 ih0
set_option maxHeartbeats 8000000 in
set_option maxRecDepth 100000 in
theorem laws_heldCellS.calls (k : Nat) (A0 : Option Addr) (c0 : Nat) (l0 : List (S45)) (a1 : Int) (r : Int) (w : World) (hr0 : Kd.C k45 w A0 l0.length l0) (hc0 : l0.length <= c0) (h : laws_heldCellS.f k l0 a1 = some r) :
 Calls Try.prog 23 #[.slice A0 l0.length c0, .int .i64 a1] w fun e w' => e = .returned (.int .i64 r) /\ Drawn0 w w' := by
 have HR0 := Aside0.mk hr0
 have HC0 := Aside0.mk hc0
 clear hr0 hc0
 have H := h
 clear h
 unfold laws_heldCellS.f at H
 have H' := Aside0.mk H
 clear H
 go_enter Try.func23, Try.ntmps23
 go_wp2
 go_loopg [1, 5] k (fun kq v1 v5 w' => ∃ (x1_1 : Int) (x5_1 : Int), v1 = .int .i64 x1_1 /\ v5 = .int .i64 x5_1 /\ Aside0 (laws_heldCellS.l0 kq l0 x1_1 x5_1 = some r) /\ Aside0 (kq <= k) /\ Drawn0 w w')
 case atStart => exact ⟨(a1), (0), RG, RG, H', ⟨Nat.le_refl _⟩, DR⟩
 clear H'
 obtain ⟨x1_1, x5_1, rfl, rfl, HA, HK1, ⟨m1, rfl⟩⟩ := hrel
 cases gk with
 | zero => exact absurd HA.1 (by simp [laws_heldCellS.l0])
 | succ k1 => ?_
 have H := HA.1
 clear HA
 simp only [laws_heldCellS.l0] at H
 replace H := ifB H; rcases H with ⟨c3b0, H⟩ | ⟨c3b0, H⟩
 · replace H := ifN H; obtain ⟨c4b0, H⟩ := H
   replace H := ifQ H; rcases H with ⟨c5, H⟩ | ⟨c5, H⟩
   · have c5b0 := beq_iff_eq.mpr c5
     have c5b1 := bne_eq_false_iff_eq.mpr c5
     clear c5
     replace H := ifQ H; rcases H with ⟨c6, H⟩ | ⟨c6, H⟩
     · have c6b0 := beq_iff_eq.mpr c6
       have c6b1 := bne_eq_false_iff_eq.mpr c6
       clear c6
       have H' := Aside0.mk H
       clear H
       have p363 : 0 <= (x5_1 : Int) := OD
       have q363 : x5_1 < (l0.length : Int) := OD
       obtain ⟨ad363, e363, hx363_0, hx363_1⟩ := at_T45 HR0.1 x5_1 p363 q363
       cases e363
       replace p363 := eq_true p363
       replace q363 := eq_true q363
       have p364 : 0 <= (x5_1 : Int) := OD
       have q364 : x5_1 < (l0.length : Int) := OD
       obtain ⟨ad364, e364, hx364_0, hx364_1⟩ := at_T45 HR0.1 x5_1 p364 q364
       obtain rfl : ad363 = ad364 := (by injection e364)
       replace p364 := eq_true p364
       replace q364 := eq_true q364
       go_wp2
       go_roundg k1
       case measure => have := HK1.1; omega
       case rel => exact ⟨(wrap64 ((wrap64 (x1_1 + 1)) + 1)), (wrap64 (x5_1 + 1)), RG, RG, H', ⟨by have := HK1.1; omega⟩, DR⟩
     have c6b0 := beq_eq_false_iff_ne.mpr c6
     have c6b1 := bne_iff_ne.mpr c6
     obtain rfl := Option.some.inj H
     have p363 : 0 <= (x5_1 : Int) := OD
     have q363 : x5_1 < (l0.length : Int) := OD
     obtain ⟨ad363, e363, hx363_0, hx363_1⟩ := at_T45 HR0.1 x5_1 p363 q363
     cases e363
     replace p363 := eq_true p363
     replace q363 := eq_true q363
     have p364 : 0 <= (x5_1 : Int) := OD
     have q364 : x5_1 < (l0.length : Int) := OD
     obtain ⟨ad364, e364, hx364_0, hx364_1⟩ := at_T45 HR0.1 x5_1 p364 q364
     obtain rfl : ad363 = ad364 := (by injection e364)
     replace p364 := eq_true p364
     replace q364 := eq_true q364
     go_wp2
     go_ret
     exact ⟨RG, DR⟩
   have c5b0 := beq_eq_false_iff_ne.mpr c5
   have c5b1 := bne_iff_ne.mpr c5
   obtain rfl := Option.some.inj H
   have p363 : 0 <= (x5_1 : Int) := OD
   have q363 : x5_1 < (l0.length : Int) := OD
   obtain ⟨ad363, e363, hx363_0, hx363_1⟩ := at_T45 HR0.1 x5_1 p363 q363
   cases e363
   replace p363 := eq_true p363
   replace q363 := eq_true q363
   go_wp2
   go_ret
   exact ⟨RG, DR⟩
 obtain rfl := Option.some.inj H
 go_wp2
 go_ret
 exact ⟨RG, DR⟩
/-! ### laws_heldBoard: function 10 -/
open Kd
def laws_heldBoard.f (k : Nat) (a0_0 : Int) (a0_1 : Int) (l0_2 : List (S45)) (a1 : Int) : Option (Int) := (laws_heldCellS.f k l0_2 a1).bind fun t366 => (if t366 < 0 then (some (-1)) else (some t366))
theorem laws_heldBoard.mono : ∀ a0 a1 a2 a3 k, LeO (laws_heldBoard.f k a0 a1 a2 a3) (laws_heldBoard.f (k + 1) a0 a1 a2 a3) := by
 intro a0 a1 a2 a3 k
 unfold laws_heldBoard.f
 repeat' first
  | (with_reducible exact laws_heldCellS.mono _ _ _)
  | (with_reducible exact LeO.refl _)
  | (with_reducible exact LeO.none _)
  | (with_reducible refine LeO.ite ?_ ?_)
  | (with_reducible refine LeO.bind ?_ (fun _ => ?_))
  | exact laws_heldCellS.mono _ _ _
  | exact LeO.none _
  | refine LeO.ite ?_ ?_
  | refine LeO.bind ?_ (fun _ => ?_)
set_option maxHeartbeats 8000000 in
set_option maxRecDepth 100000 in
theorem laws_heldBoard.calls (k : Nat) (a0_0 : Int) (a0_1 : Int) (A0_2 : Option Addr) (c0_2 : Nat) (l0_2 : List (S45)) (a1 : Int) (r : Int) (w : World) (hr0_2 : Kd.C k45 w A0_2 l0_2.length l0_2) (hc0_2 : l0_2.length <= c0_2) (h : laws_heldBoard.f k a0_0 a0_1 l0_2 a1 = some r) :
 Calls Try.prog 10 #[.agg #[.int .i64 a0_0, .int .i64 a0_1, .slice A0_2 l0_2.length c0_2], .int .i64 a1] w fun e w' => e = .returned (.int .i64 r) /\ Below w.heap.size w w' := by
 have hu28 := Try.underlying28
 have HR0_2 := Aside0.mk hr0_2
 have HC0_2 := Aside0.mk hc0_2
 clear hr0_2 hc0_2
 have HB := Aside0.mk (Below.refl w.heap.size w)
 have H := h
 clear h
 unfold laws_heldBoard.f at H
 replace H := bindA H; obtain ⟨t366, A3, H⟩ := H
 replace H := ifB H; rcases H with ⟨c4b0, H⟩ | ⟨c4b0, H⟩
 · obtain rfl := Option.some.inj H
   go_enter Try.func10, Try.ntmps10
   go_wp2_with (first | ((with_reducible refine gate_dst (N := 2) rfl ?_); refine boxE (cs := #[.int .i64 a0_0, .int .i64 a0_1, .slice A0_2 l0_2.length c0_2]) (t := 28) ?_; intro gb365 hg w5 hbox hb; refine E4b HB.1 hg hbox hb ?_; clear HB; intro HB BK365 GW365 GE365; clear hb hbox hg; obtain ⟨hcz6_0, hcz6_1, hcz6_2, hfz6_0, hfz6_1, hfz6_2⟩ := cz3 BK365.1) | ((with_reducible refine gate_callee (f := 23) rfl ?_); refine goesM (N := (some 8)) #[.slice A0_2 l0_2.length c0_2, .int .i64 a1] Try.func23 ?_; (with_reducible refine (laws_heldCellS.calls k _ _ l0_2 a1 t366 _ ?side1 ?side2 A3.1).mono ?_); (case side1 => exact CB (C_below HR0_2.1 HB.1)); (case side2 => exact HC0_2.1); rintro e w' ⟨rfl, ⟨nd, rfl⟩⟩; refine ⟨_, rfl, ?_⟩))
   go_ret
   exact ⟨RF, BL HB.1⟩
 obtain rfl := Option.some.inj H
 go_enter Try.func10, Try.ntmps10
 go_wp2_with (first | ((with_reducible refine gate_dst (N := 2) rfl ?_); refine boxE (cs := #[.int .i64 a0_0, .int .i64 a0_1, .slice A0_2 l0_2.length c0_2]) (t := 28) ?_; intro gb365 hg w7 hbox hb; refine E4b HB.1 hg hbox hb ?_; clear HB; intro HB BK365 GW365 GE365; clear hb hbox hg; obtain ⟨hcz8_0, hcz8_1, hcz8_2, hfz8_0, hfz8_1, hfz8_2⟩ := cz3 BK365.1) | ((with_reducible refine gate_callee (f := 23) rfl ?_); refine goesM (N := (some 8)) #[.slice A0_2 l0_2.length c0_2, .int .i64 a1] Try.func23 ?_; (with_reducible refine (laws_heldCellS.calls k _ _ l0_2 a1 t366 _ ?side1 ?side2 A3.1).mono ?_); (case side1 => exact CB (C_below HR0_2.1 HB.1)); (case side2 => exact HC0_2.1); rintro e w' ⟨rfl, ⟨nd, rfl⟩⟩; refine ⟨_, rfl, ?_⟩))
 go_ret
 exact ⟨RF, BL HB.1⟩
/-! ### laws_FnExactTurnUnit: function 3 -/
open Kd
mutual
def laws_FnExactTurnUnit.j0 : Nat -> Int -> Bool -> Bool -> Bool -> Int -> Int -> List (S52) -> Int -> Int -> List (S45) -> Int -> Int -> List (S45) -> Int -> Int -> List (S45) -> Option (Bool)
 | 0, _, _, _, _, _, _, _, _, _, _, _, _, _, _, _, _ => none
 | k + 1, x1, x7, x10, x44, x368000, x368001, x368002, x381000, x381001, x381002, x387000, x387001, x387002, x394000, x394001, x394002 => if x44 = true then (some false) else ((laws_toBoard.f k x368000 x368001 x368002).bind fun bt395 => ((laws_eqBoard.f k x387000 x387001 x387002 bt395.1 bt395.2.1 bt395.2.2).bind fun t400 => (if t400 = true then ((laws_markBoard.f k x387000 x387001 x387002 1).bind fun bt401 => (if bt401.1 < 0 then (laws_FnExactTurnUnit.j1 k x1 x7 true x368000 x368001 x368002 x381000 x381001 x381002 x394000 x394001 x394002) else ((laws_eqBoard.f k x394000 x394001 x394002 x381000 x381001 x381002).bind fun t403 => (if t403 = true then (laws_FnExactTurnUnit.j1 k x1 x7 (x10 != x7) x368000 x368001 x368002 x381000 x381001 x381002 x394000 x394001 x394002) else (laws_FnExactTurnUnit.j1 k x1 x7 true x368000 x368001 x368002 x381000 x381001 x381002 x394000 x394001 x394002))))) else (some false))))
def laws_FnExactTurnUnit.j1 : Nat -> Int -> Bool -> Bool -> Int -> Int -> List (S52) -> Int -> Int -> List (S45) -> Int -> Int -> List (S45) -> Option (Bool)
 | 0, _, _, _, _, _, _, _, _, _, _, _, _ => none
 | k + 1, x1, x7, x65, x368000, x368001, x368002, x381000, x381001, x381002, x394000, x394001, x394002 => if x65 = true then (some false) else ((laws_markBoard.f k x394000 x394001 x394002 1).bind fun bt404 => ((laws_heldBoard.f k x394000 x394001 bt404.2 1).bind fun t406 => (if t406 < 0 then (some false) else (if t406 = bt404.1 then ((laws_toBoard.f k x368000 x368001 x368002).bind fun bt407 => ((impl_TurnUnit.f k bt407.1 bt407.2.1 bt407.2.2 x1).bind fun bt412 => ((laws_eqBoard.f k bt412.1 bt412.2.1 bt412.2.2.1 x381000 x381001 x381002).bind fun t419 => (if t419 = true then (laws_FnExactTurnUnit.j2 k bt404.1 (bt412.2.2.2 != x7) x394000 x394001 bt404.2) else (laws_FnExactTurnUnit.j2 k bt404.1 true x394000 x394001 bt404.2))))) else (some false)))))
def laws_FnExactTurnUnit.j2 : Nat -> Int -> Bool -> Int -> Int -> List (S45) -> Option (Bool)
 | 0, _, _, _, _, _ => none
 | k + 1, x12, x92, x394000, x394001, x394002 => if x92 = true then (some false) else ((laws_heldBoard.f k x394000 x394001 x394002 1).bind fun t420 => (if t420 < 0 then (some false) else (if t420 = x12 then (some true) else (some false))))
end
def laws_FnExactTurnUnit.f (k : Nat) (a0_0 : Int) (a0_1 : Int) (l0_2 : List (S52)) (a1 : Int) : Option (Bool) := (laws_szBoard.f a0_0 a0_1 l0_2 1048576).bind fun t368 => (if t368 < 0 then (some true) else ((laws_toBoard.f k a0_0 a0_1 l0_2).bind fun bt369 => ((spec_TurnUnit.f k bt369.1 bt369.2.1 bt369.2.2 a1).bind fun bt374 => ((laws_toBoard.f k a0_0 a0_1 l0_2).bind fun bt381 => ((impl_TurnUnit.f k bt381.1 bt381.2.1 bt381.2.2 a1).bind fun bt387 => ((laws_eqBoard.f k bt387.1 bt387.2.1 bt387.2.2.1 bt374.1 bt374.2.1 bt374.2.2.1).bind fun t394 => (if t394 = true then (laws_FnExactTurnUnit.j0 k a1 bt374.2.2.2 bt387.2.2.2 (bt387.2.2.2 != bt374.2.2.2) a0_0 a0_1 l0_2 bt374.1 bt374.2.1 bt374.2.2.1 bt381.1 bt381.2.1 bt381.2.2 bt387.1 bt387.2.1 bt387.2.2.1) else (laws_FnExactTurnUnit.j0 k a1 bt374.2.2.2 bt387.2.2.2 true a0_0 a0_1 l0_2 bt374.1 bt374.2.1 bt374.2.2.1 bt381.1 bt381.2.1 bt381.2.2 bt387.1 bt387.2.1 bt387.2.2.1))))))))
theorem laws_FnExactTurnUnit.mono_l : ∀ k, (∀ y0 y1 y2 y3 y4 y5 y6 y7 y8 y9 y10 y11 y12 y13 y14 y15, LeO (laws_FnExactTurnUnit.j0 k y0 y1 y2 y3 y4 y5 y6 y7 y8 y9 y10 y11 y12 y13 y14 y15) (laws_FnExactTurnUnit.j0 (k + 1) y0 y1 y2 y3 y4 y5 y6 y7 y8 y9 y10 y11 y12 y13 y14 y15)) /\ (∀ y0 y1 y2 y3 y4 y5 y6 y7 y8 y9 y10 y11, LeO (laws_FnExactTurnUnit.j1 k y0 y1 y2 y3 y4 y5 y6 y7 y8 y9 y10 y11) (laws_FnExactTurnUnit.j1 (k + 1) y0 y1 y2 y3 y4 y5 y6 y7 y8 y9 y10 y11)) /\ (∀ y0 y1 y2 y3 y4, LeO (laws_FnExactTurnUnit.j2 k y0 y1 y2 y3 y4) (laws_FnExactTurnUnit.j2 (k + 1) y0 y1 y2 y3 y4))
 | 0 => by refine ⟨?_, ?_, ?_⟩ <;> (intros; intro r h; first | (simp [laws_FnExactTurnUnit.j0] at h; done) | (simp [laws_FnExactTurnUnit.j1] at h; done) | (simp [laws_FnExactTurnUnit.j2] at h; done))
 | k + 1 => by
  obtain ⟨ih0, ih1, ih2⟩ := laws_FnExactTurnUnit.mono_l k
  refine ⟨?_, ?_, ?_⟩ <;> (
   intros
   first | unfold laws_FnExactTurnUnit.j0 | unfold laws_FnExactTurnUnit.j1 | unfold laws_FnExactTurnUnit.j2
   repeat' first | (with_reducible first | apply ih0 | apply ih1 | apply ih2 | apply impl_TurnUnit.mono | apply laws_eqBoard.mono | apply laws_heldBoard.mono | apply laws_markBoard.mono | apply laws_toBoard.mono | apply spec_TurnUnit.mono | exact LeO.refl _ | exact LeO.none _ | refine LeO.ite ?_ ?_ | refine LeO.bind ?_ (fun _ => ?_)) | exact LeO.none _ | refine LeO.ite ?_ ?_ | refine LeO.bind ?_ (fun _ => ?_))
theorem laws_FnExactTurnUnit.mono : ∀ a0 a1 a2 a3 k, LeO (laws_FnExactTurnUnit.f k a0 a1 a2 a3) (laws_FnExactTurnUnit.f (k + 1) a0 a1 a2 a3) := by
 intro a0 a1 a2 a3 k
 obtain ⟨ih0, ih1, ih2⟩ := laws_FnExactTurnUnit.mono_l k
 unfold laws_FnExactTurnUnit.f
 repeat' first | (with_reducible first | apply ih0 | apply ih1 | apply ih2 | apply impl_TurnUnit.mono | apply laws_eqBoard.mono | apply laws_heldBoard.mono | apply laws_markBoard.mono | apply laws_toBoard.mono | apply spec_TurnUnit.mono | exact LeO.refl _ | exact LeO.none _ | refine LeO.ite ?_ ?_ | refine LeO.bind ?_ (fun _ => ?_)) | exact LeO.none _ | refine LeO.ite ?_ ?_ | refine LeO.bind ?_ (fun _ => ?_)
set_option maxHeartbeats 8000000 in
set_option maxRecDepth 100000 in
theorem laws_FnExactTurnUnit.calls (k : Nat) (a0_0 : Int) (a0_1 : Int) (A0_2 : Option Addr) (c0_2 : Nat) (l0_2 : List (S52)) (a1 : Int) (w : World) (hr0_2 : Kd.C k52 w A0_2 l0_2.length l0_2) (hc0_2 : l0_2.length <= c0_2) (h : laws_FnExactTurnUnit.f k a0_0 a0_1 l0_2 a1 = some true) :
 Calls Try.prog 3 #[.agg #[.int .i64 a0_0, .int .i64 a0_1, .slice A0_2 l0_2.length c0_2], .int .i64 a1] w fun e w' => e = .returned (.bool true) /\ Below w.heap.size w w' := by
 have hu24 := Try.underlying24
 have hu28 := Try.underlying28
 have HR0_2 := Aside0.mk hr0_2
 have HC0_2 := Aside0.mk hc0_2
 clear hr0_2 hc0_2
 have HB := Aside0.mk (Below.refl w.heap.size w)
 have H := h
 clear h
 unfold laws_FnExactTurnUnit.f at H
 replace H := bindA H; obtain ⟨t368, A3, H⟩ := H
 replace H := ifB H; rcases H with ⟨c4b0, H⟩ | ⟨c4b0, H⟩
 · first | (obtain rfl := Option.some.inj H) | clear H
   go_enter Try.func3, Try.ntmps3
   go_wp2_with (first | ((with_reducible refine gate_dst (N := 2) rfl ?_); refine boxE (cs := #[.int .i64 a0_0, .int .i64 a0_1, .slice A0_2 l0_2.length c0_2]) (t := 24) ?_; intro gb367 hg w5 hbox hb; refine E4b HB.1 hg hbox hb ?_; clear HB; intro HB BK367 GW367 GE367; clear hb hbox hg; obtain ⟨hcz6_0, hcz6_1, hcz6_2, hfz6_0, hfz6_1, hfz6_2⟩ := cz3 BK367.1) | ((with_reducible refine gate_callee (f := 4) rfl ?_); refine goesM (N := (some 18)) #[.agg #[.int .i64 a0_0, .int .i64 a0_1, .slice A0_2 l0_2.length c0_2], .int .i64 1048576] Try.func4 ?_; (with_reducible refine (laws_szBoard.calls a0_0 a0_1 _ _ l0_2 1048576 t368 _ ?side1 ?side2 A3.1).mono ?_); (case side1 => exact CB (C_below HR0_2.1 HB.1)); (case side2 => exact HC0_2.1); rintro e w7 ⟨rfl, hb⟩; refine ⟨_, rfl, ?_⟩; refine E2 (bB BK367.1 hb) (bS HB.1 hb) ?_; clear BK367 HB; intro BK367 HB; (try clear hb)))
   go_ret
   exact ⟨RF, BL HB.1⟩
 replace H := bindA H; obtain ⟨⟨t369, t370, t371⟩, A8, H⟩ := H
 dsimp only at H
 replace H := bindA H; obtain ⟨⟨t374, t375, t376, t379⟩, A9, H⟩ := H
 dsimp only at H
 replace H := bindA H; obtain ⟨⟨t381, t382, t383⟩, A10, H⟩ := H
 dsimp only at H
 replace H := bindA H; obtain ⟨⟨t387, t388, t389, t392⟩, A11, H⟩ := H
 dsimp only at H
 have HC12 := Aside0.mk H
 clear H
 go_enter Try.func3, Try.ntmps3
 go_upto_region 8 with (first | ((with_reducible refine gate_dst (N := 2) rfl ?_); refine boxE (cs := #[.int .i64 a0_0, .int .i64 a0_1, .slice A0_2 l0_2.length c0_2]) (t := 24) ?_; intro gb367 hg w13 hbox hb; refine E4b HB.1 hg hbox hb ?_; clear HB; intro HB BK367 GW367 GE367; clear hb hbox hg; obtain ⟨hcz14_0, hcz14_1, hcz14_2, hfz14_0, hfz14_1, hfz14_2⟩ := cz3 BK367.1) | ((with_reducible refine gate_callee (f := 4) rfl ?_); refine goesM (N := (some 18)) #[.agg #[.int .i64 a0_0, .int .i64 a0_1, .slice A0_2 l0_2.length c0_2], .int .i64 1048576] Try.func4 ?_; (with_reducible refine (laws_szBoard.calls a0_0 a0_1 _ _ l0_2 1048576 t368 _ ?side1 ?side2 A3.1).mono ?_); (case side1 => exact CB (C_below HR0_2.1 HB.1)); (case side2 => exact HC0_2.1); rintro e w15 ⟨rfl, hb⟩; refine ⟨_, rfl, ?_⟩; refine E2 (bB BK367.1 hb) (bS HB.1 hb) ?_; clear BK367 HB; intro BK367 HB; (try clear hb); obtain ⟨hcz16_0, hcz16_1, hcz16_2, hfz16_0, hfz16_1, hfz16_2⟩ := cz3 BK367.1) | ((with_reducible refine gate_callee (f := 6) rfl ?_); refine goesM (N := (some 23)) #[.agg #[.int .i64 a0_0, .int .i64 a0_1, .slice A0_2 l0_2.length c0_2]] Try.func6 ?_; (with_reducible refine (laws_toBoard.calls k a0_0 a0_1 _ _ l0_2 t369 t370 t371 _ ?side1 ?side2 A8.1).mono ?_); (case side1 => exact CB (C_below HR0_2.1 HB.1)); (case side2 => exact HC0_2.1); rintro e w17 ⟨v372, rfl, ho0, hb⟩; refine ⟨_, rfl, ?_⟩; refine E3 (R_lower ho0 (bZ HB.1)) (bB BK367.1 hb) (bS HB.1 hb) ?_; clear BK367 HB; intro HO373 BK367 HB; (try clear hb); (try clear ho0); obtain ⟨Ao18, co18, eo18⟩ := R_slice HO373.1; subst eo18) | ((with_reducible refine gate_callee (f := 5) rfl ?_); refine goesM (N := (some 25)) #[.agg #[.int .i64 t369, .int .i64 t370, .slice Ao18 t371.length co18], .int .i64 a1] Try.func5 ?_; (with_reducible refine (spec_TurnUnit.calls k t369 t370 _ _ t371 a1 t374 t375 t376 t379 _ ?side1 ?side2 A9.1).mono ?_); (case side1 => exact CB (R_reads' HO373.1).2.2); (case side2 => exact (R_reads' HO373.1).2.1); rintro e w19 ⟨v377, rfl, ho0, hb⟩; refine ⟨_, rfl, ?_⟩; refine E4 (R_elder' (PR HO373.1) (R_base ho0) hb) (R_lower (R_new' ho0 (R_lt (PR HO373.1))) (bZ HB.1)) (bB BK367.1 hb) (bS HB.1 hb) ?_; clear HO373 BK367 HB; intro HO373 HO378 BK367 HB; (try clear hb); (try clear ho0)) | ((with_reducible refine gate_dst (N := 6) rfl ?_); refine boxE (cs := #[.int .i64 0, .int .i64 0, .slice none 0 0]) (t := 28) ?_; intro gb380 hg w20 hbox hb; refine E9 (rB HO373.1 hb) (rB HO378.1 hb) (bB BK367.1 hb) (bS HB.1 hb) (hbox) (gX HB.1 hg) (gX HB.1 hg) (nB BK367.1 hg) (nC BK367.1 hg) ?_; clear HO373 HO378 BK367 HB; intro HO373 HO378 BK367 HB BK380 GW380 GE380 NB367_380 NB380_367; clear hb hbox hg; have hnb21 := NB380_367.1; have hnc21 := NB367_380.1; obtain ⟨hcz22_0, hcz22_1, hcz22_2, hfz22_0, hfz22_1, hfz22_2⟩ := cz3 BK380.1; obtain ⟨Ao23, co23, eo23⟩ := R_slice HO378.1; subst eo23; obtain ⟨hcz24_0, hcz24_1, hcz24_2, hfz24_0, hfz24_1, hfz24_2⟩ := cz3 BK367.1) | ((with_reducible refine gate_callee (f := 6) rfl ?_); refine goesM (N := (some 29)) #[.agg #[.int .i64 a0_0, .int .i64 a0_1, .slice A0_2 l0_2.length c0_2]] Try.func6 ?_; (with_reducible refine (laws_toBoard.calls k a0_0 a0_1 _ _ l0_2 t381 t382 t383 _ ?side1 ?side2 A10.1).mono ?_); (case side1 => exact C_below HR0_2.1 (BL HB.1)); (case side2 => exact HC0_2.1); rintro e w25 ⟨v384, rfl, ho0, hb⟩; refine ⟨_, rfl, ?_⟩; refine E6 (R_elder' (by (with_reducible repeat (first | apply R_alloc | apply R_drewN | apply R_drew)); exact (R_mono (RQ gb380 2 (RQ gb380 1 (RQ gb380 0 (R_types HO373.1 BK380.1 (by decide)) _) _) _) (fun _ h_ => h_.1))) (R_base ho0) hb) (R_elder' (by (with_reducible repeat (first | apply R_alloc | apply R_drewN | apply R_drew)); exact (R_mono (RQ gb380 2 (RQ gb380 1 (RQ gb380 0 (R_types HO378.1 BK380.1 (by decide)) _) _) _) (fun _ h_ => h_.1))) (R_base ho0) hb) (R_lower (R_new' (R_new' ho0 (R_lt (by (with_reducible repeat (first | apply R_alloc | apply R_drewN | apply R_drew)); exact (R_mono (RQ gb380 2 (RQ gb380 1 (RQ gb380 0 (R_types HO373.1 BK380.1 (by decide)) _) _) _) (fun _ h_ => h_.1))))) (R_lt (by (with_reducible repeat (first | apply R_alloc | apply R_drewN | apply R_drew)); exact (R_mono (RQ gb380 2 (RQ gb380 1 (RQ gb380 0 (R_types HO378.1 BK380.1 (by decide)) _) _) _) (fun _ h_ => h_.1))))) (bZ HB.1)) (blk_below (g := gb367) (o := .cells #[.int .i64 a0_0, .int .i64 a0_1, .slice A0_2 l0_2.length c0_2] 24 (0, 0)) (PF1 NB367_380.1 BK367.1) hb) (blk_below (g := gb380) (o := .cells #[.int .i64 t374, .int .i64 t375, .slice Ao23 t376.length co23] 28 (0, 0)) (PF0 BK380.1) hb) (bS HB.1 hb) ?_; clear HO373 HO378 BK367 BK380 HB; intro HO373 HO378 HO385 BK367 BK380 HB; (try clear hb); (try clear ho0)) | ((with_reducible refine gate_dst (N := 8) rfl ?_); refine boxE (cs := #[.int .i64 0, .int .i64 0, .slice none 0 0]) (t := 28) ?_; intro gb386 hg w26 hbox hb; refine E13 (rB HO373.1 hb) (rB HO378.1 hb) (rB HO385.1 hb) (bB BK367.1 hb) (bB BK380.1 hb) (bS HB.1 hb) (hbox) (gX HB.1 hg) (gX HB.1 hg) (nB BK367.1 hg) (nC BK367.1 hg) (nB BK380.1 hg) (nC BK380.1 hg) ?_; clear HO373 HO378 HO385 BK367 BK380 HB; intro HO373 HO378 HO385 BK367 BK380 HB BK386 GW386 GE386 NB367_386 NB386_367 NB380_386 NB386_380; clear hb hbox hg; have hnb27 := NB386_367.1; have hnc27 := NB367_386.1; have hnb28 := NB386_380.1; have hnc28 := NB380_386.1; obtain ⟨hcz29_0, hcz29_1, hcz29_2, hfz29_0, hfz29_1, hfz29_2⟩ := cz3 BK386.1; obtain ⟨Ao30, co30, eo30⟩ := R_slice HO385.1; subst eo30) | ((with_reducible refine gate_callee (f := 7) rfl ?_); refine goesM (N := (some 33)) #[.agg #[.int .i64 t381, .int .i64 t382, .slice Ao30 t383.length co30], .int .i64 a1] Try.func7 ?_; (with_reducible refine (impl_TurnUnit.calls k t381 t382 _ _ t383 a1 t387 t388 t389 t392 _ ?side1 ?side2 A11.1).mono ?_); (case side1 => refine (R_reads' (e := 45) (base := w.heap.size) (ok := fun k_ => ((True /\ some k_ ≠ (.slice Ao18 t371.length co18 : Value).ownBlock) /\ some k_ ≠ (.slice Ao23 t376.length co23 : Value).ownBlock)) (n := t383.length) (c := co30) ?_).2.2; exact (by (with_reducible repeat (first | apply R_alloc | apply R_drewN | apply R_drew)); exact (R_mono (RQ gb386 2 (RQ gb386 1 (RQ gb386 0 (R_types HO385.1 BK386.1 (by decide)) _) _) _) (fun _ h_ => h_.1)))); (case side2 => exact (R_reads' HO385.1).2.1); rintro e w31 ⟨v390, rfl, ho0, hb⟩; refine ⟨_, rfl, ?_⟩; refine E8 (R_elder' (by (with_reducible repeat (first | apply R_alloc | apply R_drewN | apply R_drew)); exact (R_mono (RQ gb386 2 (RQ gb386 1 (RQ gb386 0 (R_types HO373.1 BK386.1 (by decide)) _) _) _) (fun _ h_ => h_.1))) (R_base ho0) hb) (R_elder' (by (with_reducible repeat (first | apply R_alloc | apply R_drewN | apply R_drew)); exact (R_mono (RQ gb386 2 (RQ gb386 1 (RQ gb386 0 (R_types HO378.1 BK386.1 (by decide)) _) _) _) (fun _ h_ => h_.1))) (R_base ho0) hb) (R_elder' (by (with_reducible repeat (first | apply R_alloc | apply R_drewN | apply R_drew)); exact (R_mono (RQ gb386 2 (RQ gb386 1 (RQ gb386 0 (R_types HO385.1 BK386.1 (by decide)) _) _) _) (fun _ h_ => h_.1))) (R_base ho0) hb) (R_lower (R_new' (R_new' (R_new' ho0 (R_lt (by (with_reducible repeat (first | apply R_alloc | apply R_drewN | apply R_drew)); exact (R_mono (RQ gb386 2 (RQ gb386 1 (RQ gb386 0 (R_types HO373.1 BK386.1 (by decide)) _) _) _) (fun _ h_ => h_.1))))) (R_lt (by (with_reducible repeat (first | apply R_alloc | apply R_drewN | apply R_drew)); exact (R_mono (RQ gb386 2 (RQ gb386 1 (RQ gb386 0 (R_types HO378.1 BK386.1 (by decide)) _) _) _) (fun _ h_ => h_.1))))) (R_lt (by (with_reducible repeat (first | apply R_alloc | apply R_drewN | apply R_drew)); exact (R_mono (RQ gb386 2 (RQ gb386 1 (RQ gb386 0 (R_types HO385.1 BK386.1 (by decide)) _) _) _) (fun _ h_ => h_.1))))) (bZ HB.1)) (blk_below (g := gb367) (o := .cells #[.int .i64 a0_0, .int .i64 a0_1, .slice A0_2 l0_2.length c0_2] 24 (0, 0)) (PF1 NB367_386.1 BK367.1) hb) (blk_below (g := gb380) (o := .cells #[.int .i64 t374, .int .i64 t375, .slice Ao23 t376.length co23] 28 (0, 0)) (PF1 NB380_386.1 BK380.1) hb) (blk_below (g := gb386) (o := .cells #[.int .i64 t381, .int .i64 t382, .slice Ao30 t383.length co30] 28 (0, 0)) (PF0 BK386.1) hb) (bS HB.1 hb) ?_; clear HO373 HO378 HO385 BK367 BK380 BK386 HB; intro HO373 HO378 HO385 HO391 BK367 BK380 BK386 HB; (try clear hb); (try clear ho0)) | ((with_reducible refine gate_dst (N := 9) rfl ?_); refine boxE (cs := #[.int .i64 0, .int .i64 0, .slice none 0 0]) (t := 28) ?_; intro gb393 hg w32 hbox hb; refine E17 (rB HO373.1 hb) (rB HO378.1 hb) (rB HO385.1 hb) (rB HO391.1 hb) (bB BK367.1 hb) (bB BK380.1 hb) (bB BK386.1 hb) (bS HB.1 hb) (hbox) (gX HB.1 hg) (gX HB.1 hg) (nB BK367.1 hg) (nC BK367.1 hg) (nB BK380.1 hg) (nC BK380.1 hg) (nB BK386.1 hg) (nC BK386.1 hg) ?_; clear HO373 HO378 HO385 HO391 BK367 BK380 BK386 HB; intro HO373 HO378 HO385 HO391 BK367 BK380 BK386 HB BK393 GW393 GE393 NB367_393 NB393_367 NB380_393 NB393_380 NB386_393 NB393_386; clear hb hbox hg; have hnb33 := NB393_367.1; have hnc33 := NB367_393.1; have hnb34 := NB393_380.1; have hnc34 := NB380_393.1; have hnb35 := NB393_386.1; have hnc35 := NB386_393.1; obtain ⟨hcz36_0, hcz36_1, hcz36_2, hfz36_0, hfz36_1, hfz36_2⟩ := cz3 BK393.1; obtain ⟨Ao37, co37, eo37⟩ := R_slice HO391.1; subst eo37))
 (try simp only [Act.put, List.setIfInBounds_toArray, List.set_cons_zero, List.set_cons_succ])
 go_cut [44] (fun v44 wc => ∃ (kq : Nat) (x44_11 : Bool), v44 = .bool x44_11 /\ Aside0 (laws_FnExactTurnUnit.j0 kq a1 t379 t392 x44_11 a0_0 a0_1 l0_2 t374 t375 t376 t381 t382 t383 t387 t388 t389 = some true) /\ Aside0 (kq <= k) /\ Aside0 (Kd.R k45 45 wc w.heap.size (fun k_ => some k_ ≠ ((.slice Ao30 t383.length co30) : Value).ownBlock /\ some k_ ≠ ((.slice Ao37 t389.length co37) : Value).ownBlock) (.slice Ao23 t376.length co23) t376) /\ Aside0 (Kd.R k45 45 wc w.heap.size (fun k_ => some k_ ≠ ((.slice Ao23 t376.length co23) : Value).ownBlock /\ some k_ ≠ ((.slice Ao37 t389.length co37) : Value).ownBlock) (.slice Ao30 t383.length co30) t383) /\ Aside0 (Kd.R k45 45 wc w.heap.size (fun k_ => some k_ ≠ ((.slice Ao23 t376.length co23) : Value).ownBlock /\ some k_ ≠ ((.slice Ao30 t383.length co30) : Value).ownBlock) (.slice Ao37 t389.length co37) t389) /\ Aside0 (wc.heap[gb367]? = some (.cells #[.int .i64 a0_0, .int .i64 a0_1, (.slice A0_2 l0_2.length c0_2)] 24 (0, 0))) /\ Aside0 (wc.heap[gb380]? = some (.cells #[.int .i64 t374, .int .i64 t375, (.slice Ao23 t376.length co23)] 28 (0, 0))) /\ Aside0 (wc.heap[gb386]? = some (.cells #[.int .i64 t381, .int .i64 t382, (.slice Ao30 t383.length co30)] 28 (0, 0))) /\ Aside0 (wc.heap[gb393]? = some (.cells #[.int .i64 t387, .int .i64 t388, (.slice Ao37 t389.length co37)] 28 (0, 0))) /\ Aside0 (Below w.heap.size w wc))
 case first =>
  have H := HC12.1
  clear HC12
  replace H := bindA H; obtain ⟨t394, A38, H⟩ := H
  replace H := ifT H (by cases k <;> simp [laws_FnExactTurnUnit.j0]); obtain ⟨rfl, H⟩ := H
  have H' := Aside0.mk H
  clear H
  obtain ⟨hcz43_0, hcz43_1, hcz43_2, hfz43_0, hfz43_1, hfz43_2⟩ := cz3 BK393.1
  obtain ⟨hcz46_0, hcz46_1, hcz46_2, hfz46_0, hfz46_1, hfz46_2⟩ := cz3 BK380.1
  go_wp2_with (first | ((with_reducible refine gate_callee (f := 8) rfl ?_); refine goesM (N := (some 38)) #[.agg #[.int .i64 t387, .int .i64 t388, .slice Ao37 t389.length co37], .agg #[.int .i64 t374, .int .i64 t375, .slice Ao23 t376.length co23]] Try.func8 ?_; (with_reducible refine (laws_eqBoard.calls k t387 t388 _ _ t389 t374 t375 _ _ t376 true _ ?side1 ?side2 ?side3 ?side4 A38.1).mono ?_); (case side1 => refine (R_reads' (e := 45) (base := w.heap.size) (ok := fun k_ => (((True /\ some k_ ≠ (.slice Ao18 t371.length co18 : Value).ownBlock) /\ some k_ ≠ (.slice Ao23 t376.length co23 : Value).ownBlock) /\ some k_ ≠ (.slice Ao30 t383.length co30 : Value).ownBlock)) (n := t389.length) (c := co37) ?_).2.2; exact (by (with_reducible repeat (first | apply R_alloc | apply R_drewN | apply R_drew)); exact (R_mono (RQ gb393 2 (RQ gb393 1 (RQ gb393 0 (R_types HO391.1 BK393.1 (by decide)) _) _) _) (fun _ h_ => h_.1)))); (case side2 => exact (R_reads' HO391.1).2.1); (case side3 => refine (R_reads' (e := 45) (base := w.heap.size) (ok := fun k_ => (((True /\ some k_ ≠ (.slice Ao18 t371.length co18 : Value).ownBlock) /\ some k_ ≠ (.slice Ao30 t383.length co30 : Value).ownBlock) /\ some k_ ≠ (.slice Ao37 t389.length co37 : Value).ownBlock)) (n := t376.length) (c := co23) ?_).2.2; exact (by (with_reducible repeat (first | apply R_alloc | apply R_drewN | apply R_drew)); exact (R_mono (RQ gb393 2 (RQ gb393 1 (RQ gb393 0 (R_types HO378.1 BK393.1 (by decide)) _) _) _) (fun _ h_ => h_.1)))); (case side4 => exact (R_reads' HO378.1).2.1); rintro e w47 ⟨rfl, hb⟩; refine ⟨_, rfl, ?_⟩; refine E9 (R_below (by (with_reducible repeat (first | apply R_alloc | apply R_drewN | apply R_drew)); exact (R_mono (RQ gb393 2 (RQ gb393 1 (RQ gb393 0 (R_types HO373.1 BK393.1 (by decide)) _) _) _) (fun _ h_ => h_.1))) hb) (R_below (by (with_reducible repeat (first | apply R_alloc | apply R_drewN | apply R_drew)); exact (R_mono (RQ gb393 2 (RQ gb393 1 (RQ gb393 0 (R_types HO378.1 BK393.1 (by decide)) _) _) _) (fun _ h_ => h_.1))) hb) (R_below (by (with_reducible repeat (first | apply R_alloc | apply R_drewN | apply R_drew)); exact (R_mono (RQ gb393 2 (RQ gb393 1 (RQ gb393 0 (R_types HO385.1 BK393.1 (by decide)) _) _) _) (fun _ h_ => h_.1))) hb) (R_below (by (with_reducible repeat (first | apply R_alloc | apply R_drewN | apply R_drew)); exact (R_mono (RQ gb393 2 (RQ gb393 1 (RQ gb393 0 (R_types HO391.1 BK393.1 (by decide)) _) _) _) (fun _ h_ => h_.1))) hb) (blk_below (g := gb367) (o := .cells #[.int .i64 a0_0, .int .i64 a0_1, .slice A0_2 l0_2.length c0_2] 24 (0, 0)) (PF1 NB367_393.1 BK367.1) hb) (blk_below (g := gb380) (o := .cells #[.int .i64 t374, .int .i64 t375, .slice Ao23 t376.length co23] 28 (0, 0)) (PF1 NB380_393.1 BK380.1) hb) (blk_below (g := gb386) (o := .cells #[.int .i64 t381, .int .i64 t382, .slice Ao30 t383.length co30] 28 (0, 0)) (PF1 NB386_393.1 BK386.1) hb) (blk_below (g := gb393) (o := .cells #[.int .i64 t387, .int .i64 t388, .slice Ao37 t389.length co37] 28 (0, 0)) (PF0 BK393.1) hb) (bS HB.1 hb) ?_; clear HO373 HO378 HO385 HO391 BK367 BK380 BK386 BK393 HB; intro HO373 HO378 HO385 HO391 BK367 BK380 BK386 BK393 HB; (try clear hb)))
  go_meet
  case rel => exact ⟨_, ((t392 != t379)), RG, H', ⟨by first | omega | exact Nat.le_refl _⟩, ⟨RPE (R_mono HO378.1 (fun _ hk => ⟨hk.1.2, hk.2⟩))⟩, ⟨RPE (R_mono HO385.1 (fun _ hk => ⟨hk.1.2, hk.2⟩))⟩, ⟨RPE (R_mono HO391.1 (fun _ hk => ⟨hk.1.2, hk.2⟩))⟩, ⟨PB BK367.1⟩, ⟨PB BK380.1⟩, ⟨PB BK386.1⟩, ⟨PB BK393.1⟩, ⟨BL HB.1⟩⟩
 clear HC12
 clear c4b0 hcz14_0 hcz14_1 hcz14_2 hcz16_0 hcz16_1 hcz16_2 hcz22_0 hcz22_1 hcz22_2 hcz24_0 hcz24_1 hcz24_2 hcz29_0 hcz29_1 hcz29_2 hcz36_0 hcz36_1 hcz36_2 hfz14_0 hfz14_1 hfz14_2 hfz16_0 hfz16_1 hfz16_2 hfz22_0 hfz22_1 hfz22_2 hfz24_0 hfz24_1 hfz24_2 hfz29_0 hfz29_1 hfz29_2 hfz36_0 hfz36_1 hfz36_2
 obtain ⟨kq, x44_11, rfl, HA, HJ11, HO_381002, HO_387002, HO_394002, BK367, BK380, BK386, BK393, HB⟩ := hcut
 cases kq with
 | zero => exact absurd HA.1 (by simp [laws_FnExactTurnUnit.j0])
 | succ kj11 => ?_
 have H := HA.1
 clear HA
 simp only [laws_FnExactTurnUnit.j0] at H
 replace H := ifF H (by simp); obtain ⟨rfl, H⟩ := H
 replace H := bindA H; obtain ⟨⟨t395, t396, t397⟩, A57, H⟩ := H
 dsimp only at H
 replace H := bindA H; obtain ⟨t400, A58, H⟩ := H
 replace H := ifT H (by simp); obtain ⟨rfl, H⟩ := H
 replace H := bindA H; obtain ⟨⟨t401, t402⟩, A60, H⟩ := H
 dsimp only at H
 have HC61 := Aside0.mk H
 clear H
 try go_wp2
 refine E8 (R_drew HO_381002.1) (R_drew HO_387002.1) (R_drew HO_394002.1) (blk_drew BK367.1) (blk_drew BK380.1) (blk_drew BK386.1) (blk_drew BK393.1) (below_drew1 HB.1) ?_
 clear HO_381002 HO_387002 HO_394002 BK367 BK380 BK386 BK393 HB
 intro HO_381002 HO_387002 HO_394002 BK367 BK380 BK386 BK393 HB
 refine start_ (n := 5) (S := fun w' => w'.cell? ⟨gb386, 0, none⟩ = some (.int .i64 t381) /\ w'.cell? ⟨gb386, 1, none⟩ = some (.int .i64 t382) /\ w'.cell? ⟨gb386, 2, none⟩ = some (.slice Ao30 t383.length co30) /\ w'.cell? ⟨gb367, 0, none⟩ = some (.int .i64 a0_0) /\ w'.cell? ⟨gb367, 1, none⟩ = some (.int .i64 a0_1) /\ w'.cell? ⟨gb367, 2, none⟩ = some (.slice A0_2 l0_2.length c0_2)) (ds := []) #[Zz,Zz,Zz,Zz,Zz] (by kernel_rfl) rfl rfl ⟨(blk_cell BK386.1 0).trans rfl, (blk_cell BK386.1 1).trans rfl, (blk_cell BK386.1 2).trans rfl, (blk_cell BK367.1 0).trans rfl, (blk_cell BK367.1 1).trans rfl, (blk_cell BK367.1 2).trans rfl⟩ (fun hHeld => ?_)
 generalize wc.drew = w62 at HO_381002 HO_387002 HO_394002 BK367 BK380 BK386 BK393 HB hHeld ⊢
 refine takeF 0 (N := some 45) hHeld ?_
 refine takeF 1 (N := some 46) hHeld ?_
 refine one_ (i := 2) (N := some 47) #[Yy,Yy,Yy,Zz,Zz] rfl rfl (by kernel_rfl) (by decide) (fun K hK => ?_)
 refine goes_ Try.func6 (by kernel_rfl) rfl #[.agg #[.int .i64 a0_0, .int .i64 a0_1, .slice A0_2 l0_2.length c0_2]] (by rfl) rfl rfl (by (try simp only [List.map_toArray, List.map_cons, List.map_nil]); first | done | rfl | (simp only [List.length_drop, List.length_take]; rfl)) ?_
 with_reducible refine (laws_toBoard.calls kj11 a0_0 a0_1 _ _ l0_2 t395 t396 t397 _ ?side1 ?side2 A57.1).mono ?_
 (case side1 => exact CB (C_below HR0_2.1 HB.1))
 (case side2 => exact HC0_2.1)
 rintro e w63 ⟨v398, rfl, ho0, hb⟩
 refine ⟨_, rfl, ?_⟩
 refine E9 (R_elder' (PR HO_381002.1) (R_base ho0) hb) (R_elder' (PR HO_387002.1) (R_base ho0) hb) (R_elder' (PR HO_394002.1) (R_base ho0) hb) (R_lower (R_new' (R_new' (R_new' ho0 (R_lt (PR HO_381002.1))) (R_lt (PR HO_387002.1))) (R_lt (PR HO_394002.1))) (bZ HB.1)) (bB BK367.1 hb) (bB BK380.1 hb) (bB BK386.1 hb) (bB BK393.1 hb) (bS HB.1 hb) ?_
 clear HO_381002 HO_387002 HO_394002 BK367 BK380 BK386 BK393 HB
 intro HO_381002 HO_387002 HO_394002 HO399 BK367 BK380 BK386 BK393 HB
 (try clear hb)
 (try clear hb2)
 (try clear hk)
 (try clear hi)
 (try clear ho0)
 obtain ⟨Ao64, co64, eo64⟩ := R_slice HO399.1
 (first | subst eo64 | (injection eo64 with f1_ f2_ f3_; have f4_ := f1_.symm; have f5_ := f3_.symm; clear f1_ f2_ f3_; subst f4_; subst f5_))
 refine hK.out _ _ ⟨(blk_cell BK386.1 0).trans rfl, (blk_cell BK386.1 1).trans rfl, (blk_cell BK386.1 2).trans rfl, (blk_cell BK367.1 0).trans rfl, (blk_cell BK367.1 1).trans rfl, (blk_cell BK367.1 2).trans rfl⟩ (fun hHeld => ?_)
 clear hK K
 refine norm_ (a' := ?_) ?_ ?_
 rotate_left
 · show Act.put _ (some 47) _ = _
   simp only [Act.put, List.setIfInBounds_toArray, List.set_cons_zero, List.set_cons_succ, i64_w, i32_w]
   rfl
 refine one_ (i := 3) (N := some 48) #[Yy,Yy,Yy,Yy,Zz] rfl rfl (by kernel_rfl) (by decide) (fun K hK => ?_)
 refine goes_ Try.func8 (by kernel_rfl) rfl #[.agg #[.int .i64 t381, .int .i64 t382, .slice Ao30 t383.length co30], .agg #[.int .i64 t395, .int .i64 t396, .slice Ao64 t397.length co64]] (by rfl) rfl rfl (by (try simp only [List.map_toArray, List.map_cons, List.map_nil]); first | done | rfl | (simp only [List.length_drop, List.length_take]; rfl)) ?_
 with_reducible refine (laws_eqBoard.calls kj11 t381 t382 _ _ t383 t395 t396 _ _ t397 true _ ?side1 ?side2 ?side3 ?side4 A58.1).mono ?_
 (case side1 => exact CB (R_reads' HO_387002.1).2.2)
 (case side2 => exact (R_reads' HO_387002.1).2.1)
 (case side3 => exact CB (R_reads' HO399.1).2.2)
 (case side4 => exact (R_reads' HO399.1).2.1)
 rintro e w65 ⟨rfl, hb⟩
 refine ⟨_, rfl, ?_⟩
 refine E9 (rB HO_381002.1 hb) (rB HO_387002.1 hb) (rB HO_394002.1 hb) (rB HO399.1 hb) (bB BK367.1 hb) (bB BK380.1 hb) (bB BK386.1 hb) (bB BK393.1 hb) (bS HB.1 hb) ?_
 clear HO_381002 HO_387002 HO_394002 HO399 BK367 BK380 BK386 BK393 HB
 intro HO_381002 HO_387002 HO_394002 HO399 BK367 BK380 BK386 BK393 HB
 (try clear hb)
 (try clear hb2)
 (try clear hk)
 (try clear hi)
 refine hK.out _ _ ⟨(blk_cell BK386.1 0).trans rfl, (blk_cell BK386.1 1).trans rfl, (blk_cell BK386.1 2).trans rfl, (blk_cell BK367.1 0).trans rfl, (blk_cell BK367.1 1).trans rfl, (blk_cell BK367.1 2).trans rfl⟩ (fun hHeld => ?_)
 clear hK K
 refine norm_ (a' := ?_) ?_ ?_
 rotate_left
 · show Act.put _ (some 48) _ = _
   simp only [Act.put, List.setIfInBounds_toArray, List.set_cons_zero, List.set_cons_succ, i64_w, i32_w]
   rfl
 refine pure_ (i := 4) (N := some 49) (v := ?_) (a' := ?_) #[Yy,Yy,Yy,Yy,Yy] rfl rfl (by kernel_rfl) (fun _ _ _ h => h) (Or.inl ⟨by rfl, ?_⟩) ?_ ?_
 rotate_left
 · intro w'
   go_simp
   with_reducible rfl
 rotate_left
 · simp only [Act.put, List.setIfInBounds_toArray, List.set_cons_zero, List.set_cons_succ, i64_w, i32_w]
   rfl
 refine done_ (by kernel_rfl) ?_
 obtain ⟨hcz69_0, hcz69_1, hcz69_2, hfz69_0, hfz69_1, hfz69_2⟩ := cz3 BK386.1
 go_upto_region 14 with (first | ((with_reducible refine gate_callee (f := 9) rfl ?_); refine goesM (N := (some 52)) #[.agg #[.int .i64 t381, .int .i64 t382, .slice Ao30 t383.length co30], .int .i64 1] Try.func9 ?_; (with_reducible refine (laws_markBoard.calls kj11 t381 t382 (fun k_ => some k_ = (.slice Ao30 t383.length co30 : Value).ownBlock) (.slice Ao30 t383.length co30) t383 1 t401 t402 w _ ?side1 ?side2 A60.1).mono ?_); (case side1 => exact BL HB.1); (case side2 => exact R_tight rfl HO_387002.1); rintro e w70 ⟨rfl, hy0, hb, hkp⟩; refine ⟨_, rfl, ?_⟩; refine E9 (R_mono (ok' := fun k_ => some k_ ≠ (.slice Ao30 t383.length co30 : Value).ownBlock /\ some k_ ≠ (.slice Ao37 t389.length co37 : Value).ownBlock /\ some k_ ≠ (.slice Ao64 t397.length co64 : Value).ownBlock) (R_keptB (HO_381002.1) hkp (fun k_ hk_ hs_ => (hk_.1.1) hs_)) (fun k_ hk_ => ⟨hk_.1.1.1, hk_.1.1.2, hk_.1.2⟩)) (R_reok rfl hy0 (fun k_ e_ => HO_387002.1.1 k_ e_)) (R_mono (ok' := fun k_ => some k_ ≠ (.slice Ao23 t376.length co23 : Value).ownBlock /\ some k_ ≠ (.slice Ao30 t383.length co30 : Value).ownBlock /\ some k_ ≠ (.slice Ao64 t397.length co64 : Value).ownBlock) (R_keptB (HO_394002.1) hkp (fun k_ hk_ hs_ => (hk_.1.2) hs_)) (fun k_ hk_ => ⟨hk_.1.1.1, hk_.1.1.2, hk_.1.2⟩)) (blk_kept (PB BK367.1) hkp (fun hs_ => (fun e_ => (R_ne HO_387002.1 BK367.1 (by decide)) e_) hs_)) (blk_kept (PB BK380.1) hkp (fun hs_ => (fun e_ => (R_ne HO_387002.1 BK380.1 (by decide)) e_) hs_)) (blk_kept (PB BK386.1) hkp (fun hs_ => (fun e_ => (R_ne HO_387002.1 BK386.1 (by decide)) e_) hs_)) (blk_kept (PB BK393.1) hkp (fun hs_ => (fun e_ => (R_ne HO_387002.1 BK393.1 (by decide)) e_) hs_)) (R_mono (ok' := fun k_ => some k_ ≠ (.slice Ao23 t376.length co23 : Value).ownBlock /\ some k_ ≠ (.slice Ao30 t383.length co30 : Value).ownBlock /\ some k_ ≠ (.slice Ao37 t389.length co37 : Value).ownBlock) (R_keptB (HO399.1) hkp (fun k_ hk_ hs_ => (hk_.1.2) hs_)) (fun k_ hk_ => ⟨hk_.1.1.1.2, hk_.1.1.2, hk_.1.2⟩)) (hb) ?_; clear HO_381002 HO_387002 HO_394002 BK367 BK380 BK386 BK393 HO399 HB; intro HO_381002 HO_387002 HO_394002 BK367 BK380 BK386 BK393 HO399 HB; (try clear hb); (try clear hkp); (try clear hy0)))
 (try simp only [Act.put, List.setIfInBounds_toArray, List.set_cons_zero, List.set_cons_succ])
 go_cut [65] (fun v65 wc => ∃ (kq : Nat) (x65_60 : Bool), v65 = .bool x65_60 /\ Aside0 (laws_FnExactTurnUnit.j1 kq a1 t379 x65_60 a0_0 a0_1 l0_2 t374 t375 t376 t387 t388 t389 = some true) /\ Aside0 (kq <= kj11) /\ Aside0 (Kd.R k45 45 wc w.heap.size (fun k_ => some k_ ≠ ((.slice Ao30 t383.length co30) : Value).ownBlock /\ some k_ ≠ ((.slice Ao37 t389.length co37) : Value).ownBlock) (.slice Ao23 t376.length co23) t376) /\ Aside0 (Kd.R k45 45 wc w.heap.size (fun k_ => some k_ ≠ ((.slice Ao23 t376.length co23) : Value).ownBlock /\ some k_ ≠ ((.slice Ao37 t389.length co37) : Value).ownBlock) (.slice Ao30 t383.length co30) t402) /\ Aside0 (Kd.R k45 45 wc w.heap.size (fun k_ => some k_ ≠ ((.slice Ao23 t376.length co23) : Value).ownBlock /\ some k_ ≠ ((.slice Ao30 t383.length co30) : Value).ownBlock) (.slice Ao37 t389.length co37) t389) /\ Aside0 (wc.heap[gb367]? = some (.cells #[.int .i64 a0_0, .int .i64 a0_1, (.slice A0_2 l0_2.length c0_2)] 24 (0, 0))) /\ Aside0 (wc.heap[gb380]? = some (.cells #[.int .i64 t374, .int .i64 t375, (.slice Ao23 t376.length co23)] 28 (0, 0))) /\ Aside0 (wc.heap[gb386]? = some (.cells #[.int .i64 t381, .int .i64 t382, (.slice Ao30 t383.length co30)] 28 (0, 0))) /\ Aside0 (wc.heap[gb393]? = some (.cells #[.int .i64 t387, .int .i64 t388, (.slice Ao37 t389.length co37)] 28 (0, 0))) /\ Aside0 (Below w.heap.size w wc))
 case first =>
  have H := HC61.1
  clear HC61
  replace H := ifQ H; rcases H with ⟨c71, H⟩ | ⟨c71, H⟩
  · exact absurd H (by cases kj11 <;> simp [laws_FnExactTurnUnit.j1])
  have c71b0 := decide_eq_false c71
  clear c71
  (first | rw [c71b0] | (simp only [i64_w, i32_w]; rw [c71b0]) | skip)
  replace H := bindA H; obtain ⟨t403, A72, H⟩ := H
  replace H := ifT H (by cases kj11 <;> simp [laws_FnExactTurnUnit.j1]); obtain ⟨rfl, H⟩ := H
  have H' := Aside0.mk H
  clear H
  obtain ⟨hcz77_0, hcz77_1, hcz77_2, hfz77_0, hfz77_1, hfz77_2⟩ := cz3 BK393.1
  obtain ⟨hcz80_0, hcz80_1, hcz80_2, hfz80_0, hfz80_1, hfz80_2⟩ := cz3 BK380.1
  go_wp2_with (first | (go_at_call 8; (with_reducible refine (laws_eqBoard.calls kj11 t387 t388 _ _ t389 t374 t375 _ _ t376 true _ ?side1 ?side2 ?side3 ?side4 A72.1).mono ?_); (case side1 => exact CB (R_reads' HO_394002.1).2.2); (case side2 => exact (R_reads' HO_394002.1).2.1); (case side3 => exact CB (R_reads' HO_381002.1).2.2); (case side4 => exact (R_reads' HO_381002.1).2.1); rintro e w81 ⟨rfl, hb⟩; refine E9 (rB HO_381002.1 hb) (rB HO_387002.1 hb) (rB HO_394002.1 hb) (rB HO399.1 hb) (bB BK367.1 hb) (bB BK380.1 hb) (bB BK386.1 hb) (bB BK393.1 hb) (bS HB.1 hb) ?_; clear HO_381002 HO_387002 HO_394002 HO399 BK367 BK380 BK386 BK393 HB; intro HO_381002 HO_387002 HO_394002 HO399 BK367 BK380 BK386 BK393 HB; (try clear hb)))
  go_meet
  case rel => exact ⟨_, ((t392 != t379)), RG, H', ⟨by have := HJ11.1; first | omega | exact Nat.le_refl _⟩, ⟨RPE (R_mono HO_381002.1 (fun _ hk => ⟨hk.1, hk.2.1⟩))⟩, ⟨RPE (R_mono HO_387002.1 (fun _ hk => ⟨hk.1.1, hk.1.2⟩))⟩, ⟨RPE (R_mono HO_394002.1 (fun _ hk => ⟨hk.1, hk.2.1⟩))⟩, ⟨PB BK367.1⟩, ⟨PB BK380.1⟩, ⟨PB BK386.1⟩, ⟨PB BK393.1⟩, ⟨BL HB.1⟩⟩
 clear HC61
 clear hcz69_0 hcz69_1 hcz69_2 hfz69_0 hfz69_1 hfz69_2
 obtain ⟨kq, x65_60, rfl, HA, HJ60, HO_381002, HO_387002, HO_394002, BK367, BK380, BK386, BK393, HB⟩ := hcut
 have hl387002_60 := (R_reads' HO_387002.1).1
 rw [hl387002_60] at HO_387002
 (try simp only [hl387002_60])
 (try simp only [hl387002_60] at BK367)
 (try simp only [hl387002_60] at BK380)
 (try simp only [hl387002_60] at BK386)
 (try simp only [hl387002_60] at BK393)
 (try simp only [hl387002_60] at HO_381002)
 (try simp only [hl387002_60] at HO_394002)
 cases kq with
 | zero => exact absurd HA.1 (by simp [laws_FnExactTurnUnit.j1])
 | succ kj60 => ?_
 have H := HA.1
 clear HA
 simp only [laws_FnExactTurnUnit.j1] at H
 replace H := ifF H (by simp); obtain ⟨rfl, H⟩ := H
 replace H := bindA H; obtain ⟨⟨t404, t405⟩, A91, H⟩ := H
 dsimp only at H
 replace H := bindA H; obtain ⟨t406, A92, H⟩ := H
 replace H := ifQ H; rcases H with ⟨c93, H⟩ | ⟨c93, H⟩
 · exact absurd H (by simp)
 have c93b0 := decide_eq_false c93
 clear c93
 first | replace H := ifP H | replace H := ifPf H
 obtain ⟨c101, H⟩ := H
 have c101b0 := beq_iff_eq.mpr c101
 have c101b1 := bne_eq_false_iff_eq.mpr c101
 clear c101
 replace H := bindA H; obtain ⟨⟨t407, t408, t409⟩, A102, H⟩ := H
 dsimp only at H
 replace H := bindA H; obtain ⟨⟨t412, t413, t414, t417⟩, A103, H⟩ := H
 dsimp only at H
 have HC104 := Aside0.mk H
 clear H
 obtain ⟨hcz108_0, hcz108_1, hcz108_2, hfz108_0, hfz108_1, hfz108_2⟩ := cz3 BK393.1
 go_upto_region 25 with (first | ((with_reducible refine gate_callee (f := 9) rfl ?_); refine goesM (N := (some 68)) #[.agg #[.int .i64 t387, .int .i64 t388, .slice Ao37 t389.length co37], .int .i64 1] Try.func9 ?_; (with_reducible refine (laws_markBoard.calls kj60 t387 t388 (fun k_ => some k_ = (.slice Ao37 t389.length co37 : Value).ownBlock) (.slice Ao37 t389.length co37) t389 1 t404 t405 w _ ?side1 ?side2 A91.1).mono ?_); (case side1 => exact BL HB.1); (case side2 => exact R_tight rfl HO_394002.1); rintro e w109 ⟨rfl, hy0, hb, hkp⟩; refine ⟨_, rfl, ?_⟩; refine E8 (R_mono (ok' := fun k_ => some k_ ≠ (.slice Ao30 t402.length co30 : Value).ownBlock /\ some k_ ≠ (.slice Ao37 t389.length co37 : Value).ownBlock) (R_keptB (HO_381002.1) hkp (fun k_ hk_ hs_ => (hk_.2) hs_)) (fun k_ hk_ => ⟨hk_.1.1, hk_.1.2⟩)) (R_mono (ok' := fun k_ => some k_ ≠ (.slice Ao23 t376.length co23 : Value).ownBlock /\ some k_ ≠ (.slice Ao37 t389.length co37 : Value).ownBlock) (R_keptB (HO_387002.1) hkp (fun k_ hk_ hs_ => (hk_.2) hs_)) (fun k_ hk_ => ⟨hk_.1.1, hk_.1.2⟩)) (R_reok rfl hy0 (fun k_ e_ => HO_394002.1.1 k_ e_)) (blk_kept (PB BK367.1) hkp (fun hs_ => (fun e_ => (R_ne HO_394002.1 BK367.1 (by decide)) e_) hs_)) (blk_kept (PB BK380.1) hkp (fun hs_ => (fun e_ => (R_ne HO_394002.1 BK380.1 (by decide)) e_) hs_)) (blk_kept (PB BK386.1) hkp (fun hs_ => (fun e_ => (R_ne HO_394002.1 BK386.1 (by decide)) e_) hs_)) (blk_kept (PB BK393.1) hkp (fun hs_ => (fun e_ => (R_ne HO_394002.1 BK393.1 (by decide)) e_) hs_)) (hb) ?_; clear HO_381002 HO_387002 HO_394002 BK367 BK380 BK386 BK393 HB; intro HO_381002 HO_387002 HO_394002 BK367 BK380 BK386 BK393 HB; (try clear hb); (try clear hkp); (try clear hy0); obtain ⟨hcz110_0, hcz110_1, hcz110_2, hfz110_0, hfz110_1, hfz110_2⟩ := cz3 BK393.1) | ((with_reducible refine gate_callee (f := 10) rfl ?_); refine goesL_ (some 71) rfl rfl Try.func10 (by kernel_rfl) rfl #[.agg #[.int .i64 t387, .int .i64 t388, .slice Ao37 t405.length co37], .int .i64 1] rfl (by (try simp only [List.map_toArray, List.map_cons, List.map_nil]); first | done | (rw [show t405.length = t389.length from (R_reads' HO_394002.1).1.symm] <;> rfl) | rfl | (simp only [List.length_drop, List.length_take]; rfl)) ?_; (with_reducible refine (laws_heldBoard.calls kj60 t387 t388 _ _ t405 1 t406 _ ?side1 ?side2 A92.1).mono ?_); (case side1 => exact CB (R_reads' HO_394002.1).2.2); (case side2 => rw [show t405.length = t389.length from (R_reads' HO_394002.1).1.symm]; exact (R_reads' HO_394002.1).2.1); rintro e w111 ⟨rfl, hb⟩; refine ⟨_, rfl, ?_⟩; refine E8 (rB HO_381002.1 hb) (rB HO_387002.1 hb) (rB HO_394002.1 hb) (bB BK367.1 hb) (bB BK380.1 hb) (bB BK386.1 hb) (bB BK393.1 hb) (bS HB.1 hb) ?_; clear HO_381002 HO_387002 HO_394002 BK367 BK380 BK386 BK393 HB; intro HO_381002 HO_387002 HO_394002 BK367 BK380 BK386 BK393 HB; (try clear hb); have hnb112 := NB367_380.1; have hnc112 := NB380_367.1; have hnb113 := NB367_386.1; have hnc113 := NB386_367.1; obtain ⟨hcz114_0, hcz114_1, hcz114_2, hfz114_0, hfz114_1, hfz114_2⟩ := cz3 BK367.1) | ((with_reducible refine gate_callee (f := 6) rfl ?_); refine goesM (N := (some 79)) #[.agg #[.int .i64 a0_0, .int .i64 a0_1, .slice A0_2 l0_2.length c0_2]] Try.func6 ?_; (with_reducible refine (laws_toBoard.calls kj60 a0_0 a0_1 _ _ l0_2 t407 t408 t409 _ ?side1 ?side2 A102.1).mono ?_); (case side1 => exact CB (C_below HR0_2.1 HB.1)); (case side2 => exact HC0_2.1); rintro e w115 ⟨v410, rfl, ho0, hb⟩; refine ⟨_, rfl, ?_⟩; refine E9 (R_elder' (PR HO_381002.1) (R_base ho0) hb) (R_elder' (PR HO_387002.1) (R_base ho0) hb) (R_elder' (PR HO_394002.1) (R_base ho0) hb) (R_lower (R_new' (R_new' (R_new' ho0 (R_lt (PR HO_381002.1))) (R_lt (PR HO_387002.1))) (R_lt (PR HO_394002.1))) (bZ HB.1)) (bB BK367.1 hb) (bB BK380.1 hb) (bB BK386.1 hb) (bB BK393.1 hb) (bS HB.1 hb) ?_; clear HO_381002 HO_387002 HO_394002 BK367 BK380 BK386 BK393 HB; intro HO_381002 HO_387002 HO_394002 HO411 BK367 BK380 BK386 BK393 HB; (try clear hb); (try clear ho0); obtain ⟨Ao116, co116, eo116⟩ := R_slice HO411.1; subst eo116) | ((with_reducible refine gate_callee (f := 7) rfl ?_); refine goesM (N := (some 81)) #[.agg #[.int .i64 t407, .int .i64 t408, .slice Ao116 t409.length co116], .int .i64 a1] Try.func7 ?_; (with_reducible refine (impl_TurnUnit.calls kj60 t407 t408 _ _ t409 a1 t412 t413 t414 t417 _ ?side1 ?side2 A103.1).mono ?_); (case side1 => exact CB (R_reads' HO411.1).2.2); (case side2 => exact (R_reads' HO411.1).2.1); rintro e w117 ⟨v415, rfl, ho0, hb⟩; refine ⟨_, rfl, ?_⟩; refine E10 (R_elder' (PR HO_381002.1) (R_base ho0) hb) (R_elder' (PR HO_387002.1) (R_base ho0) hb) (R_elder' (PR HO_394002.1) (R_base ho0) hb) (R_elder' (PR HO411.1) (R_base ho0) hb) (R_lower (R_new' (R_new' (R_new' (R_new' ho0 (R_lt (PR HO_381002.1))) (R_lt (PR HO_387002.1))) (R_lt (PR HO_394002.1))) (R_lt (PR HO411.1))) (bZ HB.1)) (bB BK367.1 hb) (bB BK380.1 hb) (bB BK386.1 hb) (bB BK393.1 hb) (bS HB.1 hb) ?_; clear HO_381002 HO_387002 HO_394002 HO411 BK367 BK380 BK386 BK393 HB; intro HO_381002 HO_387002 HO_394002 HO411 HO416 BK367 BK380 BK386 BK393 HB; (try clear hb); (try clear ho0)) | ((with_reducible refine gate_dst (N := 14) rfl ?_); refine boxE (cs := #[.int .i64 0, .int .i64 0, .slice none 0 0]) (t := 28) ?_; intro gb418 hg w118 hbox hb; refine E21 (rB HO_381002.1 hb) (rB HO_387002.1 hb) (rB HO_394002.1 hb) (rB HO411.1 hb) (rB HO416.1 hb) (bB BK367.1 hb) (bB BK380.1 hb) (bB BK386.1 hb) (bB BK393.1 hb) (bS HB.1 hb) (hbox) (gX HB.1 hg) (gX HB.1 hg) (nB BK367.1 hg) (nC BK367.1 hg) (nB BK380.1 hg) (nC BK380.1 hg) (nB BK386.1 hg) (nC BK386.1 hg) (nB BK393.1 hg) (nC BK393.1 hg) ?_; clear HO_381002 HO_387002 HO_394002 HO411 HO416 BK367 BK380 BK386 BK393 HB; intro HO_381002 HO_387002 HO_394002 HO411 HO416 BK367 BK380 BK386 BK393 HB BK418 GW418 GE418 NB367_418 NB418_367 NB380_418 NB418_380 NB386_418 NB418_386 NB393_418 NB418_393; clear hb hbox hg; have hnb119 := NB418_367.1; have hnc119 := NB367_418.1; have hnb120 := NB418_380.1; have hnc120 := NB380_418.1; have hnb121 := NB418_386.1; have hnc121 := NB386_418.1; have hnb122 := NB418_393.1; have hnc122 := NB393_418.1; obtain ⟨hcz123_0, hcz123_1, hcz123_2, hfz123_0, hfz123_1, hfz123_2⟩ := cz3 BK418.1; obtain ⟨Ao124, co124, eo124⟩ := R_slice HO416.1; subst eo124))
 (try simp only [Act.put, List.setIfInBounds_toArray, List.set_cons_zero, List.set_cons_succ])
 go_cut [92] (fun v92 wc => ∃ (kq : Nat) (x92_103 : Bool), v92 = .bool x92_103 /\ Aside0 (laws_FnExactTurnUnit.j2 kq t404 x92_103 t387 t388 t405 = some true) /\ Aside0 (kq <= kj60) /\ Aside0 (Kd.R k45 45 wc w.heap.size (fun k_ => some k_ ≠ ((.slice Ao30 t402.length co30) : Value).ownBlock /\ some k_ ≠ ((.slice Ao37 t389.length co37) : Value).ownBlock /\ some k_ ≠ ((.slice Ao124 t414.length co124) : Value).ownBlock) (.slice Ao23 t376.length co23) t376) /\ Aside0 (Kd.R k45 45 wc w.heap.size (fun k_ => some k_ ≠ ((.slice Ao23 t376.length co23) : Value).ownBlock /\ some k_ ≠ ((.slice Ao37 t389.length co37) : Value).ownBlock /\ some k_ ≠ ((.slice Ao124 t414.length co124) : Value).ownBlock) (.slice Ao30 t402.length co30) t402) /\ Aside0 (Kd.R k45 45 wc w.heap.size (fun k_ => some k_ ≠ ((.slice Ao23 t376.length co23) : Value).ownBlock /\ some k_ ≠ ((.slice Ao30 t402.length co30) : Value).ownBlock /\ some k_ ≠ ((.slice Ao124 t414.length co124) : Value).ownBlock) (.slice Ao37 t389.length co37) t405) /\ Aside0 (Kd.R k45 45 wc w.heap.size (fun k_ => some k_ ≠ ((.slice Ao23 t376.length co23) : Value).ownBlock /\ some k_ ≠ ((.slice Ao30 t402.length co30) : Value).ownBlock /\ some k_ ≠ ((.slice Ao37 t389.length co37) : Value).ownBlock) (.slice Ao124 t414.length co124) t414) /\ Aside0 (wc.heap[gb367]? = some (.cells #[.int .i64 a0_0, .int .i64 a0_1, (.slice A0_2 l0_2.length c0_2)] 24 (0, 0))) /\ Aside0 (wc.heap[gb380]? = some (.cells #[.int .i64 t374, .int .i64 t375, (.slice Ao23 t376.length co23)] 28 (0, 0))) /\ Aside0 (wc.heap[gb386]? = some (.cells #[.int .i64 t381, .int .i64 t382, (.slice Ao30 t402.length co30)] 28 (0, 0))) /\ Aside0 (wc.heap[gb393]? = some (.cells #[.int .i64 t387, .int .i64 t388, (.slice Ao37 t389.length co37)] 28 (0, 0))) /\ Aside0 (wc.heap[gb418]? = some (.cells #[.int .i64 t412, .int .i64 t413, (.slice Ao124 t414.length co124)] 28 (0, 0))) /\ Aside0 (Below w.heap.size w wc))
 case first =>
  have H := HC104.1
  clear HC104
  replace H := bindA H; obtain ⟨t419, A125, H⟩ := H
  replace H := ifT H (by cases kj60 <;> simp [laws_FnExactTurnUnit.j2]); obtain ⟨rfl, H⟩ := H
  have H' := Aside0.mk H
  clear H
  obtain ⟨hcz131_0, hcz131_1, hcz131_2, hfz131_0, hfz131_1, hfz131_2⟩ := cz3 BK418.1
  obtain ⟨hcz135_0, hcz135_1, hcz135_2, hfz135_0, hfz135_1, hfz135_2⟩ := cz3 BK380.1
  go_wp2_with (first | ((with_reducible refine gate_callee (f := 8) rfl ?_); refine goesM (N := (some 86)) #[.agg #[.int .i64 t412, .int .i64 t413, .slice Ao124 t414.length co124], .agg #[.int .i64 t374, .int .i64 t375, .slice Ao23 t376.length co23]] Try.func8 ?_; (with_reducible refine (laws_eqBoard.calls kj60 t412 t413 _ _ t414 t374 t375 _ _ t376 true _ ?side1 ?side2 ?side3 ?side4 A125.1).mono ?_); (case side1 => refine (R_reads' (e := 45) (base := w.heap.size) (ok := fun k_ => ((((True /\ some k_ ≠ (.slice Ao23 t376.length co23 : Value).ownBlock) /\ some k_ ≠ (.slice Ao30 t402.length co30 : Value).ownBlock) /\ some k_ ≠ (.slice Ao37 t389.length co37 : Value).ownBlock) /\ some k_ ≠ (.slice Ao116 t409.length co116 : Value).ownBlock)) (n := t414.length) (c := co124) ?_).2.2; exact (by (with_reducible repeat (first | apply R_alloc | apply R_drewN | apply R_drew)); exact (R_mono (RQ gb418 2 (RQ gb418 1 (RQ gb418 0 (R_types HO416.1 BK418.1 (by decide)) _) _) _) (fun _ h_ => h_.1)))); (case side2 => exact (R_reads' HO416.1).2.1); (case side3 => refine (R_reads' (e := 45) (base := w.heap.size) (ok := fun k_ => (((some k_ ≠ (.slice Ao30 t402.length co30 : Value).ownBlock /\ some k_ ≠ (.slice Ao37 t389.length co37 : Value).ownBlock) /\ some k_ ≠ (.slice Ao116 t409.length co116 : Value).ownBlock) /\ some k_ ≠ (.slice Ao124 t414.length co124 : Value).ownBlock)) (n := t376.length) (c := co23) ?_).2.2; exact (by (with_reducible repeat (first | apply R_alloc | apply R_drewN | apply R_drew)); exact (R_mono (RQ gb418 2 (RQ gb418 1 (RQ gb418 0 (R_types HO_381002.1 BK418.1 (by decide)) _) _) _) (fun _ h_ => h_.1)))); (case side4 => exact (R_reads' HO_381002.1).2.1); rintro e w136 ⟨rfl, hb⟩; refine ⟨_, rfl, ?_⟩; refine E11 (R_below (by (with_reducible repeat (first | apply R_alloc | apply R_drewN | apply R_drew)); exact (R_mono (RQ gb418 2 (RQ gb418 1 (RQ gb418 0 (R_types HO_381002.1 BK418.1 (by decide)) _) _) _) (fun _ h_ => h_.1))) hb) (R_below (by (with_reducible repeat (first | apply R_alloc | apply R_drewN | apply R_drew)); exact (R_mono (RQ gb418 2 (RQ gb418 1 (RQ gb418 0 (R_types HO_387002.1 BK418.1 (by decide)) _) _) _) (fun _ h_ => h_.1))) hb) (R_below (by (with_reducible repeat (first | apply R_alloc | apply R_drewN | apply R_drew)); exact (R_mono (RQ gb418 2 (RQ gb418 1 (RQ gb418 0 (R_types HO_394002.1 BK418.1 (by decide)) _) _) _) (fun _ h_ => h_.1))) hb) (R_below (by (with_reducible repeat (first | apply R_alloc | apply R_drewN | apply R_drew)); exact (R_mono (RQ gb418 2 (RQ gb418 1 (RQ gb418 0 (R_types HO411.1 BK418.1 (by decide)) _) _) _) (fun _ h_ => h_.1))) hb) (R_below (by (with_reducible repeat (first | apply R_alloc | apply R_drewN | apply R_drew)); exact (R_mono (RQ gb418 2 (RQ gb418 1 (RQ gb418 0 (R_types HO416.1 BK418.1 (by decide)) _) _) _) (fun _ h_ => h_.1))) hb) (blk_below (g := gb367) (o := .cells #[.int .i64 a0_0, .int .i64 a0_1, .slice A0_2 l0_2.length c0_2] 24 (0, 0)) (PF1 NB367_418.1 BK367.1) hb) (blk_below (g := gb380) (o := .cells #[.int .i64 t374, .int .i64 t375, .slice Ao23 t376.length co23] 28 (0, 0)) (PF1 NB380_418.1 BK380.1) hb) (blk_below (g := gb386) (o := .cells #[.int .i64 t381, .int .i64 t382, .slice Ao30 t402.length co30] 28 (0, 0)) (PF1 NB386_418.1 BK386.1) hb) (blk_below (g := gb393) (o := .cells #[.int .i64 t387, .int .i64 t388, .slice Ao37 t389.length co37] 28 (0, 0)) (PF1 NB393_418.1 BK393.1) hb) (blk_below (g := gb418) (o := .cells #[.int .i64 t412, .int .i64 t413, .slice Ao124 t414.length co124] 28 (0, 0)) (PF0 BK418.1) hb) (bS HB.1 hb) ?_; clear HO_381002 HO_387002 HO_394002 HO411 HO416 BK367 BK380 BK386 BK393 BK418 HB; intro HO_381002 HO_387002 HO_394002 HO411 HO416 BK367 BK380 BK386 BK393 BK418 HB; (try clear hb)))
  go_meet
  case rel => exact ⟨_, ((t417 != t379)), RG, H', ⟨by have := HJ11.1; have := HJ60.1; first | omega | exact Nat.le_refl _⟩, ⟨by (try simp only [hl387002_60]); (with_reducible repeat (first | apply R_alloc | apply R_drewN | apply R_drew)); exact R_mono HO_381002.1 (fun _ hk => ⟨hk.1.1.1, ⟨hk.1.1.2, hk.2⟩⟩)⟩, ⟨by (try simp only [hl387002_60]); (with_reducible repeat (first | apply R_alloc | apply R_drewN | apply R_drew)); exact R_mono HO_387002.1 (fun _ hk => ⟨hk.1.1.1, ⟨hk.1.1.2, hk.2⟩⟩)⟩, ⟨by (try simp only [hl387002_60]); (with_reducible repeat (first | apply R_alloc | apply R_drewN | apply R_drew)); exact R_mono HO_394002.1 (fun _ hk => ⟨hk.1.1.1, ⟨hk.1.1.2, hk.2⟩⟩)⟩, ⟨by (try simp only [hl387002_60]); (with_reducible repeat (first | apply R_alloc | apply R_drewN | apply R_drew)); exact R_mono HO416.1 (fun _ hk => ⟨hk.1.1.1.2, ⟨hk.1.1.2, hk.1.2⟩⟩)⟩, ⟨PB1 BK367.1 hl387002_60⟩, ⟨PB1 BK380.1 hl387002_60⟩, ⟨PB1 BK386.1 hl387002_60⟩, ⟨PB1 BK393.1 hl387002_60⟩, ⟨PB1 BK418.1 hl387002_60⟩, ⟨BL HB.1⟩⟩
 clear HC104
 clear c93b0 c101b0 c101b1 hcz108_0 hcz108_1 hcz108_2 hcz110_0 hcz110_1 hcz110_2 hcz114_0 hcz114_1 hcz114_2 hcz123_0 hcz123_1 hcz123_2 hfz108_0 hfz108_1 hfz108_2 hfz110_0 hfz110_1 hfz110_2 hfz114_0 hfz114_1 hfz114_2 hfz123_0 hfz123_1 hfz123_2
 obtain ⟨kq, x92_103, rfl, HA, HJ103, HO_381002, HO_387002, HO_394002, HO_419002, BK367, BK380, BK386, BK393, BK418, HB⟩ := hcut
 have hl394002_103 := (R_reads' HO_394002.1).1
 rw [hl394002_103] at HO_394002
 (try simp only [hl394002_103])
 (try simp only [hl394002_103] at BK367)
 (try simp only [hl394002_103] at BK380)
 (try simp only [hl394002_103] at BK386)
 (try simp only [hl394002_103] at BK393)
 (try simp only [hl394002_103] at BK418)
 (try simp only [hl394002_103] at HO_381002)
 (try simp only [hl394002_103] at HO_387002)
 (try simp only [hl394002_103] at HO_419002)
 cases kq with
 | zero => exact absurd HA.1 (by simp [laws_FnExactTurnUnit.j2])
 | succ kj103 => ?_
 have H := HA.1
 clear HA
 simp only [laws_FnExactTurnUnit.j2] at H
 replace H := ifF H (by simp); obtain ⟨rfl, H⟩ := H
 replace H := bindA H; obtain ⟨t420, A148, H⟩ := H
 replace H := ifQ H; rcases H with ⟨c149, H⟩ | ⟨c149, H⟩
 · exact absurd H (by simp)
 have c149b0 := decide_eq_false c149
 clear c149
 first | replace H := ifP H | replace H := ifPf H
 obtain ⟨c156, H⟩ := H
 have c156b0 := beq_iff_eq.mpr c156
 have c156b1 := bne_eq_false_iff_eq.mpr c156
 clear c156
 first | (obtain rfl := Option.some.inj H) | clear H
 obtain ⟨hcz161_0, hcz161_1, hcz161_2, hfz161_0, hfz161_1, hfz161_2⟩ := cz3 BK393.1
 go_wp2_with (first | ((with_reducible refine gate_callee (f := 10) rfl ?_); refine goesM (N := (some 95)) #[.agg #[.int .i64 t387, .int .i64 t388, .slice Ao37 t405.length co37], .int .i64 1] Try.func10 ?_; (with_reducible refine (laws_heldBoard.calls kj103 t387 t388 _ _ t405 1 t420 _ ?side1 ?side2 A148.1).mono ?_); (case side1 => exact CB (R_reads' HO_394002.1).2.2); (case side2 => exact (R_reads' HO_394002.1).2.1); rintro e w162 ⟨rfl, hb⟩; refine ⟨_, rfl, ?_⟩; refine E10 (rB HO_381002.1 hb) (rB HO_387002.1 hb) (rB HO_394002.1 hb) (rB HO_419002.1 hb) (bB BK367.1 hb) (bB BK380.1 hb) (bB BK386.1 hb) (bB BK393.1 hb) (bB BK418.1 hb) (bS HB.1 hb) ?_; clear HO_381002 HO_387002 HO_394002 HO_419002 BK367 BK380 BK386 BK393 BK418 HB; intro HO_381002 HO_387002 HO_394002 HO_419002 BK367 BK380 BK386 BK393 BK418 HB; (try clear hb)))
 go_ret
 exact ⟨RF, BL HB.1⟩
end Go.Proofs.Yteenahjnpeegpaa.P
