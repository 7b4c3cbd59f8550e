import Derived.Test.YtbpfdbjnnlmdjaaPx0
import Derived.Test.YtbpfdbjnnlmdjaaPx3
namespace Go.Proofs.Ytbpfdbjnnlmdjaa.P
open Go.RowKit Go.Proofs.YtbpfdbjnnlmdjaaW.PrintWords Go.Proofs.YtbpfdbjnnlmdjaaW.PrintLast Go.Proofs.YtbpfdbjnnlmdjaaW.PrintMore
attribute [local go_sem] max2_int min2_int max_two min_two max_three min_three max_four min_four
set_option linter.unusedVariables false
set_option linter.unusedSimpArgs false
open Kd
def impl_bitsOf.l0 : Nat -> List Int -> List (List Int) -> Int -> Int -> Int -> Int -> List (S83) -> Option (List Int)
 | 0, _, _, _, _, _, _, _ => none
 | k + 1, x3, x8, x9, x10, x533000, x533001, x533002 => if x10 < x9 then (if 0 <= x10 then (if x10 < (x8.length : Int) then (if 0 < ((rd_L3 x8 x10).length : Int) then (if 0 <= (rd (rd_L3 x8 x10) 0) then (if (rd (rd_L3 x8 x10) 0) < (x533002.length : Int) then (if x3.length < 17592186044416 then (impl_bitsOf.l0 k (x3 ++ [(rd_T83 x533002 (rd (rd_L3 x8 x10) 0)).f1]) x8 x9 (wrap64 (x10 + 1)) x533000 x533001 x533002) else (none)) else (none)) else (none)) else (none)) else (none)) else (none)) else (some x3)
def impl_bitsOf.f (k : Nat) (a0_0 : Int) (a0_1 : Int) (l0_2 : List (S83)) : Option (List Int) := (impl_unitsOf.f k a0_0 a0_1 l0_2).bind fun t536 => (impl_bitsOf.l0 k (([] : List Int)) t536 (t536.length : Int) 0 a0_0 a0_1 l0_2)
theorem impl_bitsOf.mono_l : ∀ k, (∀ y0 y1 y2 y3 y4 y5 y6, LeO (impl_bitsOf.l0 k y0 y1 y2 y3 y4 y5 y6) (impl_bitsOf.l0 (k + 1) y0 y1 y2 y3 y4 y5 y6))
 | 0 => fun _ _ _ _ _ _ _ r h => by simp [impl_bitsOf.l0] at h
 | k + 1 => by
  have ih0 := impl_bitsOf.mono_l k
  intros
  first | unfold impl_bitsOf.l0
  exact LM2 ih0 impl_unitsOf.mono
theorem impl_bitsOf.mono : ∀ a0 a1 a2 k, LeO (impl_bitsOf.f k a0 a1 a2) (impl_bitsOf.f (k + 1) a0 a1 a2) := by
 intro a0 a1 a2 k
 have ih0 := impl_bitsOf.mono_l k
 unfold impl_bitsOf.f
 exact LM2 ih0 impl_unitsOf.mono
def impl_bitsOf.T5 : Bool × List (List Nat × List Nat) := (true, [([], []), ([], []), ([1], [1]), ([], []), ([3], [3]), ([4], [4]), ([2, 5], [2, 5]), ([6], [6]), ([7], [7]), ([8], [8]), ([0, 9], [0, 9]), ([10, 10, 0, 1, 2, 3, 4, 5, 6, 7, 8, 9, 10], [0, 10])])
def impl_bitsOf.B5 : List Nat := [0, 0, 2, 0, 8, 24, 62, 126, 254, 510, 1023, 2047]
theorem impl_bitsOf.tab5 : rtab .any (opsOf Try.f50 5) = impl_bitsOf.T5 := by kernel_rfl
theorem impl_bitsOf.bits5 : waitsOk impl_bitsOf.T5.2 impl_bitsOf.B5 = true := by kernel_rfl
set_option maxHeartbeats 8000000 in
set_option maxRecDepth 100000 in
theorem impl_bitsOf.calls (k : Nat) (a0_0 : Int) (a0_1 : Int) (A0_2 : Option Addr) (c0_2 : Nat) (l0_2 : List (S83)) (r : List Int) (w : World) (hr0_2 : Kd.C k83 w A0_2 l0_2.length l0_2) (hc0_2 : l0_2.length <= c0_2) (h : impl_bitsOf.f k a0_0 a0_1 l0_2 = some r) :
 Calls Try.prog 50 #[.agg #[.int .i64 a0_0, .int .i64 a0_1, .slice A0_2 l0_2.length c0_2]] w fun e w' => ∃ v0_ : Value, e = .returned (v0_) /\ Kd.R (Kd.int .i64) 3 w' w.heap.size (fun _ => True) v0_ r /\ Below w.heap.size w w' := by
 have hu30 := Try.underlying30
 have HR0_2 := Aside0.mk hr0_2
 have HC0_2 := Aside0.mk hc0_2
 clear hr0_2 hc0_2
 have HB := Aside0.mk (Below.refl w.heap.size w)
 have H := h
 clear h
 unfold impl_bitsOf.f at H
 generalize hy533 : ((([] : List Int)) : List Int) = y533 at H
 have Ny533 := Aside0.mk hy533.symm; clear hy533
 replace H := bindA H; obtain ⟨t536, A2, H⟩ := H
 have H' := Aside0.mk H
 clear H
 go_enter Try.func50, Try.ntmps50
 go_wp2_with (first | ((with_reducible refine gate_dst (N := 1) rfl ?_); refine boxE (cs := #[.int .i64 a0_0, .int .i64 a0_1, .slice A0_2 l0_2.length c0_2]) (t := 30) ?_; intro gb532 hg w3 hbox hb; refine E4b HB.1 hg hbox hb ?_; clear HB; intro HB BK532 GW532 GE532; clear hb hbox hg) | ((with_reducible refine gate_dst (N := 6) rfl ?_); refine R_lit (Kd.int .i64) _ 3 ?hg (N := 6) ?hd (xs := ([] : List Int)) (inner := []) (ok := fun _ => True) (okp := fun _ => True) ?hr ?hp (fun _ hk => hk) trivial (Below.refl _ _) (Nat.le_refl _) (by simp) ?_; (case hd => rfl); (case hg => rfl); (case hr => first | (go_simp; done) | (go_simp; rfl)); (case hp => exact (Reps.none _ _)); intro v534 w4 ho5 hb hg_ hnew_; clear hg_ hnew_; (first | rw [<- Ny533.1] at ho5 | (simp only [Int.reduceToNat] at ho5; rw [<- Ny533.1] at ho5)); refine E3 (R_lower ho5 (bZ HB.1)) (bB BK532.1 hb) (bS HB.1 hb) ?_; clear BK532 HB; intro HO535 BK532 HB; clear hb ho5; obtain ⟨hcz6_0, hcz6_1, hcz6_2, hfz6_0, hfz6_1, hfz6_2⟩ := cz3 BK532.1) | ((with_reducible refine gate_callee (f := 61) rfl ?_); refine goesM (N := (some 8)) #[.agg #[.int .i64 a0_0, .int .i64 a0_1, .slice A0_2 l0_2.length c0_2]] Try.func61 ?_; (with_reducible refine (impl_unitsOf.calls k a0_0 a0_1 _ _ l0_2 t536 _ ?side1 ?side2 A2.1).mono ?_); (case side1 => exact CB (C_below HR0_2.1 HB.1)); (case side2 => exact HC0_2.1); rintro e w7 ⟨v537, rfl, ho0, hb⟩; refine ⟨_, rfl, ?_⟩; refine E4 (rB HO535.1 hb) (S_lower (S_new' ho0 (R_lt (PR HO535.1))) (bZ HB.1)) (bB BK532.1 hb) (bS HB.1 hb) ?_; clear HO535 BK532 HB; intro HO535 HO538 BK532 HB; (try clear hb); (try clear ho0); obtain ⟨Ao8, co8, eo8⟩ := S_slice HO538.1; subst eo8))
 go_loopg [3, 10] k (fun kq v3 v10 w' => ∃ (x3_1 : List Int) (x10_1 : Int), v10 = .int .i64 x10_1 /\ Aside0 (impl_bitsOf.l0 kq x3_1 t536 (t536.length : Int) x10_1 a0_0 a0_1 l0_2 = some r) /\ Aside0 (kq <= k) /\ Aside0 (Kd.R (Kd.int .i64) 3 w' w.heap.size (fun _ => True) v3 x3_1) /\ Aside0 (Kd.S (Kd.slice 3 (Kd.int .i64)) 38 w' w.heap.size (fun k_ => some k_ ≠ (v3 : Value).ownBlock) (.slice Ao8 t536.length co8) t536) /\ Aside0 (w'.heap[gb532]? = some (.cells #[.int .i64 a0_0, .int .i64 a0_1, (.slice A0_2 l0_2.length c0_2)] 30 (0, 0))) /\ Aside0 (Below w.heap.size w w'))
 case atStart => exact ⟨(y533), (0), RG, H', ⟨Nat.le_refl _⟩, ⟨PR HO535.1⟩, ⟨SPE (S_mono HO538.1 (fun _ hk => hk.2))⟩, ⟨PB BK532.1⟩, ⟨BL HB.1⟩⟩
 clear H'
 clear hcz6_0 hcz6_1 hcz6_2 hfz6_0 hfz6_1 hfz6_2
 obtain ⟨x3_1, x10_1, rfl, HA, HK1, HO_3, HO_8, BK532, HB⟩ := hrel
 cases gk with
 | zero => exact absurd HA.1 (by simp [impl_bitsOf.l0])
 | succ k1 => ?_
 have H := HA.1
 clear HA
 simp only [impl_bitsOf.l0] at H
 replace H := ifB H; rcases H with ⟨c9b0, H⟩ | ⟨c9b0, H⟩
 · replace H := ifN H; obtain ⟨c10b0, H⟩ := H
   replace H := ifN H; obtain ⟨c11b0, H⟩ := H
   replace H := ifP H; obtain ⟨c12, H⟩ := H
   have c12b0 := decide_eq_true c12
   have c12b1 : decide (0 < (rd_L3 t536 x10_1).length) = true := decide_eq_true (by omega)
   clear c12
   replace H := ifN H; obtain ⟨c13b0, H⟩ := H
   replace H := ifN H; obtain ⟨c14b0, H⟩ := H
   replace H := ifP H; obtain ⟨c15, H⟩ := H
   have LMc15 := Aside0.mk c15
   clear c15
   generalize hy542 : ((x3_1 ++ [(rd_T83 l0_2 (rd (rd_L3 t536 x10_1) 0)).f1]) : List Int) = y542 at H
   have Ny542 := Aside0.mk hy542.symm; clear hy542
   have H' := Aside0.mk H
   clear H
   have p539 : 0 <= (x10_1 : Int) := OD
   have q539 : x10_1 < (t536.length : Int) := OD
   obtain ⟨ad539, A539_0, c539_0, e539, hx539_0, hl539_0, hi539_0⟩ := at_L3 (S_reads' HO_8.1).2.2 x10_1 p539 q539
   cases e539
   obtain ⟨ce539, hce539, hMe539, hcc539⟩ := S_get HO_8.1 [] x10_1 p539 (by first | exact q539 | exact OD | (have e_ := (S_reads' HO_8.1).1; omega))
   obtain ⟨ve539_0, rfl, ge539_0⟩ := hMe539
   have hv539_0 := hcc539 0 _ rfl
   rw [Nat.add_zero, show ((Kd.slice 3 (Kd.int .i64))).sz = 1 from rfl, Nat.mul_one] at hv539_0
   replace hv539_0 := Option.some.inj (hv539_0.symm.trans hx539_0)
   rw [hv539_0] at ge539_0
   have HL539_0 := Aside0.mk (show Kd.R (Kd.int .i64) 3 _ _ _ _ (rd_L3 t536 x10_1) from ge539_0)
   clear hv539_0 ge539_0
   clear hcc539 hce539
   have HR539_0 := Aside0.mk hi539_0
   have HC539_0 := Aside0.mk hl539_0
   clear hi539_0 hl539_0
   replace p539 := eq_true p539
   replace q539 := eq_true q539
   try go_wp2
   refine E6 (R_drew HO_3.1) (S_drew HO_8.1) (R_drew HL539_0.1) (blk_drew BK532.1) (C_drew HR539_0.1) (below_drew1 HB.1) ?_
   clear HO_3 HO_8 HL539_0 BK532 HR539_0 HB
   intro HO_3 HO_8 HL539_0 BK532 HR539_0 HB
   have p540 : 0 <= (0 : Int) := (by omega)
   have q540 : 0 < ((rd_L3 t536 x10_1).length : Int) := OD
   obtain ⟨ad540, e540, hx540_0⟩ := Kd.at_int (by repeat (first | (with_reducible exact HR539_0.1) | (with_reducible refine C_alloc ?_ _) | (with_reducible refine C_drewN ?_ _) | (with_reducible refine C_drew ?_) | exact HR539_0.1)) 0 p540 q540
   cases e540
   have qi540 : (0 < (rd_L3 t536 x10_1).length) = True := eq_true (by omega)
   (try rw [show ((0 : Int)).toNat = 0 from rfl] at hx540_0)
   (try rw [Addr.add_zero'] at hx540_0)
   replace p540 := eq_true p540
   replace q540 := eq_true q540
   have p541 : 0 <= ((rd (rd_L3 t536 x10_1) 0) : Int) := OD
   have q541 : (rd (rd_L3 t536 x10_1) 0) < (l0_2.length : Int) := OD
   obtain ⟨ad541, e541, hx541_0, hx541_1⟩ := at_T83 HR0_2.1 (rd (rd_L3 t536 x10_1) 0) p541 q541
   have hw541_1 := hx541_1
   have hw541_0 := hx541_0
   cases e541
   replace hx541_0 := (HB.1.cell (World.block_lt_of_cell? w _ hx541_0)).trans hx541_0
   replace hx541_1 := (HB.1.cell (World.block_lt_of_cell? w _ hx541_1)).trans hx541_1
   replace p541 := eq_true p541
   replace q541 := eq_true q541
   refine start_ (n := 12) (S := fun w' => w'.cell? ⟨gb532, 0, none⟩ = some (.int .i64 a0_0) /\ w'.cell? ⟨gb532, 1, none⟩ = some (.int .i64 a0_1) /\ w'.cell? ⟨gb532, 2, none⟩ = some (.slice (some ad541) l0_2.length c0_2) /\ w'.cell? ad540 = some (.int .i64 (rd (rd_L3 t536 x10_1) 0)) /\ w'.cell? (ad541.add (((rd (rd_L3 t536 x10_1) 0)).toNat * 2)) = some (.int .i64 ((rd_T83 l0_2 (rd (rd_L3 t536 x10_1) 0)).f0)) /\ w'.cell? ⟨(ad541.add (((rd (rd_L3 t536 x10_1) 0)).toNat * 2)).block, (ad541.add (((rd (rd_L3 t536 x10_1) 0)).toNat * 2)).off + 1, none⟩ = some (.int .i64 ((rd_T83 l0_2 (rd (rd_L3 t536 x10_1) 0)).f1))) (ds := [9, 10]) #[Zz,Zz,Zz,Zz,Zz,Zz,Zz,Zz,Zz,Zz,Zz,Zz] (by kernel_rfl) rfl rfl ⟨(blk_cell BK532.1 0).trans rfl, (blk_cell BK532.1 1).trans rfl, (blk_cell BK532.1 2).trans rfl, hx540_0, ((HB.1.cell (World.block_lt_of_cell? w _ hw541_0)).trans hw541_0), ((HB.1.cell (World.block_lt_of_cell? w _ hw541_1)).trans hw541_1)⟩ (fun hHeld => ?_); refine with_tabW impl_bitsOf.tab5 impl_bitsOf.bits5 (fun HT_ HW_ => ?_)
   generalize wr.drew = w16 at HO_3 HO_8 HL539_0 BK532 HR539_0 HB hx540_0 hx541_0 hx541_1 hHeld ⊢
   refine pureF 0 (N := some 14) HT_.1 ?_
   refine pureF 1 (N := some 15) HT_.1 ?_
   refine pureF 3 (N := some 17) HT_.1 ?_
   refine pureF 4 (N := some 18) HT_.1 ?_
   refine takeE 2 (N := some 16) HT_.1 HW_.1 hHeld ?_
   refine takeE 5 (N := some 19) HT_.1 HW_.1 hHeld ?_
   refine pureF 6 (N := some 20) HT_.1 ?_
   refine pureF 7 (N := some 21) HT_.1 ?_
   refine takeE 8 (N := some 22) HT_.1 HW_.1 hHeld ?_
   refine last_ (i := 9) (N := some 23) #[Yy,Yy,Yy,Yy,Yy,Yy,Yy,Yy,Yy,Yy,Zz,Zz] rfl rfl (one_of HT_.1 (by kernel_rfl)) (by decide) (fun K hK => ?_)
   refine value_ (w1 := ?_) (v := ?_) (by rfl) rfl ?_ ?_
   rotate_left 2
   · go_simp
     constructor
     · rfl
     rfl
   refine hK.out _ _ ?_
   clear hK K
   refine norm_ (a' := ?_) ?_ ?_
   rotate_left
   · show Act.put _ (some 23) _ = _
     simp only [Act.put, List.setIfInBounds_toArray, List.set_cons_zero, List.set_cons_succ, i64_w, i32_w]
     rfl
   refine last_ (i := 10) (N := some 24) #[Yy,Yy,Yy,Yy,Yy,Yy,Yy,Yy,Yy,Yy,Yy,Zz] rfl rfl (one_of HT_.1 (by kernel_rfl)) (by decide) (fun K hK => ?_)
   refine R_append_step (Kd.int .i64) (w0 := w) w.heap.size (by rfl) (.tmp 14) (.tmp 23) 38 3 (.int .i64 0) 8 rfl Try.underlying38 info3 rfl (by decide) (by omega) u3 x3_1 ((rd_T83 l0_2 (rd (rd_L3 t536 x10_1) 0)).f1) [.int .i64 ((rd_T83 l0_2 (rd (rd_L3 t536 x10_1) 0)).f1)] (fun _ => True) (fun _ => False) rfl rfl ?aP (fun _ hk => hk.elim) ?aF ?aO ?aB ?aS ?aL ?_
   (case aP => exact rfl)
   (case aB => exact (BL HB.1))
   (case aF => exact (fun _ _ => trivial))
   (case aO => exact (PR HO_3.1))
   (case aS => exact (bZ HB.1))
   (case aL => have := LMc15.1; omega)
   intro v543 w17 ho hb hg hat
   rw [<- Ny542.1] at ho
   refine E5 (S_after (ok := (fun _ => True)) (SPE (S_mono HO_8.1 (fun _ hk => ⟨trivial, hk⟩))) hg hat) (bG BK532.1 hg (R_ne HO_3.1 BK532.1 (by decide))) (R_after (ok := (fun k_ => some k_ ≠ (.slice (some ad539) t536.length co8 : Value).ownBlock)) (RPE (R_mono HL539_0.1 (fun _ hk => ⟨hk.2, hk.1⟩))) hg hat) (hb) (ho) ?_
   clear HO_8 BK532 HL539_0 HB HO_3
   intro HO_8 BK532 HL539_0 HB HO544
   clear ho hb hg hat
   refine hK.out _ _ ?_
   clear hK K
   refine norm_ (a' := ?_) ?_ ?_
   rotate_left
   · show Act.put _ (some 24) _ = _
     simp only [Act.put, List.setIfInBounds_toArray, List.set_cons_zero, List.set_cons_succ, i64_w, i32_w]
     rfl
   refine pureF 11 (N := some 3) HT_.1 ?_
   refine done_ (done_of HT_.1 (by kernel_rfl)) ?_
   try go_wp2
   go_roundg k1
   case measure => have := HK1.1; omega
   case rel => exact ⟨(y542), (wrap64 (x10_1 + 1)), RG, H', ⟨by have := HK1.1; omega⟩, ⟨PR HO544.1⟩, ⟨SPE (S_mono HO_8.1 (fun _ hk => hk.2))⟩, ⟨PB BK532.1⟩, ⟨BL HB.1⟩⟩
 obtain rfl := Option.some.inj H
 go_wp2
 go_ret
 exact ⟨_, RF, RPE (HO_3.1), BL HB.1⟩
end Go.Proofs.Ytbpfdbjnnlmdjaa.P
