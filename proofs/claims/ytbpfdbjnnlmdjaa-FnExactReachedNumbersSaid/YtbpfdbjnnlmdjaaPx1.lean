import Derived.Test.YtbpfdbjnnlmdjaaPx0
namespace Go.Proofs.Ytbpfdbjnnlmdjaa.P
open Go.RowKit Go.Proofs.YtbpfdbjnnlmdjaaW.PrintWords Go.Proofs.YtbpfdbjnnlmdjaaW.PrintLast Go.Proofs.YtbpfdbjnnlmdjaaW.PrintMore
attribute [local go_sem] max2_int min2_int max_two min_two max_three min_three max_four min_four
set_option linter.unusedVariables false
set_option linter.unusedSimpArgs false
set_option maxHeartbeats 8000000
set_option maxRecDepth 100000
open Kd
def laws_szCellS.f (l0 : List (S85)) (a1 : Int) : Option (Int) := if (wrap64 (a1 - (l0.length : Int))) < 0 then (some (-1)) else (some (wrap64 (a1 - (l0.length : Int))))
theorem laws_szCellS.calls (A0 : Option Addr) (c0 : Nat) (l0 : List (S85)) (a1 : Int) (r : Int) (w : World) (hr0 : Kd.C k85 w A0 l0.length l0) (hc0 : l0.length <= c0) (h : laws_szCellS.f l0 a1 = some r) :
 Calls Try.prog 41 #[.slice A0 l0.length c0, .int .i64 a1] w fun e w' => e = .returned (.int .i64 r) /\ Drawn0 w w' := by
 have HR0 := Aside0.mk hr0
 have HC0 := Aside0.mk hc0
 clear hr0 hc0
 have H := h
 clear h
 unfold laws_szCellS.f at H
 replace H := ifB H; rcases H with ⟨c3b0, H⟩ | ⟨c3b0, H⟩
 · obtain rfl := Option.some.inj H
   go_enter Try.func41, Try.ntmps41
   go_wp2
   go_ret
   exact ⟨RG, DR⟩
 obtain rfl := Option.some.inj H
 go_enter Try.func41, Try.ntmps41
 go_wp2
 go_ret
 exact ⟨RG, DR⟩
def laws_szBoard.f (a0_0 : Int) (a0_1 : Int) (l0_2 : List (S85)) (a1 : Int) : Option (Int) := (laws_szCellS.f l0_2 a1).bind fun t102 => (if t102 < 0 then (some (-1)) else (some t102))
theorem laws_szBoard.calls (a0_0 : Int) (a0_1 : Int) (A0_2 : Option Addr) (c0_2 : Nat) (l0_2 : List (S85)) (a1 : Int) (r : Int) (w : World) (hr0_2 : Kd.C k85 w A0_2 l0_2.length l0_2) (hc0_2 : l0_2.length <= c0_2) (h : laws_szBoard.f a0_0 a0_1 l0_2 a1 = some r) :
 Calls Try.prog 13 #[.agg #[.int .i64 a0_0, .int .i64 a0_1, .slice A0_2 l0_2.length c0_2], .int .i64 a1] w fun e w' => e = .returned (.int .i64 r) /\ Below w.heap.size w w' := by
 have hu24 := Try.underlying24
 have HR0_2 := Aside0.mk hr0_2
 have HC0_2 := Aside0.mk hc0_2
 clear hr0_2 hc0_2
 have HB := Aside0.mk (Below.refl w.heap.size w)
 have H := h
 clear h
 unfold laws_szBoard.f at H
 replace H := bindA H; obtain ⟨t102, A3, H⟩ := H
 replace H := ifB H; rcases H with ⟨c4b0, H⟩ | ⟨c4b0, H⟩
 · obtain rfl := Option.some.inj H
   go_enter Try.func13, Try.ntmps13
   go_wp2_with (first | ((with_reducible refine gate_dst (N := 2) rfl ?_); refine boxE (cs := #[.int .i64 a0_0, .int .i64 a0_1, .slice A0_2 l0_2.length c0_2]) (t := 24) ?_; intro gb101 hg w5 hbox hb; refine E4b HB.1 hg hbox hb ?_; clear HB; intro HB BK101 GW101 GE101; clear hb hbox hg; obtain ⟨hcz6_0, hcz6_1, hcz6_2, hfz6_0, hfz6_1, hfz6_2⟩ := cz3 BK101.1) | ((with_reducible refine gate_callee (f := 41) rfl ?_); refine goesM (N := (some 8)) #[.slice A0_2 l0_2.length c0_2, .int .i64 a1] Try.func41 ?_; (with_reducible refine (laws_szCellS.calls _ _ l0_2 a1 t102 _ ?side1 ?side2 A3.1).mono ?_); (case side1 => exact CB (C_below HR0_2.1 HB.1)); (case side2 => exact HC0_2.1); rintro e w' ⟨rfl, ⟨nd, rfl⟩⟩; refine ⟨_, rfl, ?_⟩))
   go_ret
   exact ⟨RF, BL HB.1⟩
 obtain rfl := Option.some.inj H
 go_enter Try.func13, Try.ntmps13
 go_wp2_with (first | ((with_reducible refine gate_dst (N := 2) rfl ?_); refine boxE (cs := #[.int .i64 a0_0, .int .i64 a0_1, .slice A0_2 l0_2.length c0_2]) (t := 24) ?_; intro gb101 hg w7 hbox hb; refine E4b HB.1 hg hbox hb ?_; clear HB; intro HB BK101 GW101 GE101; clear hb hbox hg; obtain ⟨hcz8_0, hcz8_1, hcz8_2, hfz8_0, hfz8_1, hfz8_2⟩ := cz3 BK101.1) | ((with_reducible refine gate_callee (f := 41) rfl ?_); refine goesM (N := (some 8)) #[.slice A0_2 l0_2.length c0_2, .int .i64 a1] Try.func41 ?_; (with_reducible refine (laws_szCellS.calls _ _ l0_2 a1 t102 _ ?side1 ?side2 A3.1).mono ?_); (case side1 => exact CB (C_below HR0_2.1 HB.1)); (case side2 => exact HC0_2.1); rintro e w' ⟨rfl, ⟨nd, rfl⟩⟩; refine ⟨_, rfl, ?_⟩))
 go_ret
 exact ⟨RF, BL HB.1⟩
def spec_l1In.f (a0 : Int) (a1 : Int) (a2 : Int) : Option (Bool) := if a0 ≥ a1 then (some (decide (a0 <= a2))) else (some false)
theorem spec_l1In.calls (a0 : Int) (a1 : Int) (a2 : Int) (r : Bool) (w : World) (h : spec_l1In.f a0 a1 a2 = some r) :
 Calls Try.prog 55 #[.int .i64 a0, .int .i64 a1, .int .i64 a2] w fun e w' => e = .returned (.bool r) /\ Drawn0 w w' := by
 have H := h
 clear h
 unfold spec_l1In.f at H
 replace H := ifQ H; rcases H with ⟨c4, H⟩ | ⟨c4, H⟩
 · have c4b0 : decide (a1 <= a0) = true := decide_eq_true c4
   clear c4
   obtain rfl := Option.some.inj H
   go_enter Try.func55, Try.ntmps55
   go_wp2
   go_ret
   exact ⟨RG, DR⟩
 have c4b0 : decide (a1 <= a0) = false := decide_eq_false c4
 clear c4
 obtain rfl := Option.some.inj H
 go_enter Try.func55, Try.ntmps55
 go_wp2
 go_ret
 exact ⟨RG, DR⟩
def spec_ggGear.f (a0_0 : Int) (a0_1 : Int) : Option (Bool) := if a0_0 = 6 then (some true) else (some (a0_0 == 7))
theorem spec_ggGear.calls (a0_0 : Int) (a0_1 : Int) (r : Bool) (w : World) (h : spec_ggGear.f a0_0 a0_1 = some r) :
 Calls Try.prog 91 #[.agg #[.int .i64 a0_0, .int .i64 a0_1]] w fun e w' => e = .returned (.bool r) /\ Below w.heap.size w w' := by
 have hu83 := Try.underlying83
 have HB := Aside0.mk (Below.refl w.heap.size w)
 have H := h
 clear h
 unfold spec_ggGear.f at H
 replace H := ifQ H; rcases H with ⟨c2, H⟩ | ⟨c2, H⟩
 · have c2b0 := beq_iff_eq.mpr c2
   have c2b1 := bne_eq_false_iff_eq.mpr c2
   clear c2
   obtain rfl := Option.some.inj H
   go_enter Try.func91, Try.ntmps91
   go_wp2_with (first | ((with_reducible refine gate_dst (N := 1) rfl ?_); refine boxE (cs := #[.int .i64 a0_0, .int .i64 a0_1]) (t := 83) ?_; intro gb103 hg w3 hbox hb; refine E4b HB.1 hg hbox hb ?_; clear HB; intro HB BK103 GW103 GE103; clear hb hbox hg; obtain ⟨hcz4_0, hcz4_1, hfz4_0, hfz4_1⟩ := cz2 BK103.1))
   go_ret
   exact ⟨RF, BL HB.1⟩
 have c2b0 := beq_eq_false_iff_ne.mpr c2
 have c2b1 := bne_iff_ne.mpr c2
 obtain rfl := Option.some.inj H
 go_enter Try.func91, Try.ntmps91
 go_wp2_with (first | ((with_reducible refine gate_dst (N := 1) rfl ?_); refine boxE (cs := #[.int .i64 a0_0, .int .i64 a0_1]) (t := 83) ?_; intro gb103 hg w5 hbox hb; refine E4b HB.1 hg hbox hb ?_; clear HB; intro HB BK103 GW103 GE103; clear hb hbox hg; obtain ⟨hcz6_0, hcz6_1, hfz6_0, hfz6_1⟩ := cz2 BK103.1))
 go_ret
 exact ⟨RF, BL HB.1⟩
mutual
def spec_ggNear.j0 : Nat -> Int -> Int -> Int -> List Int -> Int -> Int -> List (S83) -> Option (List Int)
 | 0, _, _, _, _, _, _, _ => none
 | k + 1, x1, x5, x6, x7, x105000, x105001, x105002 => if x6 > 0 then (if x7.length < 17592186044416 then (spec_ggNear.j1 k x1 x5 x6 (x7 ++ [wrap64 (x1 - 1)]) x105000 x105001 x105002) else (none)) else (spec_ggNear.j1 k x1 x5 x6 x7 x105000 x105001 x105002)
def spec_ggNear.j1 : Nat -> Int -> Int -> Int -> List Int -> Int -> Int -> List (S83) -> Option (List Int)
 | 0, _, _, _, _, _, _, _ => none
 | k + 1, x1, x5, x6, x7, x105000, x105001, x105002 => if (wrap64 (x6 + 1)) < x105001 then (if x7.length < 17592186044416 then ((some (x7 ++ [wrap64 (x1 + 1)] : List Int)).bind fun y111 => (if (wrap64 (x5 + 1)) < x105000 then (if y111.length < 17592186044416 then (some (y111 ++ [wrap64 (x1 + x105001)])) else (none)) else (some y111))) else (none)) else (if (wrap64 (x5 + 1)) < x105000 then (if x7.length < 17592186044416 then (some (x7 ++ [wrap64 (x1 + x105001)])) else (none)) else (some x7))
end
def spec_ggNear.f (k : Nat) (a0_0 : Int) (a0_1 : Int) (l0_2 : List (S83)) (a1 : Int) : Option (List Int) := if a0_1 = 0 then (none) else (if (wrap64 (Int.tdiv a1 a0_1)) > 0 then (if ([] : List Int).length < 17592186044416 then (spec_ggNear.j0 k a1 (wrap64 (Int.tdiv a1 a0_1)) (Int.tmod a1 a0_1) (([] : List Int) ++ [wrap64 (a1 - a0_1)]) a0_0 a0_1 l0_2) else (none)) else (spec_ggNear.j0 k a1 (wrap64 (Int.tdiv a1 a0_1)) (Int.tmod a1 a0_1) ([] : List Int) a0_0 a0_1 l0_2))
theorem spec_ggNear.mono_l : ∀ k, (∀ y0 y1 y2 y3 y4 y5 y6, LeO (spec_ggNear.j0 k y0 y1 y2 y3 y4 y5 y6) (spec_ggNear.j0 (k + 1) y0 y1 y2 y3 y4 y5 y6)) /\ (∀ y0 y1 y2 y3 y4 y5 y6, LeO (spec_ggNear.j1 k y0 y1 y2 y3 y4 y5 y6) (spec_ggNear.j1 (k + 1) y0 y1 y2 y3 y4 y5 y6))
 | 0 => by refine ⟨?_, ?_⟩ <;> (intros; intro r h; first | (simp [spec_ggNear.j0] at h; done) | (simp [spec_ggNear.j1] at h; done))
 | k + 1 => by
  obtain ⟨ih0, ih1⟩ := spec_ggNear.mono_l k
  refine ⟨?_, ?_⟩ <;> (
   intros
   first | unfold spec_ggNear.j0 | unfold spec_ggNear.j1
   exact LM2 ih0 ih1)
theorem spec_ggNear.mono : ∀ a0 a1 a2 a3 k, LeO (spec_ggNear.f k a0 a1 a2 a3) (spec_ggNear.f (k + 1) a0 a1 a2 a3) := by
 intro a0 a1 a2 a3 k
 obtain ⟨ih0, ih1⟩ := spec_ggNear.mono_l k
 unfold spec_ggNear.f
 exact LM2 ih0 ih1
theorem spec_ggNear.calls (k : Nat) (a0_0 : Int) (a0_1 : Int) (A0_2 : Option Addr) (c0_2 : Nat) (l0_2 : List (S83)) (a1 : Int) (r : List Int) (w : World) (hr0_2 : Kd.C k83 w A0_2 l0_2.length l0_2) (hc0_2 : l0_2.length <= c0_2) (h : spec_ggNear.f k a0_0 a0_1 l0_2 a1 = some r) :
 Calls Try.prog 92 #[.agg #[.int .i64 a0_0, .int .i64 a0_1, .slice A0_2 l0_2.length c0_2], .int .i64 a1] w fun e w' => ∃ v0_ : Value, e = .returned (v0_) /\ Kd.R (Kd.int .i64) 3 w' w.heap.size (fun _ => True) v0_ r /\ Below w.heap.size w w' := by
 have hu30 := Try.underlying30
 have HR0_2 := Aside0.mk hr0_2
 have HC0_2 := Aside0.mk hc0_2
 clear hr0_2 hc0_2
 have HB := Aside0.mk (Below.refl w.heap.size w)
 have H := h
 clear h
 unfold spec_ggNear.f at H
 replace H := ifQ H; rcases H with ⟨c3, H⟩ | ⟨c3, H⟩
 · exact absurd H (by simp)
 have c3b0 := beq_eq_false_iff_ne.mpr c3
 have c3b1 := bne_iff_ne.mpr c3
 have HC4 := Aside0.mk H
 clear H
 go_enter Try.func92, Try.ntmps92
 go_upto_if 17 with (first | ((with_reducible refine gate_dst (N := 2) rfl ?_); refine boxE (cs := #[.int .i64 a0_0, .int .i64 a0_1, .slice A0_2 l0_2.length c0_2]) (t := 30) ?_; intro gb104 hg w5 hbox hb; refine E4b HB.1 hg hbox hb ?_; clear HB; intro HB BK104 GW104 GE104; clear hb hbox hg; obtain ⟨hcz6_0, hcz6_1, hcz6_2, hfz6_0, hfz6_1, hfz6_2⟩ := cz3 BK104.1))
 repeat (go_quiet (first | ((with_reducible refine gate_dst (N := 2) rfl ?_); refine boxE (cs := #[.int .i64 a0_0, .int .i64 a0_1, .slice A0_2 l0_2.length c0_2]) (t := 30) ?_; intro gb104 hg w5 hbox hb; refine E4b HB.1 hg hbox hb ?_; clear HB; intro HB BK104 GW104 GE104; clear hb hbox hg; obtain ⟨hcz6_0, hcz6_1, hcz6_2, hfz6_0, hfz6_1, hfz6_2⟩ := cz3 BK104.1)); go_upto_if 17 with (first | ((with_reducible refine gate_dst (N := 2) rfl ?_); refine boxE (cs := #[.int .i64 a0_0, .int .i64 a0_1, .slice A0_2 l0_2.length c0_2]) (t := 30) ?_; intro gb104 hg w5 hbox hb; refine E4b HB.1 hg hbox hb ?_; clear HB; intro HB BK104 GW104 GE104; clear hb hbox hg; obtain ⟨hcz6_0, hcz6_1, hcz6_2, hfz6_0, hfz6_1, hfz6_2⟩ := cz3 BK104.1)))
 (try simp only [Act.put, List.setIfInBounds_toArray, List.set_cons_zero, List.set_cons_succ])
 go_cut [7] (fun v7 wc => ∃ (kq : Nat) (x7_3 : List Int), Aside0 (spec_ggNear.j0 kq a1 (wrap64 (Int.tdiv a1 a0_1)) (Int.tmod a1 a0_1) x7_3 a0_0 a0_1 l0_2 = some r) /\ Aside0 (kq <= k) /\ Aside0 (Kd.R (Kd.int .i64) 3 wc w.heap.size (fun _ => True) v7 x7_3) /\ Aside0 (wc.heap[gb104]? = some (.cells #[.int .i64 a0_0, .int .i64 a0_1, (.slice A0_2 l0_2.length c0_2)] 30 (0, 0))) /\ Aside0 (Below w.heap.size w wc))
 case first =>
  have H := HC4.1
  clear HC4
  replace H := ifQ H; rcases H with ⟨c7, H⟩ | ⟨c7, H⟩
  · have c7b0 : decide (0 < (wrap64 (Int.tdiv a1 a0_1))) = true := decide_eq_true c7
    clear c7
    (first | rw [c7b0] | (simp only [i64_w, i32_w]; rw [c7b0]) | skip)
    replace H := ifP H; obtain ⟨c8, H⟩ := H
    have LMc8 := Aside0.mk c8
    clear c8
    generalize hy105 : ((([] : List Int) ++ [wrap64 (a1 - a0_1)]) : List Int) = y105 at H
    have Ny105 := Aside0.mk hy105.symm; clear hy105
    have H' := Aside0.mk H
    clear H
    obtain ⟨hcz9_0, hcz9_1, hcz9_2, hfz9_0, hfz9_1, hfz9_2⟩ := cz3 BK104.1
    go_wp2_with (first | ((with_reducible refine gate_builtin (b := .append) (xs := #[.tmp 18, .tmp 23]) rfl ?_); at_builtin; refine R_append (Kd.int .i64) (w0 := w) w.heap.size rfl (.tmp 18) (.tmp 23) 38 3 (.int .i64 0) 8 rfl Try.underlying38 info3 rfl (by decide) (by omega) (.slice none 0 0) ([] : List Int) (wrap64 (a1 - a0_1)) [.int .i64 (wrap64 (a1 - a0_1))] (fun _ => True) (fun _ => False) rfl rfl ?aP (fun _ hk => hk.elim) ?aF ?aO ?aB ?aS ?aL ?_; (case aP => exact rfl); (case aB => exact (BL HB.1)); (case aF => exact (fun _ _ => trivial)); (case aO => exact ((R_nil _ _ _ _ (fun _ => True)))); (case aS => exact (bZ HB.1)); (case aL => have := LMc8.1; omega); intro v106 w10 ho hb hg hat; rw [<- Ny105.1] at ho; refine E3 (bG BK104.1 hg (by simp [Value.ownBlock])) (hb) (ho) ?_; clear BK104 HB; intro BK104 HB HO107; clear ho hb hg hat))
    repeat (go_quiet (first | ((with_reducible refine gate_builtin (b := .append) (xs := #[.tmp 18, .tmp 23]) rfl ?_); at_builtin; refine R_append (Kd.int .i64) (w0 := w) w.heap.size rfl (.tmp 18) (.tmp 23) 38 3 (.int .i64 0) 8 rfl Try.underlying38 info3 rfl (by decide) (by omega) (.slice none 0 0) ([] : List Int) (wrap64 (a1 - a0_1)) [.int .i64 (wrap64 (a1 - a0_1))] (fun _ => True) (fun _ => False) rfl rfl ?aP (fun _ hk => hk.elim) ?aF ?aO ?aB ?aS ?aL ?_; (case aP => exact rfl); (case aB => exact (BL HB.1)); (case aF => exact (fun _ _ => trivial)); (case aO => exact ((R_nil _ _ _ _ (fun _ => True)))); (case aS => exact (bZ HB.1)); (case aL => have := LMc8.1; omega); intro v106 w10 ho hb hg hat; rw [<- Ny105.1] at ho; refine E3 (bG BK104.1 hg (by simp [Value.ownBlock])) (hb) (ho) ?_; clear BK104 HB; intro BK104 HB HO107; clear ho hb hg hat)); try go_wp2_with (first | ((with_reducible refine gate_builtin (b := .append) (xs := #[.tmp 18, .tmp 23]) rfl ?_); at_builtin; refine R_append (Kd.int .i64) (w0 := w) w.heap.size rfl (.tmp 18) (.tmp 23) 38 3 (.int .i64 0) 8 rfl Try.underlying38 info3 rfl (by decide) (by omega) (.slice none 0 0) ([] : List Int) (wrap64 (a1 - a0_1)) [.int .i64 (wrap64 (a1 - a0_1))] (fun _ => True) (fun _ => False) rfl rfl ?aP (fun _ hk => hk.elim) ?aF ?aO ?aB ?aS ?aL ?_; (case aP => exact rfl); (case aB => exact (BL HB.1)); (case aF => exact (fun _ _ => trivial)); (case aO => exact ((R_nil _ _ _ _ (fun _ => True)))); (case aS => exact (bZ HB.1)); (case aL => have := LMc8.1; omega); intro v106 w10 ho hb hg hat; rw [<- Ny105.1] at ho; refine E3 (bG BK104.1 hg (by simp [Value.ownBlock])) (hb) (ho) ?_; clear BK104 HB; intro BK104 HB HO107; clear ho hb hg hat)))
    go_meet
    case rel => exact ⟨_, (y105), H', ⟨by first | omega | exact Nat.le_refl _⟩, ⟨PR HO107.1⟩, ⟨PB BK104.1⟩, ⟨BL HB.1⟩⟩
  have c7b0 : decide (0 < (wrap64 (Int.tdiv a1 a0_1))) = false := decide_eq_false c7
  clear c7
  (first | rw [c7b0] | (simp only [i64_w, i32_w]; rw [c7b0]) | skip)
  have H' := Aside0.mk H
  clear H
  go_wp2
  repeat (go_quiet (fail); try go_wp2)
  go_meet
  case rel => exact ⟨_, (([] : List Int)), H', ⟨by first | omega | exact Nat.le_refl _⟩, ⟨by first | exact R_nil _ _ _ _ _ | exact N_nil _ _ _ _ _ | exact V_nil _ _ _ _ _ | exact Q_nil _ _ _ _ _ | exact S_nil _ _ _ _ _⟩, ⟨PB BK104.1⟩, ⟨BL HB.1⟩⟩
 clear HC4
 try clear c3; clear c3b0 c3b1 hcz6_0 hcz6_1 hcz6_2 hfz6_0 hfz6_1 hfz6_2
 obtain ⟨kq, x7_3, HA, HJ3, HO_7, BK104, HB⟩ := hcut
 cases kq with
 | zero => exact absurd HA.1 (by simp [spec_ggNear.j0])
 | succ kj3 => ?_
 have H := HA.1
 clear HA
 simp only [spec_ggNear.j0] at H
 have HC11 := Aside0.mk H
 clear H
 go_upto_if 26 with (fail)
 repeat (go_quiet (fail); go_upto_if 26 with (fail))
 go_cut [7] (fun v7 wc => ∃ (kq : Nat) (x7_10 : List Int), Aside0 (spec_ggNear.j1 kq a1 (wrap64 (Int.tdiv a1 a0_1)) (Int.tmod a1 a0_1) x7_10 a0_0 a0_1 l0_2 = some r) /\ Aside0 (kq <= kj3) /\ Aside0 (Kd.R (Kd.int .i64) 3 wc w.heap.size (fun _ => True) v7 x7_10) /\ Aside0 (wc.heap[gb104]? = some (.cells #[.int .i64 a0_0, .int .i64 a0_1, (.slice A0_2 l0_2.length c0_2)] 30 (0, 0))) /\ Aside0 (Below w.heap.size w wc))
 case first =>
  have H := HC11.1
  clear HC11
  replace H := ifQ H; rcases H with ⟨c12, H⟩ | ⟨c12, H⟩
  · have c12b0 : decide (0 < (Int.tmod a1 a0_1)) = true := decide_eq_true c12
    clear c12
    (first | rw [c12b0] | (simp only [i64_w, i32_w]; rw [c12b0]) | skip)
    replace H := ifP H; obtain ⟨c13, H⟩ := H
    have LMc13 := Aside0.mk c13
    clear c13
    generalize hy108 : ((x7_3 ++ [wrap64 (a1 - 1)]) : List Int) = y108 at H
    have Ny108 := Aside0.mk hy108.symm; clear hy108
    have H' := Aside0.mk H
    clear H
    go_wp2_with (first | ((with_reducible refine gate_builtin (b := .append) (xs := #[.tmp 27, .tmp 30]) rfl ?_); at_builtin; refine R_append (Kd.int .i64) (w0 := w) w.heap.size rfl (.tmp 27) (.tmp 30) 38 3 (.int .i64 0) 8 rfl Try.underlying38 info3 rfl (by decide) (by omega) u7 x7_3 (wrap64 (a1 - 1)) [.int .i64 (wrap64 (a1 - 1))] (fun _ => True) (fun _ => False) rfl rfl ?aP (fun _ hk => hk.elim) ?aF ?aO ?aB ?aS ?aL ?_; (case aP => exact rfl); (case aB => exact (BL HB.1)); (case aF => exact (fun _ _ => trivial)); (case aO => exact (PR HO_7.1)); (case aS => exact (bZ HB.1)); (case aL => have := LMc13.1; omega); intro v109 w14 ho hb hg hat; rw [<- Ny108.1] at ho; refine E3 (bG BK104.1 hg (R_ne HO_7.1 BK104.1 (by decide))) (hb) (ho) ?_; clear BK104 HB HO_7; intro BK104 HB HO110; clear ho hb hg hat))
    repeat (go_quiet (first | ((with_reducible refine gate_builtin (b := .append) (xs := #[.tmp 27, .tmp 30]) rfl ?_); at_builtin; refine R_append (Kd.int .i64) (w0 := w) w.heap.size rfl (.tmp 27) (.tmp 30) 38 3 (.int .i64 0) 8 rfl Try.underlying38 info3 rfl (by decide) (by omega) u7 x7_3 (wrap64 (a1 - 1)) [.int .i64 (wrap64 (a1 - 1))] (fun _ => True) (fun _ => False) rfl rfl ?aP (fun _ hk => hk.elim) ?aF ?aO ?aB ?aS ?aL ?_; (case aP => exact rfl); (case aB => exact (BL HB.1)); (case aF => exact (fun _ _ => trivial)); (case aO => exact (PR HO_7.1)); (case aS => exact (bZ HB.1)); (case aL => have := LMc13.1; omega); intro v109 w14 ho hb hg hat; rw [<- Ny108.1] at ho; refine E3 (bG BK104.1 hg (R_ne HO_7.1 BK104.1 (by decide))) (hb) (ho) ?_; clear BK104 HB HO_7; intro BK104 HB HO110; clear ho hb hg hat)); try go_wp2_with (first | ((with_reducible refine gate_builtin (b := .append) (xs := #[.tmp 27, .tmp 30]) rfl ?_); at_builtin; refine R_append (Kd.int .i64) (w0 := w) w.heap.size rfl (.tmp 27) (.tmp 30) 38 3 (.int .i64 0) 8 rfl Try.underlying38 info3 rfl (by decide) (by omega) u7 x7_3 (wrap64 (a1 - 1)) [.int .i64 (wrap64 (a1 - 1))] (fun _ => True) (fun _ => False) rfl rfl ?aP (fun _ hk => hk.elim) ?aF ?aO ?aB ?aS ?aL ?_; (case aP => exact rfl); (case aB => exact (BL HB.1)); (case aF => exact (fun _ _ => trivial)); (case aO => exact (PR HO_7.1)); (case aS => exact (bZ HB.1)); (case aL => have := LMc13.1; omega); intro v109 w14 ho hb hg hat; rw [<- Ny108.1] at ho; refine E3 (bG BK104.1 hg (R_ne HO_7.1 BK104.1 (by decide))) (hb) (ho) ?_; clear BK104 HB HO_7; intro BK104 HB HO110; clear ho hb hg hat)))
    go_meet
    case rel => exact ⟨_, (y108), H', ⟨by have := HJ3.1; first | omega | exact Nat.le_refl _⟩, ⟨PR HO110.1⟩, ⟨PB BK104.1⟩, ⟨BL HB.1⟩⟩
  have c12b0 : decide (0 < (Int.tmod a1 a0_1)) = false := decide_eq_false c12
  clear c12
  (first | rw [c12b0] | (simp only [i64_w, i32_w]; rw [c12b0]) | skip)
  have H' := Aside0.mk H
  clear H
  go_wp2
  repeat (go_quiet (fail); try go_wp2)
  go_meet
  case rel => exact ⟨_, (x7_3), H', ⟨by have := HJ3.1; first | omega | exact Nat.le_refl _⟩, ⟨PR HO_7.1⟩, ⟨PB BK104.1⟩, ⟨BL HB.1⟩⟩
 clear HC11
 obtain ⟨kq, x7_10, HA, HJ10, HO_7, BK104, HB⟩ := hcut
 cases kq with
 | zero => exact absurd HA.1 (by simp [spec_ggNear.j1])
 | succ kj10 => ?_
 have H := HA.1
 clear HA
 simp only [spec_ggNear.j1] at H
 replace H := ifB H; rcases H with ⟨c15b0, H⟩ | ⟨c15b0, H⟩
 · replace H := ifP H; obtain ⟨c16, H⟩ := H
   have LMc16 := Aside0.mk c16
   clear c16
   replace H := nameB H; obtain ⟨y111, Ny111, H⟩ := H
   replace H := ifB H; rcases H with ⟨c17b0, H⟩ | ⟨c17b0, H⟩
   · replace H := ifP H; obtain ⟨c18, H⟩ := H
     have LMc18 := Aside0.mk c18
     clear c18
     generalize hy114 : ((y111 ++ [wrap64 (a1 + a0_1)]) : List Int) = y114 at H
     have Ny114 := Aside0.mk hy114.symm; clear hy114
     obtain rfl := Option.some.inj H
     obtain ⟨hcz19_0, hcz19_1, hcz19_2, hfz19_0, hfz19_1, hfz19_2⟩ := cz3 BK104.1
     go_wp2_with (first | ((with_reducible refine gate_builtin (b := .append) (xs := #[.tmp 37, .tmp 40]) rfl ?_); at_builtin; refine R_append (Kd.int .i64) (w0 := w) w.heap.size rfl (.tmp 37) (.tmp 40) 38 3 (.int .i64 0) 8 rfl Try.underlying38 info3 rfl (by decide) (by omega) u7 x7_10 (wrap64 (a1 + 1)) [.int .i64 (wrap64 (a1 + 1))] (fun _ => True) (fun _ => False) rfl rfl ?aP (fun _ hk => hk.elim) ?aF ?aO ?aB ?aS ?aL ?_; (case aP => exact rfl); (case aB => exact (BL HB.1)); (case aF => exact (fun _ _ => trivial)); (case aO => exact (PR HO_7.1)); (case aS => exact (bZ HB.1)); (case aL => have := LMc16.1; omega); intro v112 w20 ho hb hg hat; rw [<- Ny111.1] at ho; refine E3 (bG BK104.1 hg (R_ne HO_7.1 BK104.1 (by decide))) (hb) (ho) ?_; clear BK104 HB HO_7; intro BK104 HB HO113; clear ho hb hg hat; obtain ⟨hcz21_0, hcz21_1, hcz21_2, hfz21_0, hfz21_1, hfz21_2⟩ := cz3 BK104.1) | ((with_reducible refine gate_builtin (b := .append) (xs := #[.tmp 47, .tmp 52]) rfl ?_); at_builtin; refine R_append (Kd.int .i64) (w0 := w) w.heap.size rfl (.tmp 47) (.tmp 52) 38 3 (.int .i64 0) 8 rfl Try.underlying38 info3 rfl (by decide) (by omega) v112 y111 (wrap64 (a1 + a0_1)) [.int .i64 (wrap64 (a1 + a0_1))] (fun _ => True) (fun _ => False) rfl rfl ?aP (fun _ hk => hk.elim) ?aF ?aO ?aB ?aS ?aL ?_; (case aP => exact rfl); (case aB => exact (BL HB.1)); (case aF => exact (fun _ _ => trivial)); (case aO => exact (PR HO113.1)); (case aS => exact (bZ HB.1)); (case aL => have := LMc18.1; omega); intro v115 w22 ho hb hg hat; rw [<- Ny114.1] at ho; refine E3 (bG BK104.1 hg (R_ne HO113.1 BK104.1 (by decide))) (hb) (ho) ?_; clear BK104 HB HO113; intro BK104 HB HO116; clear ho hb hg hat))
     repeat (go_quiet (first | ((with_reducible refine gate_builtin (b := .append) (xs := #[.tmp 37, .tmp 40]) rfl ?_); at_builtin; refine R_append (Kd.int .i64) (w0 := w) w.heap.size rfl (.tmp 37) (.tmp 40) 38 3 (.int .i64 0) 8 rfl Try.underlying38 info3 rfl (by decide) (by omega) u7 x7_10 (wrap64 (a1 + 1)) [.int .i64 (wrap64 (a1 + 1))] (fun _ => True) (fun _ => False) rfl rfl ?aP (fun _ hk => hk.elim) ?aF ?aO ?aB ?aS ?aL ?_; (case aP => exact rfl); (case aB => exact (BL HB.1)); (case aF => exact (fun _ _ => trivial)); (case aO => exact (PR HO_7.1)); (case aS => exact (bZ HB.1)); (case aL => have := LMc16.1; omega); intro v112 w20 ho hb hg hat; rw [<- Ny111.1] at ho; refine E3 (bG BK104.1 hg (R_ne HO_7.1 BK104.1 (by decide))) (hb) (ho) ?_; clear BK104 HB HO_7; intro BK104 HB HO113; clear ho hb hg hat; obtain ⟨hcz21_0, hcz21_1, hcz21_2, hfz21_0, hfz21_1, hfz21_2⟩ := cz3 BK104.1) | ((with_reducible refine gate_builtin (b := .append) (xs := #[.tmp 47, .tmp 52]) rfl ?_); at_builtin; refine R_append (Kd.int .i64) (w0 := w) w.heap.size rfl (.tmp 47) (.tmp 52) 38 3 (.int .i64 0) 8 rfl Try.underlying38 info3 rfl (by decide) (by omega) v112 y111 (wrap64 (a1 + a0_1)) [.int .i64 (wrap64 (a1 + a0_1))] (fun _ => True) (fun _ => False) rfl rfl ?aP (fun _ hk => hk.elim) ?aF ?aO ?aB ?aS ?aL ?_; (case aP => exact rfl); (case aB => exact (BL HB.1)); (case aF => exact (fun _ _ => trivial)); (case aO => exact (PR HO113.1)); (case aS => exact (bZ HB.1)); (case aL => have := LMc18.1; omega); intro v115 w22 ho hb hg hat; rw [<- Ny114.1] at ho; refine E3 (bG BK104.1 hg (R_ne HO113.1 BK104.1 (by decide))) (hb) (ho) ?_; clear BK104 HB HO113; intro BK104 HB HO116; clear ho hb hg hat)); try go_wp2_with (first | ((with_reducible refine gate_builtin (b := .append) (xs := #[.tmp 37, .tmp 40]) rfl ?_); at_builtin; refine R_append (Kd.int .i64) (w0 := w) w.heap.size rfl (.tmp 37) (.tmp 40) 38 3 (.int .i64 0) 8 rfl Try.underlying38 info3 rfl (by decide) (by omega) u7 x7_10 (wrap64 (a1 + 1)) [.int .i64 (wrap64 (a1 + 1))] (fun _ => True) (fun _ => False) rfl rfl ?aP (fun _ hk => hk.elim) ?aF ?aO ?aB ?aS ?aL ?_; (case aP => exact rfl); (case aB => exact (BL HB.1)); (case aF => exact (fun _ _ => trivial)); (case aO => exact (PR HO_7.1)); (case aS => exact (bZ HB.1)); (case aL => have := LMc16.1; omega); intro v112 w20 ho hb hg hat; rw [<- Ny111.1] at ho; refine E3 (bG BK104.1 hg (R_ne HO_7.1 BK104.1 (by decide))) (hb) (ho) ?_; clear BK104 HB HO_7; intro BK104 HB HO113; clear ho hb hg hat; obtain ⟨hcz21_0, hcz21_1, hcz21_2, hfz21_0, hfz21_1, hfz21_2⟩ := cz3 BK104.1) | ((with_reducible refine gate_builtin (b := .append) (xs := #[.tmp 47, .tmp 52]) rfl ?_); at_builtin; refine R_append (Kd.int .i64) (w0 := w) w.heap.size rfl (.tmp 47) (.tmp 52) 38 3 (.int .i64 0) 8 rfl Try.underlying38 info3 rfl (by decide) (by omega) v112 y111 (wrap64 (a1 + a0_1)) [.int .i64 (wrap64 (a1 + a0_1))] (fun _ => True) (fun _ => False) rfl rfl ?aP (fun _ hk => hk.elim) ?aF ?aO ?aB ?aS ?aL ?_; (case aP => exact rfl); (case aB => exact (BL HB.1)); (case aF => exact (fun _ _ => trivial)); (case aO => exact (PR HO113.1)); (case aS => exact (bZ HB.1)); (case aL => have := LMc18.1; omega); intro v115 w22 ho hb hg hat; rw [<- Ny114.1] at ho; refine E3 (bG BK104.1 hg (R_ne HO113.1 BK104.1 (by decide))) (hb) (ho) ?_; clear BK104 HB HO113; intro BK104 HB HO116; clear ho hb hg hat)))
     go_ret
     exact ⟨_, RF, RPE (HO116.1), BL HB.1⟩
   obtain rfl := Option.some.inj H
   obtain ⟨hcz23_0, hcz23_1, hcz23_2, hfz23_0, hfz23_1, hfz23_2⟩ := cz3 BK104.1
   go_wp2_with (first | ((with_reducible refine gate_builtin (b := .append) (xs := #[.tmp 37, .tmp 40]) rfl ?_); at_builtin; refine R_append (Kd.int .i64) (w0 := w) w.heap.size rfl (.tmp 37) (.tmp 40) 38 3 (.int .i64 0) 8 rfl Try.underlying38 info3 rfl (by decide) (by omega) u7 x7_10 (wrap64 (a1 + 1)) [.int .i64 (wrap64 (a1 + 1))] (fun _ => True) (fun _ => False) rfl rfl ?aP (fun _ hk => hk.elim) ?aF ?aO ?aB ?aS ?aL ?_; (case aP => exact rfl); (case aB => exact (BL HB.1)); (case aF => exact (fun _ _ => trivial)); (case aO => exact (PR HO_7.1)); (case aS => exact (bZ HB.1)); (case aL => have := LMc16.1; omega); intro v112 w24 ho hb hg hat; rw [<- Ny111.1] at ho; refine E3 (bG BK104.1 hg (R_ne HO_7.1 BK104.1 (by decide))) (hb) (ho) ?_; clear BK104 HB HO_7; intro BK104 HB HO113; clear ho hb hg hat; obtain ⟨hcz25_0, hcz25_1, hcz25_2, hfz25_0, hfz25_1, hfz25_2⟩ := cz3 BK104.1))
   repeat (go_quiet (first | ((with_reducible refine gate_builtin (b := .append) (xs := #[.tmp 37, .tmp 40]) rfl ?_); at_builtin; refine R_append (Kd.int .i64) (w0 := w) w.heap.size rfl (.tmp 37) (.tmp 40) 38 3 (.int .i64 0) 8 rfl Try.underlying38 info3 rfl (by decide) (by omega) u7 x7_10 (wrap64 (a1 + 1)) [.int .i64 (wrap64 (a1 + 1))] (fun _ => True) (fun _ => False) rfl rfl ?aP (fun _ hk => hk.elim) ?aF ?aO ?aB ?aS ?aL ?_; (case aP => exact rfl); (case aB => exact (BL HB.1)); (case aF => exact (fun _ _ => trivial)); (case aO => exact (PR HO_7.1)); (case aS => exact (bZ HB.1)); (case aL => have := LMc16.1; omega); intro v112 w24 ho hb hg hat; rw [<- Ny111.1] at ho; refine E3 (bG BK104.1 hg (R_ne HO_7.1 BK104.1 (by decide))) (hb) (ho) ?_; clear BK104 HB HO_7; intro BK104 HB HO113; clear ho hb hg hat; obtain ⟨hcz25_0, hcz25_1, hcz25_2, hfz25_0, hfz25_1, hfz25_2⟩ := cz3 BK104.1)); try go_wp2_with (first | ((with_reducible refine gate_builtin (b := .append) (xs := #[.tmp 37, .tmp 40]) rfl ?_); at_builtin; refine R_append (Kd.int .i64) (w0 := w) w.heap.size rfl (.tmp 37) (.tmp 40) 38 3 (.int .i64 0) 8 rfl Try.underlying38 info3 rfl (by decide) (by omega) u7 x7_10 (wrap64 (a1 + 1)) [.int .i64 (wrap64 (a1 + 1))] (fun _ => True) (fun _ => False) rfl rfl ?aP (fun _ hk => hk.elim) ?aF ?aO ?aB ?aS ?aL ?_; (case aP => exact rfl); (case aB => exact (BL HB.1)); (case aF => exact (fun _ _ => trivial)); (case aO => exact (PR HO_7.1)); (case aS => exact (bZ HB.1)); (case aL => have := LMc16.1; omega); intro v112 w24 ho hb hg hat; rw [<- Ny111.1] at ho; refine E3 (bG BK104.1 hg (R_ne HO_7.1 BK104.1 (by decide))) (hb) (ho) ?_; clear BK104 HB HO_7; intro BK104 HB HO113; clear ho hb hg hat; obtain ⟨hcz25_0, hcz25_1, hcz25_2, hfz25_0, hfz25_1, hfz25_2⟩ := cz3 BK104.1)))
   go_ret
   exact ⟨_, RF, RPE (HO113.1), BL HB.1⟩
 replace H := ifB H; rcases H with ⟨c26b0, H⟩ | ⟨c26b0, H⟩
 · replace H := ifP H; obtain ⟨c27, H⟩ := H
   have LMc27 := Aside0.mk c27
   clear c27
   generalize hy117 : ((x7_10 ++ [wrap64 (a1 + a0_1)]) : List Int) = y117 at H
   have Ny117 := Aside0.mk hy117.symm; clear hy117
   obtain rfl := Option.some.inj H
   obtain ⟨hcz28_0, hcz28_1, hcz28_2, hfz28_0, hfz28_1, hfz28_2⟩ := cz3 BK104.1
   go_wp2_with (first | ((with_reducible refine gate_builtin (b := .append) (xs := #[.tmp 47, .tmp 52]) rfl ?_); at_builtin; refine R_append (Kd.int .i64) (w0 := w) w.heap.size rfl (.tmp 47) (.tmp 52) 38 3 (.int .i64 0) 8 rfl Try.underlying38 info3 rfl (by decide) (by omega) u7 x7_10 (wrap64 (a1 + a0_1)) [.int .i64 (wrap64 (a1 + a0_1))] (fun _ => True) (fun _ => False) rfl rfl ?aP (fun _ hk => hk.elim) ?aF ?aO ?aB ?aS ?aL ?_; (case aP => exact rfl); (case aB => exact (BL HB.1)); (case aF => exact (fun _ _ => trivial)); (case aO => exact (PR HO_7.1)); (case aS => exact (bZ HB.1)); (case aL => have := LMc27.1; omega); intro v118 w29 ho hb hg hat; rw [<- Ny117.1] at ho; refine E3 (bG BK104.1 hg (R_ne HO_7.1 BK104.1 (by decide))) (hb) (ho) ?_; clear BK104 HB HO_7; intro BK104 HB HO119; clear ho hb hg hat))
   repeat (go_quiet (first | ((with_reducible refine gate_builtin (b := .append) (xs := #[.tmp 47, .tmp 52]) rfl ?_); at_builtin; refine R_append (Kd.int .i64) (w0 := w) w.heap.size rfl (.tmp 47) (.tmp 52) 38 3 (.int .i64 0) 8 rfl Try.underlying38 info3 rfl (by decide) (by omega) u7 x7_10 (wrap64 (a1 + a0_1)) [.int .i64 (wrap64 (a1 + a0_1))] (fun _ => True) (fun _ => False) rfl rfl ?aP (fun _ hk => hk.elim) ?aF ?aO ?aB ?aS ?aL ?_; (case aP => exact rfl); (case aB => exact (BL HB.1)); (case aF => exact (fun _ _ => trivial)); (case aO => exact (PR HO_7.1)); (case aS => exact (bZ HB.1)); (case aL => have := LMc27.1; omega); intro v118 w29 ho hb hg hat; rw [<- Ny117.1] at ho; refine E3 (bG BK104.1 hg (R_ne HO_7.1 BK104.1 (by decide))) (hb) (ho) ?_; clear BK104 HB HO_7; intro BK104 HB HO119; clear ho hb hg hat)); try go_wp2_with (first | ((with_reducible refine gate_builtin (b := .append) (xs := #[.tmp 47, .tmp 52]) rfl ?_); at_builtin; refine R_append (Kd.int .i64) (w0 := w) w.heap.size rfl (.tmp 47) (.tmp 52) 38 3 (.int .i64 0) 8 rfl Try.underlying38 info3 rfl (by decide) (by omega) u7 x7_10 (wrap64 (a1 + a0_1)) [.int .i64 (wrap64 (a1 + a0_1))] (fun _ => True) (fun _ => False) rfl rfl ?aP (fun _ hk => hk.elim) ?aF ?aO ?aB ?aS ?aL ?_; (case aP => exact rfl); (case aB => exact (BL HB.1)); (case aF => exact (fun _ _ => trivial)); (case aO => exact (PR HO_7.1)); (case aS => exact (bZ HB.1)); (case aL => have := LMc27.1; omega); intro v118 w29 ho hb hg hat; rw [<- Ny117.1] at ho; refine E3 (bG BK104.1 hg (R_ne HO_7.1 BK104.1 (by decide))) (hb) (ho) ?_; clear BK104 HB HO_7; intro BK104 HB HO119; clear ho hb hg hat)))
   go_ret
   exact ⟨_, RF, RPE (HO119.1), BL HB.1⟩
 obtain rfl := Option.some.inj H
 obtain ⟨hcz30_0, hcz30_1, hcz30_2, hfz30_0, hfz30_1, hfz30_2⟩ := cz3 BK104.1
 go_wp2
 repeat (go_quiet (fail); try go_wp2)
 go_ret
 exact ⟨_, RF, RPE (HO_7.1), BL HB.1⟩
mutual
def spec_ggGroups.l0 : Nat -> List Int -> Int -> Int -> Int -> Int -> List (S83) -> Option (List Int)
 | 0, _, _, _, _, _, _ => none
 | k + 1, x3, x17, x18, x121000, x121001, x121002 => if x18 < x17 then (if 0 <= x18 then (if x18 < (x3.length : Int) then (spec_ggGroups.l0 k (x3.set (x18 : Int).toNat (-1)) x17 (wrap64 (x18 + 1)) x121000 x121001 x121002) else (none)) else (none)) else (spec_ggGroups.l1 k x3 0 x121002 (x121002.length : Int) 0 x121000 x121001 x121002)
def spec_ggGroups.l1 : Nat -> List Int -> Int -> List (S83) -> Int -> Int -> Int -> Int -> List (S83) -> Option (List Int)
 | 0, _, _, _, _, _, _, _, _ => none
 | k + 1, x3, x5, x26, x27, x28, x121000, x121001, x121002 => if x28 < x27 then (if 0 <= x28 then (if x28 < (x26.length : Int) then ((spec_ggGear.f ((rd_T83 x26 x28).f0) ((rd_T83 x26 x28).f1)).bind fun t127 => (if t127 = true then (if x28 < (x3.length : Int) then (spec_ggGroups.j2 k x3 x5 x28 x26 x27 x28 (decide ((rd x3 x28) ≥ 0)) x121000 x121001 x121002) else (none)) else (spec_ggGroups.j2 k x3 x5 x28 x26 x27 x28 true x121000 x121001 x121002))) else (none)) else (none)) else (some x3)
def spec_ggGroups.j2 : Nat -> List Int -> Int -> Int -> List (S83) -> Int -> Int -> Bool -> Int -> Int -> List (S83) -> Option (List Int)
 | 0, _, _, _, _, _, _, _, _, _, _ => none
 | k + 1, x3, x5, x6, x26, x27, x28, x42, x121000, x121001, x121002 => if x42 = true then (spec_ggGroups.l1 k x3 x5 x26 x27 (wrap64 (x28 + 1)) x121000 x121001 x121002) else (if 0 <= x6 then (if x6 < (x3.length : Int) then (spec_ggGroups.l2 k (x3.set (x6 : Int).toNat x5) x5 (([x6] : List Int)) 0 x26 x27 x28 x121000 x121001 x121002) else (none)) else (none))
def spec_ggGroups.l2 : Nat -> List Int -> Int -> List Int -> Int -> List (S83) -> Int -> Int -> Int -> Int -> List (S83) -> Option (List Int)
 | 0, _, _, _, _, _, _, _, _, _, _ => none
 | k + 1, x3, x5, x8, x9, x26, x27, x28, x121000, x121001, x121002 => if x9 < (x8.length : Int) then (if 0 <= x9 then ((spec_ggNear.f k x121000 x121001 x121002 (rd x8 x9)).bind fun t134 => (spec_ggGroups.l3 k x3 x5 x8 x9 x26 x27 x28 t134 (t134.length : Int) 0 x121000 x121001 x121002)) else (none)) else (spec_ggGroups.l1 k x3 (wrap64 (x5 + 1)) x26 x27 (wrap64 (x28 + 1)) x121000 x121001 x121002)
def spec_ggGroups.l3 : Nat -> List Int -> Int -> List Int -> Int -> List (S83) -> Int -> Int -> List Int -> Int -> Int -> Int -> Int -> List (S83) -> Option (List Int)
 | 0, _, _, _, _, _, _, _, _, _, _, _, _, _ => none
 | k + 1, x3, x5, x8, x9, x26, x27, x28, x60, x61, x62, x121000, x121001, x121002 => if x62 < x61 then (if 0 <= x62 then (if x62 < (x60.length : Int) then (if 0 <= (rd x60 x62) then (if (rd x60 x62) < (x121002.length : Int) then ((spec_ggGear.f ((rd_T83 x121002 (rd x60 x62)).f0) ((rd_T83 x121002 (rd x60 x62)).f1)).bind fun t139 => (if t139 = true then (if (rd x60 x62) < (x3.length : Int) then (if (rd x3 (rd x60 x62)) < 0 then (if x8.length < 17592186044416 then (spec_ggGroups.l3 k (x3.set ((rd x60 x62) : Int).toNat x5) x5 (x8 ++ [rd x60 x62]) x9 x26 x27 x28 x60 x61 (wrap64 (x62 + 1)) x121000 x121001 x121002) else (none)) else (spec_ggGroups.l3 k x3 x5 x8 x9 x26 x27 x28 x60 x61 (wrap64 (x62 + 1)) x121000 x121001 x121002)) else (none)) else (spec_ggGroups.l3 k x3 x5 x8 x9 x26 x27 x28 x60 x61 (wrap64 (x62 + 1)) x121000 x121001 x121002))) else (none)) else (none)) else (none)) else (none)) else (spec_ggGroups.l2 k x3 x5 x8 (wrap64 (x9 + 1)) x26 x27 x28 x121000 x121001 x121002)
end
def spec_ggGroups.f (k : Nat) (a0_0 : Int) (a0_1 : Int) (l0_2 : List (S83)) : Option (List Int) := if 0 <= (l0_2.length : Int) then (if ((l0_2.length : Int) : Int).toNat <= 35184372088832 then ((some (List.replicate ((l0_2.length : Int) : Int).toNat 0 : List Int)).bind fun y121 => (spec_ggGroups.l0 k y121 (y121.length : Int) 0 a0_0 a0_1 l0_2)) else (none)) else (none)
theorem spec_ggGroups.mono_l : ∀ k, (∀ y0 y1 y2 y3 y4 y5, LeO (spec_ggGroups.l0 k y0 y1 y2 y3 y4 y5) (spec_ggGroups.l0 (k + 1) y0 y1 y2 y3 y4 y5)) /\ (∀ y0 y1 y2 y3 y4 y5 y6 y7, LeO (spec_ggGroups.l1 k y0 y1 y2 y3 y4 y5 y6 y7) (spec_ggGroups.l1 (k + 1) y0 y1 y2 y3 y4 y5 y6 y7)) /\ (∀ y0 y1 y2 y3 y4 y5 y6 y7 y8 y9, LeO (spec_ggGroups.j2 k y0 y1 y2 y3 y4 y5 y6 y7 y8 y9) (spec_ggGroups.j2 (k + 1) y0 y1 y2 y3 y4 y5 y6 y7 y8 y9)) /\ (∀ y0 y1 y2 y3 y4 y5 y6 y7 y8 y9, LeO (spec_ggGroups.l2 k y0 y1 y2 y3 y4 y5 y6 y7 y8 y9) (spec_ggGroups.l2 (k + 1) y0 y1 y2 y3 y4 y5 y6 y7 y8 y9)) /\ (∀ y0 y1 y2 y3 y4 y5 y6 y7 y8 y9 y10 y11 y12, LeO (spec_ggGroups.l3 k y0 y1 y2 y3 y4 y5 y6 y7 y8 y9 y10 y11 y12) (spec_ggGroups.l3 (k + 1) y0 y1 y2 y3 y4 y5 y6 y7 y8 y9 y10 y11 y12))
 | 0 => by refine ⟨?_, ?_, ?_, ?_, ?_⟩ <;> (intros; intro r h; first | (simp [spec_ggGroups.l0] at h; done) | (simp [spec_ggGroups.l1] at h; done) | (simp [spec_ggGroups.j2] at h; done) | (simp [spec_ggGroups.l2] at h; done) | (simp [spec_ggGroups.l3] at h; done))
 | k + 1 => by
  obtain ⟨ih0, ih1, ih2, ih3, ih4⟩ := spec_ggGroups.mono_l k
  refine ⟨?_, ?_, ?_, ?_, ?_⟩ <;> (
   intros
   first | unfold spec_ggGroups.l0 | unfold spec_ggGroups.l1 | unfold spec_ggGroups.j2 | unfold spec_ggGroups.l2 | unfold spec_ggGroups.l3
   exact LM6 ih0 ih1 ih2 ih3 ih4 spec_ggNear.mono)
theorem spec_ggGroups.mono : ∀ a0 a1 a2 k, LeO (spec_ggGroups.f k a0 a1 a2) (spec_ggGroups.f (k + 1) a0 a1 a2) := by
 intro a0 a1 a2 k
 obtain ⟨ih0, ih1, ih2, ih3, ih4⟩ := spec_ggGroups.mono_l k
 unfold spec_ggGroups.f
 exact LM6 ih0 ih1 ih2 ih3 ih4 spec_ggNear.mono
def spec_ggGroups.T17 : Bool × List (List Nat × List Nat) := (true, [([], []), ([], []), ([], []), ([1, 2], [1, 2]), ([3], [3]), ([0, 4], [0, 4]), ([5], [5]), ([], [])])
def spec_ggGroups.B17 : List Nat := [0, 0, 0, 6, 14, 31, 63, 0]
theorem spec_ggGroups.tab17 : rtab .any (opsOf Try.f80 17) = spec_ggGroups.T17 := by kernel_rfl
theorem spec_ggGroups.bits17 : waitsOk spec_ggGroups.T17.2 spec_ggGroups.B17 = true := by kernel_rfl
theorem spec_ggGroups.calls (k : Nat) (a0_0 : Int) (a0_1 : Int) (A0_2 : Option Addr) (c0_2 : Nat) (l0_2 : List (S83)) (r : List Int) (w : World) (hr0_2 : Kd.C k83 w A0_2 l0_2.length l0_2) (hc0_2 : l0_2.length <= c0_2) (h : spec_ggGroups.f k a0_0 a0_1 l0_2 = some r) :
 Calls Try.prog 80 #[.agg #[.int .i64 a0_0, .int .i64 a0_1, .slice A0_2 l0_2.length c0_2]] w fun e w' => ∃ v0_ : Value, e = .returned (v0_) /\ Kd.R (Kd.int .i64) 3 w' w.heap.size (fun _ => True) v0_ r /\ Below w.heap.size w w' := by
 have hu30 := Try.underlying30
 have hu83 := Try.underlying83
 have HR0_2 := Aside0.mk hr0_2
 have HC0_2 := Aside0.mk hc0_2
 clear hr0_2 hc0_2
 have HB := Aside0.mk (Below.refl w.heap.size w)
 have H := h
 clear h
 unfold spec_ggGroups.f at H
 replace H := ifP H; obtain ⟨c2, H⟩ := H
 have c2b0 := eq_true c2
 have c2b1 := decide_eq_true c2
 clear c2
 replace H := ifP H; obtain ⟨c3, H⟩ := H
 have c3b0 := eq_true c3
 have c3b1 := decide_eq_true c3
 clear c3
 replace H := nameB H; obtain ⟨y121, Ny121, H⟩ := H
 have H' := Aside0.mk H
 clear H
 go_enter Try.func80, Try.ntmps80
 go_wp2_with (first | ((with_reducible refine gate_dst (N := 1) rfl ?_); refine boxE (cs := #[.int .i64 a0_0, .int .i64 a0_1, .slice A0_2 l0_2.length c0_2]) (t := 30) ?_; intro gb120 hg w4 hbox hb; refine E4b HB.1 hg hbox hb ?_; clear HB; intro HB BK120 GW120 GE120; clear hb hbox hg; obtain ⟨hcz5_0, hcz5_1, hcz5_2, hfz5_0, hfz5_1, hfz5_2⟩ := cz3 BK120.1) | ((with_reducible refine gate_dst (N := 15) rfl ?_); refine R_make (Kd.int .i64) _ 3 rfl (N := 15) rfl 38 _ _ rfl (l0_2.length : Int) rfl rfl Try.underlying38 (.int .i64 0) 8 info3 rfl (by decide) (by omega) 0 (ok := fun _ => True) (okp := fun _ => True) rfl (fun _ hk => hk) trivial (OD) (Nat.le_trans (Nat.mul_le_mul_right _ (OD : (l0_2.length : Int).toNat <= 35184372088832)) (by omega)) (Below.refl _ _) (Nat.le_refl _) ?_; intro v122 w6 ho7 hb hg_ hnew_; clear hg_ hnew_; (first | rw [<- Ny121.1] at ho7 | (simp only [Int.reduceToNat] at ho7; rw [<- Ny121.1] at ho7)); refine E3 (R_lower ho7 (bZ HB.1)) (bB BK120.1 hb) (bS HB.1 hb) ?_; clear BK120 HB; intro HO123 BK120 HB; clear hb ho7; obtain ⟨Ao8, co8, eo8⟩ := R_slice HO123.1; subst eo8))
 go_loopg [18] k (fun kq v18 w' => ∃ (x3_1 : List Int) (x18_1 : Int), v18 = .int .i64 x18_1 /\ Aside0 (spec_ggGroups.l0 kq x3_1 (y121.length : Int) x18_1 a0_0 a0_1 l0_2 = some r) /\ Aside0 (kq <= k) /\ Aside0 (Kd.R (Kd.int .i64) 3 w' w.heap.size (fun _ => True) (.slice Ao8 y121.length co8) x3_1) /\ Aside0 (w'.heap[gb120]? = some (.cells #[.int .i64 a0_0, .int .i64 a0_1, (.slice A0_2 l0_2.length c0_2)] 30 (0, 0))) /\ Aside0 (Below w.heap.size w w'))
 case atStart => exact ⟨(y121), (0), RG, H', ⟨Nat.le_refl _⟩, ⟨PR HO123.1⟩, ⟨PB BK120.1⟩, ⟨BL HB.1⟩⟩
 clear H'
 clear c2b0 c2b1 c3b0 c3b1 hcz5_0 hcz5_1 hcz5_2 hfz5_0 hfz5_1 hfz5_2
 obtain ⟨x3_1, x18_1, rfl, HA, HK1, HO_3, BK120, HB⟩ := hrel
 have hl3_1 := (R_reads' HO_3.1).1
 rw [hl3_1] at HO_3
 (try simp only [hl3_1])
 (try simp only [hl3_1] at BK120)
 cases gk with
 | zero => exact absurd HA.1 (by simp [spec_ggGroups.l0])
 | succ k1 => ?_
 have H := HA.1
 clear HA
 simp only [spec_ggGroups.l0] at H
 replace H := ifB H; rcases H with ⟨c9b0, H⟩ | ⟨c9b0, H⟩
 · replace H := ifN H; obtain ⟨c10b0, H⟩ := H
   replace H := ifN H; obtain ⟨c11b0, H⟩ := H
   generalize hy124 : ((x3_1.set (x18_1 : Int).toNat (-1)) : List Int) = y124 at H
   have Ny124 := Aside0.mk hy124.symm; clear hy124
   have H' := Aside0.mk H
   clear H
   have p12 : 0 <= (x18_1 : Int) := OD
   have q12 : (x18_1 : Int) < ((x3_1.length : Int) : Int) := OD
   obtain ⟨go12, co12, eo12, gb12, gl12, cl12, HG12⟩ := R_form HO_3.1 (by omega)
   (first | cases eo12 | (injection eo12 with ea_ en_ ec_; (first | subst ea_ | (injection ea_ with ea_; subst ea_)); subst ec_; clear en_))
   have GB12 := Aside0.mk gb12
   have GG12 := Aside0.mk HG12
   clear gb12 gl12 HG12
   obtain ⟨hx12_0, hf12_0⟩ := R_celln 0 HO_3.1 (x18_1 : Int) p12 q12
   replace p12 := eq_true p12
   replace q12 := eq_true q12
   have HP13 := R_putg HO_3.1 (x18_1 : Int) (-1)
   go_wp2_with (first | ((with_reducible refine gate_store (t := 3) (p := 23) rfl ?_); refine storeE (t := 3) (p := 23) (w1 := (wr.setCell ⟨go12, (x18_1 : Int).toNat, none⟩ (.int .i64 (-1)))) ?_; intro w14 hw; have hg : wr.grownBy w14 (some go12) := (by rw [hw]; exact HP13.2); have hp_ : Kd.R (Kd.int .i64) 3 w14 w.heap.size (fun _ => True) (.slice (some ⟨go12, 0, none⟩) x3_1.length co8) y124 := (by rw [hw, Ny124.1]; exact HP13.1); clear HP13; refine E3 (hp_) (bG BK120.1 hg (R_ne HO_3.1 BK120.1 (by decide))) ((by rw [hw]; exact below_set (HB.1) GB12.1 : Below w.heap.size w w14)) ?_; clear HO_3 BK120 HB; intro HO_3 BK120 HB; clear hg hw hp_))
   (try simp only [<- hl3_1])
   go_roundg k1
   case measure => have := HK1.1; omega
   case rel => exact ⟨(y124), (wrap64 (x18_1 + 1)), RG, H', ⟨by have := HK1.1; omega⟩, ⟨PR1 HO_3.1 hl3_1⟩, ⟨PB1 BK120.1 hl3_1⟩, ⟨BL HB.1⟩⟩
 (try simp only [hl3_1] at c9b0)
 have H' := Aside0.mk H
 clear H
 obtain ⟨hcz15_0, hcz15_1, hcz15_2, hfz15_0, hfz15_1, hfz15_2⟩ := cz3 BK120.1
 go_wp2
 go_loopg [5, 28] k1 (fun kq v5 v28 w' => ∃ (x3_2 : List Int) (x5_2 : Int) (x28_2 : Int), v5 = .int .i64 x5_2 /\ v28 = .int .i64 x28_2 /\ Aside0 (spec_ggGroups.l1 kq x3_2 x5_2 l0_2 (l0_2.length : Int) x28_2 a0_0 a0_1 l0_2 = some r) /\ Aside0 (kq <= k1) /\ Aside0 (Kd.R (Kd.int .i64) 3 w' w.heap.size (fun _ => True) (.slice Ao8 x3_1.length co8) x3_2) /\ Aside0 (w'.heap[gb120]? = some (.cells #[.int .i64 a0_0, .int .i64 a0_1, (.slice A0_2 l0_2.length c0_2)] 30 (0, 0))) /\ Aside0 (Below w.heap.size w w'))
 case atStart => exact ⟨(x3_1), (0), (0), RG, RG, H', ⟨Nat.le_refl _⟩, ⟨PR1 HO_3.1 hl3_1⟩, ⟨PB1 BK120.1 hl3_1⟩, ⟨BL HB.1⟩⟩
 clear H'
 clear c9b0 hcz15_0 hcz15_1 hcz15_2 hfz15_0 hfz15_1 hfz15_2
 obtain ⟨x3_2, x5_2, x28_2, rfl, rfl, HA, HK2, HO_3, BK120, HB⟩ := hrel
 have hl3_2 := (R_reads' HO_3.1).1
 rw [hl3_2] at HO_3
 (try simp only [hl3_2])
 (try simp only [hl3_2] at BK120)
 cases gk with
 | zero => exact absurd HA.1 (by simp [spec_ggGroups.l1])
 | succ k2 => ?_
 have H := HA.1
 clear HA
 simp only [spec_ggGroups.l1] at H
 replace H := ifB H; rcases H with ⟨c16b0, H⟩ | ⟨c16b0, H⟩
 · replace H := ifN H; obtain ⟨c17b0, H⟩ := H
   replace H := ifN H; obtain ⟨c18b0, H⟩ := H
   have HC19 := Aside0.mk H
   clear H
   have p125 : 0 <= (x28_2 : Int) := OD
   have q125 : x28_2 < (l0_2.length : Int) := OD
   obtain ⟨ad125, e125, hx125_0, hx125_1⟩ := at_T83 HR0_2.1 x28_2 p125 q125
   cases e125
   replace hx125_0 := (HB.1.cell (World.block_lt_of_cell? w _ hx125_0)).trans hx125_0
   replace hx125_1 := (HB.1.cell (World.block_lt_of_cell? w _ hx125_1)).trans hx125_1
   replace p125 := eq_true p125
   replace q125 := eq_true q125
   go_upto_region 11 with (first | ((with_reducible refine gate_dst (N := 7) rfl ?_); refine boxE (cs := #[.int .i64 0, .int .i64 0]) (t := 83) ?_; intro gb126 hg w20 hbox hb; refine E8 (rB HO_3.1 hb) (bB BK120.1 hb) (bS HB.1 hb) (hbox) (gX HB.1 hg) (gX HB.1 hg) (nB BK120.1 hg) (nC BK120.1 hg) ?_; clear HO_3 BK120 HB; intro HO_3 BK120 HB BK126 GW126 GE126 NB120_126 NB126_120; clear hb hbox hg; have hnb21 := NB126_120.1; have hnc21 := NB120_126.1; obtain ⟨hcz22_0, hcz22_1, hfz22_0, hfz22_1⟩ := cz2 BK126.1))
   (try simp only [Act.put, List.setIfInBounds_toArray, List.set_cons_zero, List.set_cons_succ])
   go_cut [42] (fun v42 wc => ∃ (kq : Nat) (x42_18 : Bool), v42 = .bool x42_18 /\ Aside0 (spec_ggGroups.j2 kq x3_2 x5_2 x28_2 l0_2 (l0_2.length : Int) x28_2 x42_18 a0_0 a0_1 l0_2 = some r) /\ Aside0 (kq <= k2) /\ Aside0 (Kd.R (Kd.int .i64) 3 wc w.heap.size (fun _ => True) (.slice Ao8 x3_2.length co8) x3_2) /\ Aside0 (wc.heap[gb120]? = some (.cells #[.int .i64 a0_0, .int .i64 a0_1, (.slice (some ad125) l0_2.length c0_2)] 30 (0, 0))) /\ Aside0 (wc.heap[gb126]? = some (.cells #[.int .i64 ((rd_T83 l0_2 x28_2).f0), .int .i64 ((rd_T83 l0_2 x28_2).f1)] 83 (0, 0))) /\ Aside0 (Below w.heap.size w wc))
   case first =>
    have H := HC19.1
    clear HC19
    replace H := bindA H; obtain ⟨t127, A23, H⟩ := H
    replace H := ifX H; rcases H with ⟨rfl, H⟩ | ⟨rfl, H⟩
    · replace H := ifN H; obtain ⟨c25b0, H⟩ := H
      (first | rw [c25b0] | (simp only [i64_w, i32_w]; rw [c25b0]) | skip)
      have H' := Aside0.mk H
      clear H
      obtain ⟨hcz27_0, hcz27_1, hfz27_0, hfz27_1⟩ := cz2 BK126.1
      go_wp2_with (first | ((with_reducible refine gate_callee (f := 91) rfl ?_); refine goesM (N := (some 34)) #[.agg #[.int .i64 ((rd_T83 l0_2 x28_2).f0), .int .i64 ((rd_T83 l0_2 x28_2).f1)]] Try.func91 ?_; (with_reducible refine (spec_ggGear.calls ((rd_T83 l0_2 x28_2).f0) ((rd_T83 l0_2 x28_2).f1) true _ A23.1).mono ?_); rintro e w28 ⟨rfl, hb⟩; refine ⟨_, rfl, ?_⟩; refine E4 (R_below (by (with_reducible repeat (first | apply R_alloc | apply R_drewN | apply R_drew)); exact (R_mono (RQ gb126 1 (RQ gb126 0 (R_types HO_3.1 BK126.1 (by decide)) _) _) (fun _ h_ => h_.1))) hb) (blk_below (g := gb120) (o := .cells #[.int .i64 a0_0, .int .i64 a0_1, .slice (some ad125) l0_2.length c0_2] 30 (0, 0)) (PF1 NB120_126.1 BK120.1) hb) (blk_below (g := gb126) (o := .cells #[.int .i64 ((rd_T83 l0_2 x28_2).f0), .int .i64 ((rd_T83 l0_2 x28_2).f1)] 83 (0, 0)) (PF0 BK126.1) hb) (bS HB.1 hb) ?_; clear HO_3 BK120 BK126 HB; intro HO_3 BK120 BK126 HB; (try clear hb); have p128 : 0 <= (x28_2 : Int) := OD; have q128 : x28_2 < (x3_2.length : Int) := OD; obtain ⟨ad128, e128, hx128_0⟩ := Kd.at_int (R_reads' HO_3.1).2.2 x28_2 p128 q128; cases e128; replace p128 := eq_true p128; replace q128 := eq_true q128))
      go_meet
      case rel => exact ⟨_, (decide ((rd x3_2 x28_2) ≥ 0)), RG, H', ⟨by have := HK1.1; have := HK2.1; first | omega | exact Nat.le_refl _⟩, ⟨PR2 HO_3.1 hl3_1 hl3_2⟩, ⟨PB2 BK120.1 hl3_1 hl3_2⟩, ⟨PB2 BK126.1 hl3_1 hl3_2⟩, ⟨BL HB.1⟩⟩
    have H' := Aside0.mk H
    clear H
    obtain ⟨hcz30_0, hcz30_1, hfz30_0, hfz30_1⟩ := cz2 BK126.1
    go_wp2_with (first | ((with_reducible refine gate_callee (f := 91) rfl ?_); refine goesM (N := (some 34)) #[.agg #[.int .i64 ((rd_T83 l0_2 x28_2).f0), .int .i64 ((rd_T83 l0_2 x28_2).f1)]] Try.func91 ?_; (with_reducible refine (spec_ggGear.calls ((rd_T83 l0_2 x28_2).f0) ((rd_T83 l0_2 x28_2).f1) false _ A23.1).mono ?_); rintro e w31 ⟨rfl, hb⟩; refine ⟨_, rfl, ?_⟩; refine E4 (R_below (by (with_reducible repeat (first | apply R_alloc | apply R_drewN | apply R_drew)); exact (R_mono (RQ gb126 1 (RQ gb126 0 (R_types HO_3.1 BK126.1 (by decide)) _) _) (fun _ h_ => h_.1))) hb) (blk_below (g := gb120) (o := .cells #[.int .i64 a0_0, .int .i64 a0_1, .slice (some ad125) l0_2.length c0_2] 30 (0, 0)) (PF1 NB120_126.1 BK120.1) hb) (blk_below (g := gb126) (o := .cells #[.int .i64 ((rd_T83 l0_2 x28_2).f0), .int .i64 ((rd_T83 l0_2 x28_2).f1)] 83 (0, 0)) (PF0 BK126.1) hb) (bS HB.1 hb) ?_; clear HO_3 BK120 BK126 HB; intro HO_3 BK120 BK126 HB; (try clear hb)))
    go_meet
    case rel => exact ⟨_, (true), RG, H', ⟨by have := HK1.1; have := HK2.1; first | omega | exact Nat.le_refl _⟩, ⟨PR2 HO_3.1 hl3_1 hl3_2⟩, ⟨PB2 BK120.1 hl3_1 hl3_2⟩, ⟨PB2 BK126.1 hl3_1 hl3_2⟩, ⟨BL HB.1⟩⟩
   clear HC19
   try clear hx125_0; try clear hx125_1; try clear p125; try clear q125; clear c16b0 c17b0 c18b0 hcz22_0 hcz22_1 hfz22_0 hfz22_1
   obtain ⟨kq, x42_18, rfl, HA, HJ18, HO_3, BK120, BK126, HB⟩ := hcut
   cases kq with
   | zero => exact absurd HA.1 (by simp [spec_ggGroups.j2])
   | succ kj18 => ?_
   have H := HA.1
   clear HA
   simp only [spec_ggGroups.j2] at H
   replace H := ifX H; rcases H with ⟨rfl, H⟩ | ⟨rfl, H⟩
   · have H' := Aside0.mk H
     clear H
     go_wp2
     (try simp only [<- hl3_2])
     go_roundg kj18
     case measure => have := HK1.1; have := HK2.1; have := HJ18.1; omega
     case rel => exact ⟨(x3_2), (x5_2), (wrap64 (x28_2 + 1)), RG, RG, H', ⟨by have := HK1.1; have := HK2.1; have := HJ18.1; omega⟩, ⟨PR2 HO_3.1 hl3_1 hl3_2⟩, ⟨PB2 BK120.1 hl3_1 hl3_2⟩, ⟨BL HB.1⟩⟩
   replace H := ifN H; obtain ⟨c33b0, H⟩ := H
   replace H := ifN H; obtain ⟨c34b0, H⟩ := H
   generalize hy129 : ((x3_2.set (x28_2 : Int).toNat x5_2) : List Int) = y129 at H
   have Ny129 := Aside0.mk hy129.symm; clear hy129
   generalize hy130 : ((([x28_2] : List Int)) : List Int) = y130 at H
   have Ny130 := Aside0.mk hy130.symm; clear hy130
   have H' := Aside0.mk H
   clear H
   have p35 : 0 <= (x28_2 : Int) := OD
   have q35 : (x28_2 : Int) < ((x3_2.length : Int) : Int) := OD
   obtain ⟨go35, co35, eo35, gb35, gl35, cl35, HG35⟩ := R_form HO_3.1 (by omega)
   (first | cases eo35 | (injection eo35 with ea_ en_ ec_; (first | subst ea_ | (injection ea_ with ea_; subst ea_)); subst ec_; clear en_))
   have GB35 := Aside0.mk gb35
   have GG35 := Aside0.mk HG35
   clear gb35 gl35 HG35
   obtain ⟨hx35_0, hf35_0⟩ := R_celln 0 HO_3.1 (x28_2 : Int) p35 q35
   replace p35 := eq_true p35
   replace q35 := eq_true q35
   have HP36 := R_putg HO_3.1 (x28_2 : Int) x5_2
   go_wp2_with (first | ((with_reducible refine gate_store (t := 3) (p := 46) rfl ?_); refine storeE (t := 3) (p := 46) (w1 := (wc.setCell ⟨go35, (x28_2 : Int).toNat, none⟩ (.int .i64 x5_2))) ?_; intro w37 hw; have hg : wc.grownBy w37 (some go35) := (by rw [hw]; exact HP36.2); have hp_ : Kd.R (Kd.int .i64) 3 w37 w.heap.size (fun _ => True) (.slice (some ⟨go35, 0, none⟩) x3_2.length co8) y129 := (by rw [hw, Ny129.1]; exact HP36.1); clear HP36; refine E4 (hp_) (bG BK120.1 hg (R_ne HO_3.1 BK120.1 (by decide))) (bG BK126.1 hg (R_ne HO_3.1 BK126.1 (by decide))) ((by rw [hw]; exact below_set (HB.1) GB35.1 : Below w.heap.size w w37)) ?_; clear HO_3 BK120 BK126 HB; intro HO_3 BK120 BK126 HB; clear hg hw hp_) | ((with_reducible refine gate_dst (N := 48) rfl ?_); refine R_lit (Kd.int .i64) _ 3 ?hg (N := 48) ?hd (xs := ([x28_2] : List Int)) (inner := [.int .i64 x28_2]) (ok := fun _ => True) (okp := fun _ => True) ?hr ?hp (fun _ hk => hk) trivial (Below.refl _ _) (Nat.le_refl _) (by simp) ?_; (case hd => rfl); (case hg => rfl); (case hr => first | (go_simp; done) | (go_simp; rfl)); (case hp => exact (Reps.one (show Kd.M (Kd.int .i64) _ _ _ x28_2 [.int .i64 x28_2] from rfl) (Reps.none _ _))); intro v131 w38 ho39 hb hg_ hnew_; clear hg_ hnew_; (first | rw [<- Ny130.1] at ho39 | (simp only [Int.reduceToNat] at ho39; rw [<- Ny130.1] at ho39)); refine E5 (R_elder' (PR HO_3.1) (R_base ho39) hb) (R_lower (R_new' ho39 (R_lt (PR HO_3.1))) (bZ HB.1)) (bB BK120.1 hb) (bB BK126.1 hb) (bS HB.1 hb) ?_; clear HO_3 BK120 BK126 HB; intro HO_3 HO132 BK120 BK126 HB; clear hb ho39))
   go_loopg [8, 9] kj18 (fun kq v8 v9 w' => ∃ (x3_4 : List Int) (x8_4 : List Int) (x9_4 : Int), v9 = .int .i64 x9_4 /\ Aside0 (spec_ggGroups.l2 kq x3_4 x5_2 x8_4 x9_4 l0_2 (l0_2.length : Int) x28_2 a0_0 a0_1 l0_2 = some r) /\ Aside0 (kq <= kj18) /\ Aside0 (Kd.R (Kd.int .i64) 3 w' w.heap.size (fun k_ => some k_ ≠ (v8 : Value).ownBlock) (.slice (some ⟨go35, 0, none⟩) x3_2.length co8) x3_4) /\ Aside0 (Kd.R (Kd.int .i64) 3 w' w.heap.size (fun k_ => some k_ ≠ ((.slice (some ⟨go35, 0, none⟩) x3_2.length co8) : Value).ownBlock) v8 x8_4) /\ Aside0 (w'.heap[gb120]? = some (.cells #[.int .i64 a0_0, .int .i64 a0_1, (.slice (some ad125) l0_2.length c0_2)] 30 (0, 0))) /\ Aside0 (w'.heap[gb126]? = some (.cells #[.int .i64 ((rd_T83 l0_2 x28_2).f0), .int .i64 ((rd_T83 l0_2 x28_2).f1)] 83 (0, 0))) /\ Aside0 (Below w.heap.size w w'))
   case atStart => exact ⟨(y129), (y130), (0), RG, H', ⟨Nat.le_refl _⟩, ⟨by (try simp only [hl3_1]); (try simp only [hl3_2]); (with_reducible repeat (first | apply R_alloc | apply R_drewN | apply R_drew)); exact R_mono HO_3.1 (fun _ hk => hk.2)⟩, ⟨by (try simp only [hl3_1]); (try simp only [hl3_2]); (with_reducible repeat (first | apply R_alloc | apply R_drewN | apply R_drew)); exact R_mono HO132.1 (fun _ hk => hk.2)⟩, ⟨PB2 BK120.1 hl3_1 hl3_2⟩, ⟨PB2 BK126.1 hl3_1 hl3_2⟩, ⟨BL HB.1⟩⟩
   clear H'
   try clear p35; try clear q35; try clear hx35_0; clear c33b0 c34b0
   obtain ⟨x3_4, x8_4, x9_4, rfl, HA, HK4, HO_3, HO_8, BK120, BK126, HB⟩ := hrel
   have hl3_4 := (R_reads' HO_3.1).1
   rw [hl3_4] at HO_3
   (try simp only [hl3_4])
   (try simp only [hl3_4] at BK120)
   (try simp only [hl3_4] at BK126)
   (try simp only [hl3_4] at HO_8)
   cases gk with
   | zero => exact absurd HA.1 (by simp [spec_ggGroups.l2])
   | succ k4 => ?_
   have H := HA.1
   clear HA
   simp only [spec_ggGroups.l2] at H
   replace H := ifB H; rcases H with ⟨c40b0, H⟩ | ⟨c40b0, H⟩
   · replace H := ifN H; obtain ⟨c41b0, H⟩ := H
     replace H := bindA H; obtain ⟨t134, A42, H⟩ := H
     have H' := Aside0.mk H
     clear H
     obtain ⟨Ao43, co43, eo43⟩ := R_slice HO_8.1
     subst eo43
     try go_wp2
     refine E5 (R_drew HO_3.1) (R_drew HO_8.1) (blk_drew BK120.1) (blk_drew BK126.1) (below_drew1 HB.1) ?_
     clear HO_3 HO_8 BK120 BK126 HB
     intro HO_3 HO_8 BK120 BK126 HB
     have p133 : 0 <= (x9_4 : Int) := OD
     have q133 : x9_4 < (x8_4.length : Int) := OD
     obtain ⟨ad133, e133, hx133_0⟩ := Kd.at_int (R_reads' HO_8.1).2.2 x9_4 p133 q133
     cases e133
     replace p133 := eq_true p133
     replace q133 := eq_true q133
     refine start_ (n := 8) (S := fun w' => w'.cell? ⟨gb120, 0, none⟩ = some (.int .i64 a0_0) /\ w'.cell? ⟨gb120, 1, none⟩ = some (.int .i64 a0_1) /\ w'.cell? ⟨gb120, 2, none⟩ = some (.slice (some ad125) l0_2.length c0_2) /\ w'.cell? (ad133.add (x9_4).toNat) = some (.int .i64 (rd x8_4 x9_4))) (ds := []) #[Zz,Zz,Zz,Zz,Zz,Zz,Zz,Zz] (by kernel_rfl) rfl rfl ⟨(blk_cell BK120.1 0).trans rfl, (blk_cell BK120.1 1).trans rfl, (blk_cell BK120.1 2).trans rfl, hx133_0⟩ (fun hHeld => ?_); refine with_tabW spec_ggGroups.tab17 spec_ggGroups.bits17 (fun HT_ HW_ => ?_)
     generalize wr.drew = w44 at HO_3 HO_8 BK120 BK126 HB hx133_0 hHeld ⊢
     refine pureF 1 (N := some 56) HT_.1 ?_
     refine pureF 2 (N := some 57) HT_.1 ?_
     refine pureF 3 (N := some 58) HT_.1 ?_
     refine pureF 7 (N := some 62) HT_.1 ?_
     refine takeE 0 (N := some 55) HT_.1 HW_.1 hHeld ?_
     refine takeE 4 (N := some 59) HT_.1 HW_.1 hHeld ?_
     refine one_ (i := 5) (N := some 60) #[Yy,Yy,Yy,Yy,Yy,Yy,Zz,Yy] rfl rfl (one_of HT_.1 (by kernel_rfl)) (by decide) (fun K hK => ?_)
     refine goes_ Try.func92 (by kernel_rfl) rfl #[.agg #[.int .i64 a0_0, .int .i64 a0_1, .slice (some ad125) l0_2.length c0_2], .int .i64 (rd x8_4 x9_4)] (by rfl) rfl rfl (by (try simp only [List.map_toArray, List.map_cons, List.map_nil]); first | done | rfl | (simp only [List.length_drop, List.length_take]; rfl)) ?_
     with_reducible refine (spec_ggNear.calls k4 a0_0 a0_1 _ _ l0_2 (rd x8_4 x9_4) t134 _ ?side1 ?side2 A42.1).mono ?_
     (case side1 => exact CB (C_below HR0_2.1 HB.1))
     (case side2 => exact HC0_2.1)
     rintro e w45 ⟨v135, rfl, ho0, hb⟩
     have HS3_ := (hb.cell (World.block_lt_of_cell? _ _ (hHeld.2.2.2))).trans (hHeld.2.2.2)
     refine ⟨_, rfl, ?_⟩
     refine E6 (R_elder' (PR HO_3.1) (R_base ho0) hb) (R_elder' (PR HO_8.1) (R_base ho0) hb) (R_lower (R_new' (R_new' ho0 (R_lt (PR HO_3.1))) (R_lt (PR HO_8.1))) (bZ HB.1)) (bB BK120.1 hb) (bB BK126.1 hb) (bS HB.1 hb) ?_
     clear HO_3 HO_8 BK120 BK126 HB
     intro HO_3 HO_8 HO136 BK120 BK126 HB
     (try clear hb)
     (try clear hb2)
     (try clear hk)
     (try clear hi)
     (try clear ho0)
     obtain ⟨Ao46, co46, eo46⟩ := R_slice HO136.1
     (first | subst eo46 | (injection eo46 with f1_ f2_ f3_; have f4_ := f1_.symm; have f5_ := f3_.symm; clear f1_ f2_ f3_; subst f4_; subst f5_))
     refine hK.out _ _ ⟨(blk_cell BK120.1 0).trans rfl, (blk_cell BK120.1 1).trans rfl, (blk_cell BK120.1 2).trans rfl, HS3_⟩ (fun hHeld => ?_)
     clear hK K
     refine norm_ (a' := ?_) ?_ ?_
     rotate_left
     · show Act.put _ (some 60) _ = _
       simp only [Act.put, List.setIfInBounds_toArray, List.set_cons_zero, List.set_cons_succ, i64_w, i32_w]
       rfl
     refine pureF 6 (N := some 61) HT_.1 ?_
     refine done_ (done_of HT_.1 (by kernel_rfl)) ?_
     try go_wp2
     go_loopg [8, 62] k4 (fun kq v8 v62 w' => ∃ (x3_5 : List Int) (x8_5 : List Int) (x62_5 : Int), v62 = .int .i64 x62_5 /\ Aside0 (spec_ggGroups.l3 kq x3_5 x5_2 x8_5 x9_4 l0_2 (l0_2.length : Int) x28_2 t134 (t134.length : Int) x62_5 a0_0 a0_1 l0_2 = some r) /\ Aside0 (kq <= k4) /\ Aside0 (Kd.R (Kd.int .i64) 3 w' w.heap.size (fun k_ => some k_ ≠ (v8 : Value).ownBlock /\ some k_ ≠ ((.slice Ao46 t134.length co46) : Value).ownBlock) (.slice (some ⟨go35, 0, none⟩) x3_4.length co8) x3_5) /\ Aside0 (Kd.R (Kd.int .i64) 3 w' w.heap.size (fun k_ => some k_ ≠ ((.slice (some ⟨go35, 0, none⟩) x3_4.length co8) : Value).ownBlock /\ some k_ ≠ ((.slice Ao46 t134.length co46) : Value).ownBlock) v8 x8_5) /\ Aside0 (Kd.R (Kd.int .i64) 3 w' w.heap.size (fun k_ => some k_ ≠ ((.slice (some ⟨go35, 0, none⟩) x3_4.length co8) : Value).ownBlock /\ some k_ ≠ (v8 : Value).ownBlock) (.slice Ao46 t134.length co46) t134) /\ Aside0 (w'.heap[gb120]? = some (.cells #[.int .i64 a0_0, .int .i64 a0_1, (.slice (some ad125) l0_2.length c0_2)] 30 (0, 0))) /\ Aside0 (w'.heap[gb126]? = some (.cells #[.int .i64 ((rd_T83 l0_2 x28_2).f0), .int .i64 ((rd_T83 l0_2 x28_2).f1)] 83 (0, 0))) /\ Aside0 (Below w.heap.size w w'))
     case atStart => exact ⟨(x3_4), (x8_4), (0), RG, H', ⟨Nat.le_refl _⟩, ⟨PR3 HO_3.1 hl3_1 hl3_2 hl3_4⟩, ⟨PR3 HO_8.1 hl3_1 hl3_2 hl3_4⟩, ⟨by (try simp only [hl3_1]); (try simp only [hl3_2]); (try simp only [hl3_4]); (with_reducible repeat (first | apply R_alloc | apply R_drewN | apply R_drew)); exact R_mono HO136.1 (fun _ hk => ⟨hk.1.2, hk.2⟩)⟩, ⟨PB3 BK120.1 hl3_1 hl3_2 hl3_4⟩, ⟨PB3 BK126.1 hl3_1 hl3_2 hl3_4⟩, ⟨BL HB.1⟩⟩
     clear H'
     try clear hx133_0; try clear p133; try clear q133; clear c40b0 c41b0
     obtain ⟨x3_5, x8_5, x62_5, rfl, HA, HK5, HO_3, HO_8, HO_60, BK120, BK126, HB⟩ := hrel
     have hl3_5 := (R_reads' HO_3.1).1
     rw [hl3_5] at HO_3
     (try simp only [hl3_5])
     (try simp only [hl3_5] at BK120)
     (try simp only [hl3_5] at BK126)
     (try simp only [hl3_5] at HO_8)
     (try simp only [hl3_5] at HO_60)
     cases gk with
     | zero => exact absurd HA.1 (by simp [spec_ggGroups.l3])
     | succ k5 => ?_
     have H := HA.1
     clear HA
     simp only [spec_ggGroups.l3] at H
     replace H := ifB H; rcases H with ⟨c47b0, H⟩ | ⟨c47b0, H⟩
     · replace H := ifN H; obtain ⟨c48b0, H⟩ := H
       replace H := ifN H; obtain ⟨c49b0, H⟩ := H
       replace H := ifN H; obtain ⟨c50b0, H⟩ := H
       replace H := ifN H; obtain ⟨c51b0, H⟩ := H
       replace H := bindA H; obtain ⟨t139, A52, H⟩ := H
       replace H := ifX H; rcases H with ⟨rfl, H⟩ | ⟨rfl, H⟩
       · replace H := ifN H; obtain ⟨c54b0, H⟩ := H
         replace H := ifB H; rcases H with ⟨c55b0, H⟩ | ⟨c55b0, H⟩
         · generalize hy141 : ((x3_5.set ((rd t134 x62_5) : Int).toNat x5_2) : List Int) = y141 at H
           have Ny141 := Aside0.mk hy141.symm; clear hy141
           replace H := ifP H; obtain ⟨c57, H⟩ := H
           have LMc57 := Aside0.mk c57
           clear c57
           generalize hy142 : ((x8_5 ++ [rd t134 x62_5]) : List Int) = y142 at H
           have Ny142 := Aside0.mk hy142.symm; clear hy142
           have H' := Aside0.mk H
           clear H
           have p137 : 0 <= (x62_5 : Int) := OD
           have q137 : x62_5 < (t134.length : Int) := OD
           obtain ⟨ad137, e137, hx137_0⟩ := Kd.at_int (R_reads' HO_60.1).2.2 x62_5 p137 q137
           cases e137
           replace p137 := eq_true p137
           replace q137 := eq_true q137
           obtain ⟨hcz59_0, hcz59_1, hcz59_2, hfz59_0, hfz59_1, hfz59_2⟩ := cz3 BK120.1
           have p138 : 0 <= ((rd t134 x62_5) : Int) := OD
           have q138 : (rd t134 x62_5) < (l0_2.length : Int) := OD
           obtain ⟨ad138, e138, hx138_0, hx138_1⟩ := at_T83 HR0_2.1 (rd t134 x62_5) p138 q138
           obtain rfl : ad125 = ad138 := (by injection e138)
           replace hx138_0 := (HB.1.cell (World.block_lt_of_cell? w _ hx138_0)).trans hx138_0
           replace hx138_1 := (HB.1.cell (World.block_lt_of_cell? w _ hx138_1)).trans hx138_1
           replace p138 := eq_true p138
           replace q138 := eq_true q138
           go_wp2_with (first | ((with_reducible refine gate_callee (f := 91) rfl ?_); refine goesM (N := (some 71)) #[.agg #[.int .i64 ((rd_T83 l0_2 (rd t134 x62_5)).f0), .int .i64 ((rd_T83 l0_2 (rd t134 x62_5)).f1)]] Try.func91 ?_; (with_reducible refine (spec_ggGear.calls ((rd_T83 l0_2 (rd t134 x62_5)).f0) ((rd_T83 l0_2 (rd t134 x62_5)).f1) true _ A52.1).mono ?_); rintro e w60 ⟨rfl, hb⟩; refine ⟨_, rfl, ?_⟩; refine E6 (rB HO_3.1 hb) (rB HO_8.1 hb) (rB HO_60.1 hb) (bB BK120.1 hb) (bB BK126.1 hb) (bS HB.1 hb) ?_; clear HO_3 HO_8 HO_60 BK120 BK126 HB; intro HO_3 HO_8 HO_60 BK120 BK126 HB; (try clear hb); have p140 : 0 <= ((rd t134 x62_5) : Int) := OD; have q140 : (rd t134 x62_5) < (x3_5.length : Int) := OD; obtain ⟨ad140, e140, hx140_0⟩ := Kd.at_int (R_reads' HO_3.1).2.2 (rd t134 x62_5) p140 q140; obtain rfl : (⟨go35, 0, none⟩ : Addr) = ad140 := (by injection e140); (first | simp only [add_plain] at hx140_0 | simp only [add_at] at hx140_0 | simp only [Addr.add, Nat.zero_add] at hx140_0 | skip); replace p140 := eq_true p140; replace q140 := eq_true q140; have p56 : 0 <= ((rd t134 x62_5) : Int) := OD; have q56 : ((rd t134 x62_5) : Int) < ((x3_5.length : Int) : Int) := OD; obtain ⟨hx56_0, hf56_0⟩ := R_celln 0 HO_3.1 ((rd t134 x62_5) : Int) p56 q56; replace p56 := eq_true p56; replace q56 := eq_true q56; obtain ⟨hy61_, hz61_⟩ := R_celln 0 HO_3.1 ((rd t134 x62_5) : Int) (OD) (OD); have HP61 := R_putg HO_3.1 ((rd t134 x62_5) : Int) x5_2) | ((with_reducible refine gate_store (t := 3) (p := 82) rfl ?_); refine storeE (t := 3) (p := 82) (w1 := (w60.setCell ⟨go35, ((rd t134 x62_5) : Int).toNat, none⟩ (.int .i64 x5_2))) ?_; intro w62 hw; have hg : w60.grownBy w62 (some go35) := (by rw [hw]; exact HP61.2); have hp_ : Kd.R (Kd.int .i64) 3 w62 w.heap.size (fun k_ => some k_ ≠ (u8 : Value).ownBlock /\ some k_ ≠ (.slice (some ad137) t134.length co46 : Value).ownBlock) (.slice (some ⟨go35, 0, none⟩) x3_5.length co8) y141 := (by rw [hw, Ny141.1]; exact HP61.1); clear HP61; refine E6 (hp_) (R_after (v := (.slice (some ⟨go35, 0, none⟩) x3_5.length co8)) (v1 := (.slice (some ⟨go35, 0, none⟩) x3_5.length co8)) (ok := (fun k_ => some k_ ≠ (.slice (some ad137) t134.length co46 : Value).ownBlock)) (RPE (R_mono HO_8.1 (fun _ hk => ⟨hk.2, hk.1⟩))) hg (.inl rfl)) (R_after (v := (.slice (some ⟨go35, 0, none⟩) x3_5.length co8)) (v1 := (.slice (some ⟨go35, 0, none⟩) x3_5.length co8)) (ok := (fun k_ => some k_ ≠ (u8 : Value).ownBlock)) (RPE (R_mono HO_60.1 (fun _ hk => ⟨hk.2, hk.1⟩))) hg (.inl rfl)) (bG BK120.1 hg (R_ne HO_3.1 BK120.1 (by decide))) (bG BK126.1 hg (R_ne HO_3.1 BK126.1 (by decide))) ((by rw [hw]; exact below_set (HB.1) GB35.1 : Below w.heap.size w w62)) ?_; clear HO_3 HO_8 HO_60 BK120 BK126 HB; intro HO_3 HO_8 HO_60 BK120 BK126 HB; clear hg hw hp_) | ((with_reducible refine gate_builtin (b := .append) (xs := #[.tmp 83, .tmp 85]) rfl ?_); at_builtin; refine R_append (Kd.int .i64) (w0 := w) w.heap.size rfl (.tmp 83) (.tmp 85) 38 3 (.int .i64 0) 8 rfl Try.underlying38 info3 rfl (by decide) (by omega) u8 x8_5 (rd t134 x62_5) [.int .i64 (rd t134 x62_5)] (fun k_ => some k_ ≠ (.slice (some ⟨go35, 0, none⟩) x3_5.length co8 : Value).ownBlock /\ some k_ ≠ (.slice (some ad137) t134.length co46 : Value).ownBlock) (fun _ => False) rfl rfl ?aP (fun _ hk => hk.elim) ?aF ?aO ?aB ?aS ?aL ?_; (case aP => exact rfl); (case aB => exact (BL HB.1)); (case aF => exact (fun k_ hk => ⟨Kd.fresh' (R_lt (PR HO_3.1)) k_ hk, Kd.fresh' (R_lt (PR HO_60.1)) k_ hk⟩)); (case aO => exact (RPE (R_mono HO_8.1 (fun _ hk => ⟨hk.2, hk.1⟩)))); (case aS => exact (bZ HB.1)); (case aL => have := LMc57.1; omega); intro v143 w63 ho hb hg hat; rw [<- Ny142.1] at ho; refine E6 (R_after (ok := (fun k_ => some k_ ≠ (.slice (some ad137) t134.length co46 : Value).ownBlock)) (RPE (R_mono HO_3.1 (fun _ hk => ⟨hk.2, hk.1⟩))) hg hat) (R_after (ok := (fun k_ => some k_ ≠ (.slice (some ⟨go35, 0, none⟩) x3_5.length co8 : Value).ownBlock)) (RPE (R_mono HO_60.1 (fun _ hk => ⟨hk.2, hk.1⟩))) hg hat) (bG BK120.1 hg (R_ne HO_8.1 BK120.1 (by decide))) (bG BK126.1 hg (R_ne HO_8.1 BK126.1 (by decide))) (hb) (ho) ?_; clear HO_3 HO_60 BK120 BK126 HB HO_8; intro HO_3 HO_60 BK120 BK126 HB HO144; clear ho hb hg hat))
           (try simp only [<- hl3_5])
           go_roundg k5
           case measure => have := HK1.1; have := HK2.1; have := HJ18.1; have := HK4.1; have := HK5.1; omega
           case rel => exact ⟨(y141), (y142), (wrap64 (x62_5 + 1)), RG, H', ⟨by have := HK1.1; have := HK2.1; have := HJ18.1; have := HK4.1; have := HK5.1; omega⟩, ⟨by (try simp only [hl3_1]); (try simp only [hl3_2]); (try simp only [hl3_4]); (try simp only [hl3_5]); (with_reducible repeat (first | apply R_alloc | apply R_drewN | apply R_drew)); exact R_mono HO_3.1 (fun _ hk => ⟨hk.2, hk.1⟩)⟩, ⟨PR4 HO144.1 hl3_1 hl3_2 hl3_4 hl3_5⟩, ⟨PR4 HO_60.1 hl3_1 hl3_2 hl3_4 hl3_5⟩, ⟨PB4 BK120.1 hl3_1 hl3_2 hl3_4 hl3_5⟩, ⟨PB4 BK126.1 hl3_1 hl3_2 hl3_4 hl3_5⟩, ⟨BL HB.1⟩⟩
         have H' := Aside0.mk H
         clear H
         have p137 : 0 <= (x62_5 : Int) := OD
         have q137 : x62_5 < (t134.length : Int) := OD
         obtain ⟨ad137, e137, hx137_0⟩ := Kd.at_int (R_reads' HO_60.1).2.2 x62_5 p137 q137
         cases e137
         replace p137 := eq_true p137
         replace q137 := eq_true q137
         obtain ⟨hcz65_0, hcz65_1, hcz65_2, hfz65_0, hfz65_1, hfz65_2⟩ := cz3 BK120.1
         have p138 : 0 <= ((rd t134 x62_5) : Int) := OD
         have q138 : (rd t134 x62_5) < (l0_2.length : Int) := OD
         obtain ⟨ad138, e138, hx138_0, hx138_1⟩ := at_T83 HR0_2.1 (rd t134 x62_5) p138 q138
         obtain rfl : ad125 = ad138 := (by injection e138)
         replace hx138_0 := (HB.1.cell (World.block_lt_of_cell? w _ hx138_0)).trans hx138_0
         replace hx138_1 := (HB.1.cell (World.block_lt_of_cell? w _ hx138_1)).trans hx138_1
         replace p138 := eq_true p138
         replace q138 := eq_true q138
         go_wp2_with (first | ((with_reducible refine gate_callee (f := 91) rfl ?_); refine goesM (N := (some 71)) #[.agg #[.int .i64 ((rd_T83 l0_2 (rd t134 x62_5)).f0), .int .i64 ((rd_T83 l0_2 (rd t134 x62_5)).f1)]] Try.func91 ?_; (with_reducible refine (spec_ggGear.calls ((rd_T83 l0_2 (rd t134 x62_5)).f0) ((rd_T83 l0_2 (rd t134 x62_5)).f1) true _ A52.1).mono ?_); rintro e w66 ⟨rfl, hb⟩; refine ⟨_, rfl, ?_⟩; refine E6 (rB HO_3.1 hb) (rB HO_8.1 hb) (rB HO_60.1 hb) (bB BK120.1 hb) (bB BK126.1 hb) (bS HB.1 hb) ?_; clear HO_3 HO_8 HO_60 BK120 BK126 HB; intro HO_3 HO_8 HO_60 BK120 BK126 HB; (try clear hb); have p140 : 0 <= ((rd t134 x62_5) : Int) := OD; have q140 : (rd t134 x62_5) < (x3_5.length : Int) := OD; obtain ⟨ad140, e140, hx140_0⟩ := Kd.at_int (R_reads' HO_3.1).2.2 (rd t134 x62_5) p140 q140; obtain rfl : (⟨go35, 0, none⟩ : Addr) = ad140 := (by injection e140); (first | simp only [add_plain] at hx140_0 | simp only [add_at] at hx140_0 | simp only [Addr.add, Nat.zero_add] at hx140_0 | skip); replace p140 := eq_true p140; replace q140 := eq_true q140))
         (try simp only [<- hl3_5])
         go_roundg k5
         case measure => have := HK1.1; have := HK2.1; have := HJ18.1; have := HK4.1; have := HK5.1; omega
         case rel => exact ⟨(x3_5), (x8_5), (wrap64 (x62_5 + 1)), RG, H', ⟨by have := HK1.1; have := HK2.1; have := HJ18.1; have := HK4.1; have := HK5.1; omega⟩, ⟨PR4 HO_3.1 hl3_1 hl3_2 hl3_4 hl3_5⟩, ⟨PR4 HO_8.1 hl3_1 hl3_2 hl3_4 hl3_5⟩, ⟨PR4 HO_60.1 hl3_1 hl3_2 hl3_4 hl3_5⟩, ⟨PB4 BK120.1 hl3_1 hl3_2 hl3_4 hl3_5⟩, ⟨PB4 BK126.1 hl3_1 hl3_2 hl3_4 hl3_5⟩, ⟨BL HB.1⟩⟩
       have H' := Aside0.mk H
       clear H
       have p137 : 0 <= (x62_5 : Int) := OD
       have q137 : x62_5 < (t134.length : Int) := OD
       obtain ⟨ad137, e137, hx137_0⟩ := Kd.at_int (R_reads' HO_60.1).2.2 x62_5 p137 q137
       cases e137
       replace p137 := eq_true p137
       replace q137 := eq_true q137
       obtain ⟨hcz68_0, hcz68_1, hcz68_2, hfz68_0, hfz68_1, hfz68_2⟩ := cz3 BK120.1
       have p138 : 0 <= ((rd t134 x62_5) : Int) := OD
       have q138 : (rd t134 x62_5) < (l0_2.length : Int) := OD
       obtain ⟨ad138, e138, hx138_0, hx138_1⟩ := at_T83 HR0_2.1 (rd t134 x62_5) p138 q138
       obtain rfl : ad125 = ad138 := (by injection e138)
       replace hx138_0 := (HB.1.cell (World.block_lt_of_cell? w _ hx138_0)).trans hx138_0
       replace hx138_1 := (HB.1.cell (World.block_lt_of_cell? w _ hx138_1)).trans hx138_1
       replace p138 := eq_true p138
       replace q138 := eq_true q138
       go_wp2_with (first | ((with_reducible refine gate_callee (f := 91) rfl ?_); refine goesM (N := (some 71)) #[.agg #[.int .i64 ((rd_T83 l0_2 (rd t134 x62_5)).f0), .int .i64 ((rd_T83 l0_2 (rd t134 x62_5)).f1)]] Try.func91 ?_; (with_reducible refine (spec_ggGear.calls ((rd_T83 l0_2 (rd t134 x62_5)).f0) ((rd_T83 l0_2 (rd t134 x62_5)).f1) false _ A52.1).mono ?_); rintro e w69 ⟨rfl, hb⟩; refine ⟨_, rfl, ?_⟩; refine E6 (rB HO_3.1 hb) (rB HO_8.1 hb) (rB HO_60.1 hb) (bB BK120.1 hb) (bB BK126.1 hb) (bS HB.1 hb) ?_; clear HO_3 HO_8 HO_60 BK120 BK126 HB; intro HO_3 HO_8 HO_60 BK120 BK126 HB; (try clear hb)))
       (try simp only [<- hl3_5])
       go_roundg k5
       case measure => have := HK1.1; have := HK2.1; have := HJ18.1; have := HK4.1; have := HK5.1; omega
       case rel => exact ⟨(x3_5), (x8_5), (wrap64 (x62_5 + 1)), RG, H', ⟨by have := HK1.1; have := HK2.1; have := HJ18.1; have := HK4.1; have := HK5.1; omega⟩, ⟨PR4 HO_3.1 hl3_1 hl3_2 hl3_4 hl3_5⟩, ⟨PR4 HO_8.1 hl3_1 hl3_2 hl3_4 hl3_5⟩, ⟨PR4 HO_60.1 hl3_1 hl3_2 hl3_4 hl3_5⟩, ⟨PB4 BK120.1 hl3_1 hl3_2 hl3_4 hl3_5⟩, ⟨PB4 BK126.1 hl3_1 hl3_2 hl3_4 hl3_5⟩, ⟨BL HB.1⟩⟩
     (try simp only [hl3_1, hl3_2, hl3_4, hl3_5] at c47b0)
     have H' := Aside0.mk H
     clear H
     go_wp2
     (try simp only [<- hl3_4, <- hl3_5])
     go_roundg k5
     case measure => have := HK1.1; have := HK2.1; have := HJ18.1; have := HK4.1; have := HK5.1; omega
     case rel => exact ⟨(x3_5), (x8_5), (wrap64 (x9_4 + 1)), RG, H', ⟨by have := HK1.1; have := HK2.1; have := HJ18.1; have := HK4.1; have := HK5.1; omega⟩, ⟨by (try simp only [hl3_1]); (try simp only [hl3_2]); (try simp only [hl3_4]); (try simp only [hl3_5]); (with_reducible repeat (first | apply R_alloc | apply R_drewN | apply R_drew)); exact R_mono HO_3.1 (fun _ hk => hk.1)⟩, ⟨by (try simp only [hl3_1]); (try simp only [hl3_2]); (try simp only [hl3_4]); (try simp only [hl3_5]); (with_reducible repeat (first | apply R_alloc | apply R_drewN | apply R_drew)); exact R_mono HO_8.1 (fun _ hk => hk.1)⟩, ⟨PB4 BK120.1 hl3_1 hl3_2 hl3_4 hl3_5⟩, ⟨PB4 BK126.1 hl3_1 hl3_2 hl3_4 hl3_5⟩, ⟨BL HB.1⟩⟩
   (try simp only [hl3_1, hl3_2, hl3_4] at c40b0)
   have H' := Aside0.mk H
   clear H
   obtain ⟨Ao70, co70, eo70⟩ := R_slice HO_8.1
   subst eo70
   go_wp2
   (try simp only [<- hl3_2, <- hl3_4])
   go_roundg k4
   case measure => have := HK1.1; have := HK2.1; have := HJ18.1; have := HK4.1; omega
   case rel => exact ⟨(x3_4), (wrap64 (x5_2 + 1)), (wrap64 (x28_2 + 1)), RG, RG, H', ⟨by have := HK1.1; have := HK2.1; have := HJ18.1; have := HK4.1; omega⟩, ⟨by (try simp only [hl3_1]); (try simp only [hl3_2]); (try simp only [hl3_4]); (with_reducible repeat (first | apply R_alloc | apply R_drewN | apply R_drew)); exact R_mono HO_3.1 (fun _ hk => trivial)⟩, ⟨PB3 BK120.1 hl3_1 hl3_2 hl3_4⟩, ⟨BL HB.1⟩⟩
 (try simp only [hl3_1, hl3_2] at c16b0)
 obtain rfl := Option.some.inj H
 go_wp2
 go_ret
 exact ⟨_, RF, RPE (HO_3.1), BL HB.1⟩
mutual
def spec_saUnits.l0 : Nat -> List Int -> List Int -> Int -> Int -> Int -> Int -> List (S83) -> Option ((List (List Int)))
 | 0, _, _, _, _, _, _, _ => none
 | k + 1, x3, x4, x16, x17, x146000, x146001, x146002 => if x17 < x16 then (if 0 <= x17 then (if x17 < (x4.length : Int) then (spec_saUnits.l0 k x3 (x4.set (x17 : Int).toNat (-1)) x16 (wrap64 (x17 + 1)) x146000 x146001 x146002) else (none)) else (none)) else (spec_saUnits.l1 k x3 x4 ([] : List (List Int)) x146002 (x146002.length : Int) 0)
def spec_saUnits.l1 : Nat -> List Int -> List Int -> List (List Int) -> List (S83) -> Int -> Int -> Option ((List (List Int)))
 | 0, _, _, _, _, _, _ => none
 | k + 1, x3, x4, x6, x25, x26, x27 => if x27 < x26 then (if 0 <= x27 then (if x27 < (x25.length : Int) then (if ((rd_T83 x25 x27).f0) = 3 then (if x6.length < 5864062014805 then (spec_saUnits.l1 k x3 x4 (x6 ++ [(([x27] : List Int))]) x25 x26 (wrap64 (x27 + 1))) else (none)) else (if ((rd_T83 x25 x27).f0) = 6 then (if x27 < (x3.length : Int) then (if 0 <= (rd x3 x27) then (if (rd x3 x27) < (x4.length : Int) then (spec_saUnits.j2 k x3 x4 x6 x27 x25 x26 x27 (decide ((rd x4 (rd x3 x27)) < 0)) ((rd_T83 x25 x27).f0) ((rd_T83 x25 x27).f1)) else (none)) else (none)) else (none)) else (spec_saUnits.j2 k x3 x4 x6 x27 x25 x26 x27 false ((rd_T83 x25 x27).f0) ((rd_T83 x25 x27).f1)))) else (none)) else (none)) else (some x6)
def spec_saUnits.j2 : Nat -> List Int -> List Int -> List (List Int) -> Int -> List (S83) -> Int -> Int -> Bool -> Int -> Int -> Option ((List (List Int)))
 | 0, _, _, _, _, _, _, _, _, _, _ => none
 | k + 1, x3, x4, x6, x7, x25, x26, x27, x41, x155000, x155001 => if x41 = true then (if 0 <= x7 then (if x7 < (x3.length : Int) then (if 0 <= (rd x3 x7) then (if (rd x3 x7) < (x4.length : Int) then (if x6.length < 5864062014805 then (spec_saUnits.l1 k x3 (x4.set ((rd x3 x7) : Int).toNat (x6.length : Int)) (x6 ++ [(([x7] : List Int))]) x25 x26 (wrap64 (x27 + 1))) else (none)) else (none)) else (none)) else (none)) else (none)) else (if x155000 = 6 then (if 0 <= x7 then (if x7 < (x3.length : Int) then (if 0 <= (rd x3 x7) then (if (rd x3 x7) < (x4.length : Int) then (if 0 <= (rd x4 (rd x3 x7)) then (if (rd x4 (rd x3 x7)) < (x6.length : Int) then (if (rd_L3 x6 (rd x4 (rd x3 x7))).length < 17592186044416 then (spec_saUnits.l1 k x3 x4 (x6.set ((rd x4 (rd x3 x7)) : Int).toNat ((rd_L3 x6 (rd x4 (rd x3 x7))) ++ [x7])) x25 x26 (wrap64 (x27 + 1))) else (none)) else (none)) else (none)) else (none)) else (none)) else (none)) else (none)) else (spec_saUnits.l1 k x3 x4 x6 x25 x26 (wrap64 (x27 + 1))))
end
def spec_saUnits.f (k : Nat) (a0_0 : Int) (a0_1 : Int) (l0_2 : List (S83)) : Option ((List (List Int))) := (spec_ggGroups.f k a0_0 a0_1 l0_2).bind fun t146 => (if 0 <= (l0_2.length : Int) then (if ((l0_2.length : Int) : Int).toNat <= 35184372088832 then ((some (List.replicate ((l0_2.length : Int) : Int).toNat 0 : List Int)).bind fun y149 => (spec_saUnits.l0 k t146 y149 (y149.length : Int) 0 a0_0 a0_1 l0_2)) else (none)) else (none))
theorem spec_saUnits.mono_l : ∀ k, (∀ y0 y1 y2 y3 y4 y5 y6, LeO (spec_saUnits.l0 k y0 y1 y2 y3 y4 y5 y6) (spec_saUnits.l0 (k + 1) y0 y1 y2 y3 y4 y5 y6)) /\ (∀ y0 y1 y2 y3 y4 y5, LeO (spec_saUnits.l1 k y0 y1 y2 y3 y4 y5) (spec_saUnits.l1 (k + 1) y0 y1 y2 y3 y4 y5)) /\ (∀ y0 y1 y2 y3 y4 y5 y6 y7 y8 y9, LeO (spec_saUnits.j2 k y0 y1 y2 y3 y4 y5 y6 y7 y8 y9) (spec_saUnits.j2 (k + 1) y0 y1 y2 y3 y4 y5 y6 y7 y8 y9))
 | 0 => by refine ⟨?_, ?_, ?_⟩ <;> (intros; intro r h; first | (simp [spec_saUnits.l0] at h; done) | (simp [spec_saUnits.l1] at h; done) | (simp [spec_saUnits.j2] at h; done))
 | k + 1 => by
  obtain ⟨ih0, ih1, ih2⟩ := spec_saUnits.mono_l k
  refine ⟨?_, ?_, ?_⟩ <;> (
   intros
   first | unfold spec_saUnits.l0 | unfold spec_saUnits.l1 | unfold spec_saUnits.j2
   exact LM4 ih0 ih1 ih2 spec_ggGroups.mono)
theorem spec_saUnits.mono : ∀ a0 a1 a2 k, LeO (spec_saUnits.f k a0 a1 a2) (spec_saUnits.f (k + 1) a0 a1 a2) := by
 intro a0 a1 a2 k
 obtain ⟨ih0, ih1, ih2⟩ := spec_saUnits.mono_l k
 unfold spec_saUnits.f
 exact LM4 ih0 ih1 ih2 spec_ggGroups.mono
def spec_saUnits.T18 : Bool × List (List Nat × List Nat) := (true, [([], []), ([], []), ([], []), ([], []), ([2, 3], [2, 3]), ([4], [4]), ([1, 5], [1, 5]), ([6], [6]), ([], []), ([], []), ([], []), ([], []), ([10, 11], [10, 11]), ([12], [12]), ([9, 13], [9, 13]), ([14], [14]), ([8, 15], [8, 15]), ([16], [16]), ([], []), ([18], [18]), ([17, 19], [17, 19]), ([0, 7, 0, 1, 2, 3, 4, 5, 6, 7, 8, 9, 10, 11, 12, 13, 14, 15, 16, 17, 18, 19, 20], [0, 7]), ([21, 20, 20, 0, 1, 2, 3, 4, 5, 6, 7, 8, 9, 10, 11, 12, 13, 14, 15, 16, 17, 18, 19, 20], [20, 21])])
def spec_saUnits.B18 : List Nat := [0, 0, 0, 0, 12, 28, 62, 126, 0, 0, 0, 0, 3072, 7168, 15872, 32256, 65280, 130816, 0, 262144, 1048320, 2097151, 4194303]
theorem spec_saUnits.tab18 : rtab .any (opsOf Try.f52 18) = spec_saUnits.T18 := by kernel_rfl
theorem spec_saUnits.bits18 : waitsOk spec_saUnits.T18.2 spec_saUnits.B18 = true := by kernel_rfl
theorem spec_saUnits.calls (k : Nat) (a0_0 : Int) (a0_1 : Int) (A0_2 : Option Addr) (c0_2 : Nat) (l0_2 : List (S83)) (r : List (List Int)) (w : World) (hr0_2 : Kd.C k83 w A0_2 l0_2.length l0_2) (hc0_2 : l0_2.length <= c0_2) (h : spec_saUnits.f k a0_0 a0_1 l0_2 = some r) :
 Calls Try.prog 52 #[.agg #[.int .i64 a0_0, .int .i64 a0_1, .slice A0_2 l0_2.length c0_2]] w fun e w' => ∃ v0_ : Value, e = .returned (v0_) /\ Kd.S (Kd.slice 3 (Kd.int .i64)) 38 w' w.heap.size (fun _ => True) v0_ r /\ Below w.heap.size w w' := by
 have hu30 := Try.underlying30
 have hu83 := Try.underlying83
 have HR0_2 := Aside0.mk hr0_2
 have HC0_2 := Aside0.mk hc0_2
 clear hr0_2 hc0_2
 have HB := Aside0.mk (Below.refl w.heap.size w)
 have H := h
 clear h
 unfold spec_saUnits.f at H
 replace H := bindA H; obtain ⟨t146, A2, H⟩ := H
 replace H := ifP H; obtain ⟨c3, H⟩ := H
 have c3b0 := eq_true c3
 have c3b1 := decide_eq_true c3
 clear c3
 replace H := ifP H; obtain ⟨c4, H⟩ := H
 have c4b0 := eq_true c4
 have c4b1 := decide_eq_true c4
 clear c4
 replace H := nameB H; obtain ⟨y149, Ny149, H⟩ := H
 have H' := Aside0.mk H
 clear H
 go_enter Try.func52, Try.ntmps52
 go_wp2_with (first | ((with_reducible refine gate_dst (N := 1) rfl ?_); refine boxE (cs := #[.int .i64 a0_0, .int .i64 a0_1, .slice A0_2 l0_2.length c0_2]) (t := 30) ?_; intro gb145 hg w5 hbox hb; refine E4b HB.1 hg hbox hb ?_; clear HB; intro HB BK145 GW145 GE145; clear hb hbox hg; obtain ⟨hcz6_0, hcz6_1, hcz6_2, hfz6_0, hfz6_1, hfz6_2⟩ := cz3 BK145.1) | ((with_reducible refine gate_callee (f := 80) rfl ?_); refine goesM (N := (some 10)) #[.agg #[.int .i64 a0_0, .int .i64 a0_1, .slice A0_2 l0_2.length c0_2]] Try.func80 ?_; (with_reducible refine (spec_ggGroups.calls k a0_0 a0_1 _ _ l0_2 t146 _ ?side1 ?side2 A2.1).mono ?_); (case side1 => exact CB (C_below HR0_2.1 HB.1)); (case side2 => exact HC0_2.1); rintro e w7 ⟨v147, rfl, ho0, hb⟩; refine ⟨_, rfl, ?_⟩; refine E3 (R_lower ho0 (bZ HB.1)) (bB BK145.1 hb) (bS HB.1 hb) ?_; clear BK145 HB; intro HO148 BK145 HB; (try clear hb); (try clear ho0); obtain ⟨hcz8_0, hcz8_1, hcz8_2, hfz8_0, hfz8_1, hfz8_2⟩ := cz3 BK145.1) | ((with_reducible refine gate_dst (N := 14) rfl ?_); refine R_make (Kd.int .i64) _ 3 rfl (N := 14) rfl 38 _ _ rfl (l0_2.length : Int) rfl rfl Try.underlying38 (.int .i64 0) 8 info3 rfl (by decide) (by omega) 0 (ok := fun _ => True) (okp := fun _ => True) rfl (fun _ hk => hk) trivial (OD) (Nat.le_trans (Nat.mul_le_mul_right _ (OD : (l0_2.length : Int).toNat <= 35184372088832)) (by omega)) (Below.refl _ _) (Nat.le_refl _) ?_; intro v150 w9 ho10 hb hg_ hnew_; clear hg_ hnew_; (first | rw [<- Ny149.1] at ho10 | (simp only [Int.reduceToNat] at ho10; rw [<- Ny149.1] at ho10)); refine E4 (R_elder' (PR HO148.1) (R_base ho10) hb) (R_lower (R_new' ho10 (R_lt (PR HO148.1))) (bZ HB.1)) (bB BK145.1 hb) (bS HB.1 hb) ?_; clear HO148 BK145 HB; intro HO148 HO151 BK145 HB; clear hb ho10; obtain ⟨Ao11, co11, eo11⟩ := R_slice HO151.1; subst eo11))
 go_loopg [17] k (fun kq v17 w' => ∃ (x4_1 : List Int) (x17_1 : Int), v17 = .int .i64 x17_1 /\ Aside0 (spec_saUnits.l0 kq t146 x4_1 (y149.length : Int) x17_1 a0_0 a0_1 l0_2 = some r) /\ Aside0 (kq <= k) /\ Aside0 (Kd.R (Kd.int .i64) 3 w' w.heap.size (fun k_ => some k_ ≠ ((.slice Ao11 y149.length co11) : Value).ownBlock) v147 t146) /\ Aside0 (Kd.R (Kd.int .i64) 3 w' w.heap.size (fun k_ => some k_ ≠ (v147 : Value).ownBlock) (.slice Ao11 y149.length co11) x4_1) /\ Aside0 (w'.heap[gb145]? = some (.cells #[.int .i64 a0_0, .int .i64 a0_1, (.slice A0_2 l0_2.length c0_2)] 30 (0, 0))) /\ Aside0 (Below w.heap.size w w'))
 case atStart => exact ⟨(y149), (0), RG, H', ⟨Nat.le_refl _⟩, ⟨RPE (R_mono HO148.1 (fun _ hk => hk.2))⟩, ⟨RPE (R_mono HO151.1 (fun _ hk => hk.2))⟩, ⟨PB BK145.1⟩, ⟨BL HB.1⟩⟩
 clear H'
 clear c3b0 c3b1 c4b0 c4b1 hcz6_0 hcz6_1 hcz6_2 hcz8_0 hcz8_1 hcz8_2 hfz6_0 hfz6_1 hfz6_2 hfz8_0 hfz8_1 hfz8_2
 obtain ⟨x4_1, x17_1, rfl, HA, HK1, HO_3, HO_4, BK145, HB⟩ := hrel
 have hl4_1 := (R_reads' HO_4.1).1
 rw [hl4_1] at HO_4
 (try simp only [hl4_1])
 (try simp only [hl4_1] at BK145)
 (try simp only [hl4_1] at HO_3)
 cases gk with
 | zero => exact absurd HA.1 (by simp [spec_saUnits.l0])
 | succ k1 => ?_
 have H := HA.1
 clear HA
 simp only [spec_saUnits.l0] at H
 replace H := ifB H; rcases H with ⟨c12b0, H⟩ | ⟨c12b0, H⟩
 · replace H := ifN H; obtain ⟨c13b0, H⟩ := H
   replace H := ifN H; obtain ⟨c14b0, H⟩ := H
   generalize hy152 : ((x4_1.set (x17_1 : Int).toNat (-1)) : List Int) = y152 at H
   have Ny152 := Aside0.mk hy152.symm; clear hy152
   have H' := Aside0.mk H
   clear H
   have p15 : 0 <= (x17_1 : Int) := OD
   have q15 : (x17_1 : Int) < ((x4_1.length : Int) : Int) := OD
   obtain ⟨go15, co15, eo15, gb15, gl15, cl15, HG15⟩ := R_form HO_4.1 (by omega)
   (first | cases eo15 | (injection eo15 with ea_ en_ ec_; (first | subst ea_ | (injection ea_ with ea_; subst ea_)); subst ec_; clear en_))
   have GB15 := Aside0.mk gb15
   have GG15 := Aside0.mk HG15
   clear gb15 gl15 HG15
   obtain ⟨hx15_0, hf15_0⟩ := R_celln 0 HO_4.1 (x17_1 : Int) p15 q15
   replace p15 := eq_true p15
   replace q15 := eq_true q15
   have HP16 := R_putg HO_4.1 (x17_1 : Int) (-1)
   go_wp2_with (first | ((with_reducible refine gate_store (t := 3) (p := 22) rfl ?_); refine storeE (t := 3) (p := 22) (w1 := (wr.setCell ⟨go15, (x17_1 : Int).toNat, none⟩ (.int .i64 (-1)))) ?_; intro w17 hw; have hg : wr.grownBy w17 (some go15) := (by rw [hw]; exact HP16.2); have hp_ : Kd.R (Kd.int .i64) 3 w17 w.heap.size (fun k_ => some k_ ≠ (v147 : Value).ownBlock) (.slice (some ⟨go15, 0, none⟩) x4_1.length co11) y152 := (by rw [hw, Ny152.1]; exact HP16.1); clear HP16; refine E4 (R_after (v := (.slice (some ⟨go15, 0, none⟩) x4_1.length co11)) (v1 := (.slice (some ⟨go15, 0, none⟩) x4_1.length co11)) (ok := (fun _ => True)) (RPE (R_mono HO_3.1 (fun _ hk => ⟨trivial, hk⟩))) hg (.inl rfl)) (hp_) (bG BK145.1 hg (R_ne HO_4.1 BK145.1 (by decide))) ((by rw [hw]; exact below_set (HB.1) GB15.1 : Below w.heap.size w w17)) ?_; clear HO_3 HO_4 BK145 HB; intro HO_3 HO_4 BK145 HB; clear hg hw hp_))
   (try simp only [<- hl4_1])
   go_roundg k1
   case measure => have := HK1.1; omega
   case rel => exact ⟨(y152), (wrap64 (x17_1 + 1)), RG, H', ⟨by have := HK1.1; omega⟩, ⟨by (try simp only [hl4_1]); (with_reducible repeat (first | apply R_alloc | apply R_drewN | apply R_drew)); exact R_mono HO_3.1 (fun _ hk => hk.2)⟩, ⟨PR1 HO_4.1 hl4_1⟩, ⟨PB1 BK145.1 hl4_1⟩, ⟨BL HB.1⟩⟩
 (try simp only [hl4_1] at c12b0)
 have H' := Aside0.mk H
 clear H
 obtain ⟨hcz18_0, hcz18_1, hcz18_2, hfz18_0, hfz18_1, hfz18_2⟩ := cz3 BK145.1
 go_wp2
 go_loopg [6, 27] k1 (fun kq v6 v27 w' => ∃ (x4_2 : List Int) (x6_2 : List (List Int)) (x27_2 : Int), v27 = .int .i64 x27_2 /\ Aside0 (spec_saUnits.l1 kq t146 x4_2 x6_2 l0_2 (l0_2.length : Int) x27_2 = some r) /\ Aside0 (kq <= k1) /\ Aside0 (Kd.R (Kd.int .i64) 3 w' w.heap.size (fun k_ => some k_ ≠ ((.slice Ao11 x4_1.length co11) : Value).ownBlock) v147 t146) /\ Aside0 (Kd.R (Kd.int .i64) 3 w' w.heap.size (fun k_ => some k_ ≠ (v147 : Value).ownBlock) (.slice Ao11 x4_1.length co11) x4_2) /\ Aside0 (Kd.S (Kd.slice 3 (Kd.int .i64)) 38 w' w.heap.size (fun k_ => some k_ ≠ (v147 : Value).ownBlock /\ some k_ ≠ ((.slice Ao11 x4_1.length co11) : Value).ownBlock) v6 x6_2) /\ Aside0 (w'.heap[gb145]? = some (.cells #[.int .i64 a0_0, .int .i64 a0_1, (.slice A0_2 l0_2.length c0_2)] 30 (0, 0))) /\ Aside0 (Below w.heap.size w w'))
 case atStart => exact ⟨(x4_1), (([] : List (List Int))), (0), RG, H', ⟨Nat.le_refl _⟩, ⟨PR1 HO_3.1 hl4_1⟩, ⟨PR1 HO_4.1 hl4_1⟩, ⟨by (try simp only [hl4_1]); first | exact S_nil _ _ _ _ _ | exact N_nil _ _ _ _ _ | exact V_nil _ _ _ _ _ | exact Q_nil _ _ _ _ _ | exact R_nil _ _ _ _ _⟩, ⟨PB1 BK145.1 hl4_1⟩, ⟨BL HB.1⟩⟩
 clear H'
 clear c12b0 hcz18_0 hcz18_1 hcz18_2 hfz18_0 hfz18_1 hfz18_2
 obtain ⟨x4_2, x6_2, x27_2, rfl, HA, HK2, HO_3, HO_4, HO_6, BK145, HB⟩ := hrel
 have hl4_2 := (R_reads' HO_4.1).1
 rw [hl4_2] at HO_4
 (try simp only [hl4_2])
 (try simp only [hl4_2] at BK145)
 (try simp only [hl4_2] at HO_3)
 (try simp only [hl4_2] at HO_6)
 cases gk with
 | zero => exact absurd HA.1 (by simp [spec_saUnits.l1])
 | succ k2 => ?_
 have H := HA.1
 clear HA
 simp only [spec_saUnits.l1] at H
 replace H := ifB H; rcases H with ⟨c19b0, H⟩ | ⟨c19b0, H⟩
 · replace H := ifN H; obtain ⟨c20b0, H⟩ := H
   replace H := ifN H; obtain ⟨c21b0, H⟩ := H
   replace H := ifQ H; rcases H with ⟨c22, H⟩ | ⟨c22, H⟩
   · have c22b0 := beq_iff_eq.mpr c22
     have c22b1 := bne_eq_false_iff_eq.mpr c22
     clear c22
     generalize hy155 : ((([x27_2] : List Int)) : List Int) = y155 at H
     have Ny155 := Aside0.mk hy155.symm; clear hy155
     replace H := ifP H; obtain ⟨c23, H⟩ := H
     have LMc23 := Aside0.mk c23
     clear c23
     generalize hy158 : ((x6_2 ++ [y155]) : List (List Int)) = y158 at H
     have Ny158 := Aside0.mk hy158.symm; clear hy158
     have H' := Aside0.mk H
     clear H
     have p153 : 0 <= (x27_2 : Int) := OD
     have q153 : x27_2 < (l0_2.length : Int) := OD
     obtain ⟨ad153, e153, hx153_0, hx153_1⟩ := at_T83 HR0_2.1 x27_2 p153 q153
     cases e153
     replace hx153_0 := (HB.1.cell (World.block_lt_of_cell? w _ hx153_0)).trans hx153_0
     replace hx153_1 := (HB.1.cell (World.block_lt_of_cell? w _ hx153_1)).trans hx153_1
     replace p153 := eq_true p153
     replace q153 := eq_true q153
     go_wp2_with (first | ((with_reducible refine gate_dst (N := 8) rfl ?_); refine boxE (cs := #[.int .i64 0, .int .i64 0]) (t := 83) ?_; intro gb154 hg w24 hbox hb; refine E10 (rB HO_3.1 hb) (rB HO_4.1 hb) (sB HO_6.1 hb) (bB BK145.1 hb) (bS HB.1 hb) (hbox) (gX HB.1 hg) (gX HB.1 hg) (nB BK145.1 hg) (nC BK145.1 hg) ?_; clear HO_3 HO_4 HO_6 BK145 HB; intro HO_3 HO_4 HO_6 BK145 HB BK154 GW154 GE154 NB145_154 NB154_145; clear hb hbox hg; have hnb25 := NB154_145.1; have hnc25 := NB145_154.1; obtain ⟨hcz26_0, hcz26_1, hfz26_0, hfz26_1⟩ := cz2 BK154.1) | ((with_reducible refine gate_dst (N := 38) rfl ?_); refine R_lit (Kd.int .i64) _ 3 ?hg (N := 38) ?hd (xs := ([x27_2] : List Int)) (inner := [.int .i64 x27_2]) (ok := fun _ => True) (okp := fun _ => True) ?hr ?hp (fun _ hk => hk) trivial (Below.refl _ _) (Nat.le_refl _) (by simp) ?_; (case hd => rfl); (case hg => rfl); (case hr => first | (go_simp; done) | (go_simp; rfl)); (case hp => exact (Reps.one (show Kd.M (Kd.int .i64) _ _ _ x27_2 [.int .i64 x27_2] from rfl) (Reps.none _ _))); intro v156 w27 ho28 hb hg_ hnew_; clear hg_ hnew_; (first | rw [<- Ny155.1] at ho28 | (simp only [Int.reduceToNat] at ho28; rw [<- Ny155.1] at ho28)); refine E7 (R_elder' (by (with_reducible repeat (first | apply R_alloc | apply R_drewN | apply R_drew)); exact (R_mono (RQ gb154 1 (RQ gb154 0 (R_types HO_3.1 BK154.1 (by decide)) _) _) (fun _ h_ => h_.1))) (R_base ho28) hb) (R_elder' (by (with_reducible repeat (first | apply R_alloc | apply R_drewN | apply R_drew)); exact (R_mono (RQ gb154 1 (RQ gb154 0 (R_types HO_4.1 BK154.1 (by decide)) _) _) (fun _ h_ => h_.1))) (R_base ho28) hb) (S_elder' (by (with_reducible repeat (first | apply S_alloc | apply S_drewN | apply S_drew)); exact (S_mono (SQ gb154 1 (SQ gb154 0 (S_types HO_6.1 BK154.1 (by decide)) _) _) (fun _ h_ => h_.1))) (R_base ho28) hb) (R_lower (R_new' (R_new' ho28 (R_lt (by (with_reducible repeat (first | apply R_alloc | apply R_drewN | apply R_drew)); exact (R_mono (RQ gb154 1 (RQ gb154 0 (R_types HO_3.1 BK154.1 (by decide)) _) _) (fun _ h_ => h_.1))))) (R_lt (by (with_reducible repeat (first | apply R_alloc | apply R_drewN | apply R_drew)); exact (R_mono (RQ gb154 1 (RQ gb154 0 (R_types HO_4.1 BK154.1 (by decide)) _) _) (fun _ h_ => h_.1))))) (bZ HB.1)) (blk_below (g := gb145) (o := .cells #[.int .i64 a0_0, .int .i64 a0_1, .slice (some ad153) l0_2.length c0_2] 30 (0, 0)) (PF1 NB145_154.1 BK145.1) hb) (blk_below (g := gb154) (o := .cells #[.int .i64 ((rd_T83 l0_2 x27_2).f0), .int .i64 ((rd_T83 l0_2 x27_2).f1)] 83 (0, 0)) (PF0 BK154.1) hb) (bS HB.1 hb) ?_; clear HO_3 HO_4 HO_6 BK145 BK154 HB; intro HO_3 HO_4 HO_6 HO157 BK145 BK154 HB; clear hb ho28; obtain ⟨Ao30, co30, eo30⟩ := R_slice HO157.1; subst eo30) | ((with_reducible refine gate_builtin (b := .append) (xs := #[.tmp 36, .tmp 39]) rfl ?_); at_builtin; refine S_append (Kd.slice 3 (Kd.int .i64)) (w0 := w) w.heap.size rfl (.tmp 36) (.tmp 39) 60 38 (.slice none 0 0) 24 rfl Try.underlying60 info38 rfl (by decide) (by omega) u6 x6_2 y155 [.slice Ao30 y155.length co30] (fun k_ => some k_ ≠ (v147 : Value).ownBlock /\ some k_ ≠ (.slice Ao11 x4_2.length co11 : Value).ownBlock) (fun k_ => some k_ = (.slice Ao30 y155.length co30 : Value).ownBlock) rfl rfl ?aP (fun k_ hk_ => ((R_mono (ok' := fun k_ => ((fun k_ => some k_ ≠ (v147 : Value).ownBlock /\ some k_ ≠ (.slice Ao11 x4_2.length co11 : Value).ownBlock)) k_ /\ some k_ ≠ (u6 : Value).ownBlock) (R_apart' (HO157.1) (S_typed HO_6.1) (by decide)) (fun k_ hk => ⟨⟨hk.1.1.2, hk.1.2⟩, hk.2⟩))).1 k_ hk_.symm) ?aF ?aO ?aB ?aS ?aL ?_; (case aP => exact M_row (R_mono (R_tight rfl (R_mono (ok' := fun k_ => ((fun k_ => some k_ ≠ (v147 : Value).ownBlock /\ some k_ ≠ (.slice Ao11 x4_2.length co11 : Value).ownBlock)) k_ /\ some k_ ≠ (u6 : Value).ownBlock) (R_apart' (HO157.1) (S_typed HO_6.1) (by decide)) (fun k_ hk => ⟨⟨hk.1.1.2, hk.1.2⟩, hk.2⟩))) (fun _ h_ => h_))); (case aB => exact (BL HB.1)); (case aF => exact (fun k_ hk => ⟨Kd.fresh' (R_lt (PR HO_3.1)) k_ hk, Kd.fresh' (R_lt (PR HO_4.1)) k_ hk⟩)); (case aO => exact (SPE (S_mono HO_6.1 (fun k_ hk => ⟨⟨hk.1.1, hk.1.2⟩, fun e_ => hk.2 e_⟩)))); (case aS => exact (bZ HB.1)); (case aL => have := LMc23.1; omega); intro v159 w29 ho hb hg hat; rw [<- Ny158.1] at ho; refine E6 (R_over' (PR HO_3.1) (S_typed (PS HO_6.1)) (by decide) hg) (R_over' (PR HO_4.1) (S_typed (PS HO_6.1)) (by decide) hg) (bG BK145.1 hg (S_ne HO_6.1 BK145.1 (by decide))) (bG BK154.1 hg (S_ne HO_6.1 BK154.1 (by decide))) (hb) (ho) ?_; clear HO_3 HO_4 BK145 BK154 HB HO_6 HO157; intro HO_3 HO_4 BK145 BK154 HB HO160; clear ho hb hg hat))
     (try simp only [<- hl4_2])
     go_roundg k2
     case measure => have := HK1.1; have := HK2.1; omega
     case rel => exact ⟨(x4_2), (y158), (wrap64 (x27_2 + 1)), RG, H', ⟨by have := HK1.1; have := HK2.1; omega⟩, ⟨by (try simp only [hl4_1]); (try simp only [hl4_2]); (with_reducible repeat (first | apply R_alloc | apply R_drewN | apply R_drew)); exact R_mono HO_3.1 (fun _ hk => hk.1)⟩, ⟨by (try simp only [hl4_1]); (try simp only [hl4_2]); (with_reducible repeat (first | apply R_alloc | apply R_drewN | apply R_drew)); exact R_mono HO_4.1 (fun _ hk => hk.1)⟩, ⟨PS2 HO160.1 hl4_1 hl4_2⟩, ⟨PB2 BK145.1 hl4_1 hl4_2⟩, ⟨BL HB.1⟩⟩
   have c22b0 := beq_eq_false_iff_ne.mpr c22
   have c22b1 := bne_iff_ne.mpr c22
   have HC31 := Aside0.mk H
   clear H
   have p153 : 0 <= (x27_2 : Int) := OD
   have q153 : x27_2 < (l0_2.length : Int) := OD
   obtain ⟨ad153, e153, hx153_0, hx153_1⟩ := at_T83 HR0_2.1 x27_2 p153 q153
   cases e153
   replace hx153_0 := (HB.1.cell (World.block_lt_of_cell? w _ hx153_0)).trans hx153_0
   replace hx153_1 := (HB.1.cell (World.block_lt_of_cell? w _ hx153_1)).trans hx153_1
   replace p153 := eq_true p153
   replace q153 := eq_true q153
   go_upto_region 14 with (first | ((with_reducible refine gate_dst (N := 8) rfl ?_); refine boxE (cs := #[.int .i64 0, .int .i64 0]) (t := 83) ?_; intro gb154 hg w32 hbox hb; refine E10 (rB HO_3.1 hb) (rB HO_4.1 hb) (sB HO_6.1 hb) (bB BK145.1 hb) (bS HB.1 hb) (hbox) (gX HB.1 hg) (gX HB.1 hg) (nB BK145.1 hg) (nC BK145.1 hg) ?_; clear HO_3 HO_4 HO_6 BK145 HB; intro HO_3 HO_4 HO_6 BK145 HB BK154 GW154 GE154 NB145_154 NB154_145; clear hb hbox hg; have hnb33 := NB154_145.1; have hnc33 := NB145_154.1; obtain ⟨hcz34_0, hcz34_1, hfz34_0, hfz34_1⟩ := cz2 BK154.1))
   (try simp only [Act.put, List.setIfInBounds_toArray, List.set_cons_zero, List.set_cons_succ])
   go_cut [41] (fun v41 wc => ∃ (kq : Nat) (x41_30 : Bool), v41 = .bool x41_30 /\ Aside0 (spec_saUnits.j2 kq t146 x4_2 x6_2 x27_2 l0_2 (l0_2.length : Int) x27_2 x41_30 ((rd_T83 l0_2 x27_2).f0) ((rd_T83 l0_2 x27_2).f1) = some r) /\ Aside0 (kq <= k2) /\ Aside0 (Kd.R (Kd.int .i64) 3 wc w.heap.size (fun k_ => some k_ ≠ ((.slice Ao11 x4_2.length co11) : Value).ownBlock) v147 t146) /\ Aside0 (Kd.R (Kd.int .i64) 3 wc w.heap.size (fun k_ => some k_ ≠ (v147 : Value).ownBlock) (.slice Ao11 x4_2.length co11) x4_2) /\ Aside0 (Kd.S (Kd.slice 3 (Kd.int .i64)) 38 wc w.heap.size (fun k_ => some k_ ≠ (v147 : Value).ownBlock /\ some k_ ≠ ((.slice Ao11 x4_2.length co11) : Value).ownBlock) u6 x6_2) /\ Aside0 (wc.heap[gb145]? = some (.cells #[.int .i64 a0_0, .int .i64 a0_1, (.slice (some ad153) l0_2.length c0_2)] 30 (0, 0))) /\ Aside0 (wc.heap[gb154]? = some (.cells #[.int .i64 ((rd_T83 l0_2 x27_2).f0), .int .i64 ((rd_T83 l0_2 x27_2).f1)] 83 (0, 0))) /\ Aside0 (Below w.heap.size w wc))
   case first =>
    have H := HC31.1
    clear HC31
    replace H := ifQ H; rcases H with ⟨c35, H⟩ | ⟨c35, H⟩
    · have c35b0 := beq_iff_eq.mpr c35
      have c35b1 := bne_eq_false_iff_eq.mpr c35
      clear c35
      (first | rw [c35b0] | (simp only [i64_w, i32_w]; rw [c35b0]) | skip)
      replace H := ifN H; obtain ⟨c36b0, H⟩ := H
      replace H := ifN H; obtain ⟨c37b0, H⟩ := H
      replace H := ifN H; obtain ⟨c38b0, H⟩ := H
      have H' := Aside0.mk H
      clear H
      obtain ⟨hcz40_0, hcz40_1, hfz40_0, hfz40_1⟩ := cz2 BK154.1
      obtain ⟨Ao41, co41, eo41⟩ := R_slice HO_3.1
      subst eo41
      have p161 : 0 <= (x27_2 : Int) := OD
      have q161 : x27_2 < (t146.length : Int) := OD
      obtain ⟨ad161, e161, hx161_0⟩ := Kd.at_int (R_reads' HO_3.1).2.2 x27_2 p161 q161
      cases e161
      have hn161_0 : ad161.block ≠ gb154 := Kd.own_blk (R_ne HO_3.1 BK154.1 (by decide))
      have hn161_1 : ad161.block ≠ gb154 := Kd.own_blk (R_ne HO_3.1 BK154.1 (by decide))
      replace hx161_0 := (cell_far (p := ⟨gb154, 0, none⟩) (by first | (rw [add_block]; exact hn161_0) | (show (Addr.add _ _).block ≠ _; rw [add_block]; exact hn161_0) | exact hn161_0) (.int .i64 ((rd_T83 l0_2 x27_2).f0))).trans hx161_0
      replace hx161_0 := (cell_far (p := ⟨gb154, 1, none⟩) (by first | (rw [add_block]; exact hn161_1) | (show (Addr.add _ _).block ≠ _; rw [add_block]; exact hn161_1) | exact hn161_1) (.int .i64 ((rd_T83 l0_2 x27_2).f1))).trans hx161_0
      clear hn161_0
      clear hn161_1
      replace p161 := eq_true p161
      replace q161 := eq_true q161
      have p162 : 0 <= ((rd t146 x27_2) : Int) := OD
      have q162 : (rd t146 x27_2) < (x4_2.length : Int) := OD
      obtain ⟨ad162, e162, hx162_0⟩ := Kd.at_int (R_reads' HO_4.1).2.2 (rd t146 x27_2) p162 q162
      cases e162
      have hn162_0 : ad162.block ≠ gb154 := Kd.own_blk (R_ne HO_4.1 BK154.1 (by decide))
      have hn162_1 : ad162.block ≠ gb154 := Kd.own_blk (R_ne HO_4.1 BK154.1 (by decide))
      replace hx162_0 := (cell_far (p := ⟨gb154, 0, none⟩) (by first | (rw [add_block]; exact hn162_0) | (show (Addr.add _ _).block ≠ _; rw [add_block]; exact hn162_0) | exact hn162_0) (.int .i64 ((rd_T83 l0_2 x27_2).f0))).trans hx162_0
      replace hx162_0 := (cell_far (p := ⟨gb154, 1, none⟩) (by first | (rw [add_block]; exact hn162_1) | (show (Addr.add _ _).block ≠ _; rw [add_block]; exact hn162_1) | exact hn162_1) (.int .i64 ((rd_T83 l0_2 x27_2).f1))).trans hx162_0
      clear hn162_0
      clear hn162_1
      replace p162 := eq_true p162
      replace q162 := eq_true q162
      go_wp2
      go_meet
      case rel => exact ⟨_, (decide ((rd x4_2 (rd t146 x27_2)) < 0)), RG, H', ⟨by have := HK1.1; have := HK2.1; first | omega | exact Nat.le_refl _⟩, ⟨by (try simp only [hl4_1]); (try simp only [hl4_2]); (with_reducible repeat (first | apply R_alloc | apply R_drewN | apply R_drew)); exact R_mono (RQ gb154 1 (RQ gb154 0 (R_types HO_3.1 BK154.1 (by decide)) _) _) (fun _ hk => hk.1)⟩, ⟨by (try simp only [hl4_1]); (try simp only [hl4_2]); (with_reducible repeat (first | apply R_alloc | apply R_drewN | apply R_drew)); exact R_mono (RQ gb154 1 (RQ gb154 0 (R_types HO_4.1 BK154.1 (by decide)) _) _) (fun _ hk => hk.1)⟩, ⟨by (try simp only [hl4_1]); (try simp only [hl4_2]); (with_reducible repeat (first | apply S_alloc | apply S_drewN | apply S_drew)); exact S_mono (SQ gb154 1 (SQ gb154 0 (S_types HO_6.1 BK154.1 (by decide)) _) _) (fun _ hk => ⟨hk.1.1, hk.1.2⟩)⟩, ⟨by (try simp only [hl4_1]); (try simp only [hl4_2]); (with_reducible repeat (first | refine blk_drewN ?_ _ | refine blk_drew ?_ | refine blk_alloc ?_ _)); refine blk_far ?_ NB145_154.1 _; (with_reducible repeat (first | refine blk_drewN ?_ _ | refine blk_drew ?_ | refine blk_alloc ?_ _)); refine blk_far ?_ NB145_154.1 _; (with_reducible repeat (first | refine blk_drewN ?_ _ | refine blk_drew ?_ | refine blk_alloc ?_ _)); exact BK145.1⟩, ⟨by (try simp only [hl4_1]); (try simp only [hl4_2]); (with_reducible repeat (first | refine blk_drewN ?_ _ | refine blk_drew ?_ | refine blk_alloc ?_ _)); refine blk_put (cs := #[.int .i64 ((rd_T83 l0_2 x27_2).f0), .int .i64 0]) ?_ 1 _ rfl; (with_reducible repeat (first | refine blk_drewN ?_ _ | refine blk_drew ?_ | refine blk_alloc ?_ _)); refine blk_put (cs := #[.int .i64 0, .int .i64 0]) ?_ 0 _ rfl; (with_reducible repeat (first | refine blk_drewN ?_ _ | refine blk_drew ?_ | refine blk_alloc ?_ _)); exact BK154.1⟩, ⟨BL HB.1⟩⟩
    have c35b0 := beq_eq_false_iff_ne.mpr c35
    have c35b1 := bne_iff_ne.mpr c35
    (first | rw [c35b0] | (simp only [i64_w, i32_w]; rw [c35b0]) | skip)
    have H' := Aside0.mk H
    clear H
    obtain ⟨hcz43_0, hcz43_1, hfz43_0, hfz43_1⟩ := cz2 BK154.1
    go_wp2
    go_meet
    case rel => exact ⟨_, (false), RG, H', ⟨by have := HK1.1; have := HK2.1; first | omega | exact Nat.le_refl _⟩, ⟨by (try simp only [hl4_1]); (try simp only [hl4_2]); (with_reducible repeat (first | apply R_alloc | apply R_drewN | apply R_drew)); exact R_mono (RQ gb154 1 (RQ gb154 0 (R_types HO_3.1 BK154.1 (by decide)) _) _) (fun _ hk => hk.1)⟩, ⟨by (try simp only [hl4_1]); (try simp only [hl4_2]); (with_reducible repeat (first | apply R_alloc | apply R_drewN | apply R_drew)); exact R_mono (RQ gb154 1 (RQ gb154 0 (R_types HO_4.1 BK154.1 (by decide)) _) _) (fun _ hk => hk.1)⟩, ⟨by (try simp only [hl4_1]); (try simp only [hl4_2]); (with_reducible repeat (first | apply S_alloc | apply S_drewN | apply S_drew)); exact S_mono (SQ gb154 1 (SQ gb154 0 (S_types HO_6.1 BK154.1 (by decide)) _) _) (fun _ hk => ⟨hk.1.1, hk.1.2⟩)⟩, ⟨by (try simp only [hl4_1]); (try simp only [hl4_2]); (with_reducible repeat (first | refine blk_drewN ?_ _ | refine blk_drew ?_ | refine blk_alloc ?_ _)); refine blk_far ?_ NB145_154.1 _; (with_reducible repeat (first | refine blk_drewN ?_ _ | refine blk_drew ?_ | refine blk_alloc ?_ _)); refine blk_far ?_ NB145_154.1 _; (with_reducible repeat (first | refine blk_drewN ?_ _ | refine blk_drew ?_ | refine blk_alloc ?_ _)); exact BK145.1⟩, ⟨by (try simp only [hl4_1]); (try simp only [hl4_2]); (with_reducible repeat (first | refine blk_drewN ?_ _ | refine blk_drew ?_ | refine blk_alloc ?_ _)); refine blk_put (cs := #[.int .i64 ((rd_T83 l0_2 x27_2).f0), .int .i64 0]) ?_ 1 _ rfl; (with_reducible repeat (first | refine blk_drewN ?_ _ | refine blk_drew ?_ | refine blk_alloc ?_ _)); refine blk_put (cs := #[.int .i64 0, .int .i64 0]) ?_ 0 _ rfl; (with_reducible repeat (first | refine blk_drewN ?_ _ | refine blk_drew ?_ | refine blk_alloc ?_ _)); exact BK154.1⟩, ⟨BL HB.1⟩⟩
   clear HC31
   try clear c22; try clear hx153_0; try clear hx153_1; try clear p153; try clear q153; clear c19b0 c20b0 c21b0 c22b0 c22b1 hcz34_0 hcz34_1 hfz34_0 hfz34_1
   obtain ⟨kq, x41_30, rfl, HA, HJ30, HO_3, HO_4, HO_6, BK145, BK154, HB⟩ := hcut
   cases kq with
   | zero => exact absurd HA.1 (by simp [spec_saUnits.j2])
   | succ kj30 => ?_
   have H := HA.1
   clear HA
   simp only [spec_saUnits.j2] at H
   replace H := ifX H; rcases H with ⟨rfl, H⟩ | ⟨rfl, H⟩
   · replace H := ifN H; obtain ⟨c45b0, H⟩ := H
     replace H := ifN H; obtain ⟨c46b0, H⟩ := H
     replace H := ifN H; obtain ⟨c47b0, H⟩ := H
     replace H := ifN H; obtain ⟨c48b0, H⟩ := H
     generalize hy164 : ((x4_2.set ((rd t146 x27_2) : Int).toNat (x6_2.length : Int)) : List Int) = y164 at H
     have Ny164 := Aside0.mk hy164.symm; clear hy164
     generalize hy165 : ((([x27_2] : List Int)) : List Int) = y165 at H
     have Ny165 := Aside0.mk hy165.symm; clear hy165
     replace H := ifP H; obtain ⟨c50, H⟩ := H
     have LMc50 := Aside0.mk c50
     clear c50
     generalize hy168 : ((x6_2 ++ [y165]) : List (List Int)) = y168 at H
     have Ny168 := Aside0.mk hy168.symm; clear hy168
     have H' := Aside0.mk H
     clear H
     obtain ⟨Ao51, co51, eo51⟩ := R_slice HO_3.1
     subst eo51
     have p163 : 0 <= (x27_2 : Int) := OD
     have q163 : x27_2 < (t146.length : Int) := OD
     obtain ⟨ad163, e163, hx163_0⟩ := Kd.at_int (R_reads' HO_3.1).2.2 x27_2 p163 q163
     cases e163
     replace p163 := eq_true p163
     replace q163 := eq_true q163
     obtain ⟨Ao52, co52, eo52⟩ := S_slice HO_6.1
     subst eo52
     have p49 : 0 <= ((rd t146 x27_2) : Int) := OD
     have q49 : ((rd t146 x27_2) : Int) < ((x4_2.length : Int) : Int) := OD
     obtain ⟨go49, co49, eo49, gb49, gl49, cl49, HG49⟩ := R_form HO_4.1 (by omega)
     (first | cases eo49 | (injection eo49 with ea_ en_ ec_; (first | subst ea_ | (injection ea_ with ea_; subst ea_)); subst ec_; clear en_))
     have GB49 := Aside0.mk gb49
     have GG49 := Aside0.mk HG49
     clear gb49 gl49 HG49
     obtain ⟨hx49_0, hf49_0⟩ := R_celln 0 HO_4.1 ((rd t146 x27_2) : Int) p49 q49
     replace p49 := eq_true p49
     replace q49 := eq_true q49
     have HP53 := R_putg HO_4.1 ((rd t146 x27_2) : Int) (x6_2.length : Int)
     go_wp2_with (first | ((with_reducible refine gate_store (t := 3) (p := 62) rfl ?_); refine storeE (t := 3) (p := 62) (w1 := (wc.setCell ⟨go49, ((rd t146 x27_2) : Int).toNat, none⟩ (.int .i64 (x6_2.length : Int)))) ?_; intro w54 hw; have hg : wc.grownBy w54 (some go49) := (by rw [hw]; exact HP53.2); have hp_ : Kd.R (Kd.int .i64) 3 w54 w.heap.size (fun k_ => some k_ ≠ (.slice (some ad163) t146.length co51 : Value).ownBlock) (.slice (some ⟨go49, 0, none⟩) x4_2.length co11) y164 := (by rw [hw, Ny164.1]; exact HP53.1); clear HP53; refine E6 (R_after (v := (.slice (some ⟨go49, 0, none⟩) x4_2.length co11)) (v1 := (.slice (some ⟨go49, 0, none⟩) x4_2.length co11)) (ok := (fun _ => True)) (RPE (R_mono HO_3.1 (fun _ hk => ⟨trivial, hk⟩))) hg (.inl rfl)) (hp_) (S_after (v := (.slice (some ⟨go49, 0, none⟩) x4_2.length co11)) (v1 := (.slice (some ⟨go49, 0, none⟩) x4_2.length co11)) (ok := (fun k_ => some k_ ≠ (.slice (some ad163) t146.length co51 : Value).ownBlock)) (PS HO_6.1) hg (.inl rfl)) (bG BK145.1 hg (R_ne HO_4.1 BK145.1 (by decide))) (bG BK154.1 hg (R_ne HO_4.1 BK154.1 (by decide))) ((by rw [hw]; exact below_set (HB.1) GB49.1 : Below w.heap.size w w54)) ?_; clear HO_3 HO_4 HO_6 BK145 BK154 HB; intro HO_3 HO_4 HO_6 BK145 BK154 HB; clear hg hw hp_) | ((with_reducible refine gate_dst (N := 65) rfl ?_); refine R_lit (Kd.int .i64) _ 3 ?hg (N := 65) ?hd (xs := ([x27_2] : List Int)) (inner := [.int .i64 x27_2]) (ok := fun _ => True) (okp := fun _ => True) ?hr ?hp (fun _ hk => hk) trivial (Below.refl _ _) (Nat.le_refl _) (by simp) ?_; (case hd => rfl); (case hg => rfl); (case hr => first | (go_simp; done) | (go_simp; rfl)); (case hp => exact (Reps.one (show Kd.M (Kd.int .i64) _ _ _ x27_2 [.int .i64 x27_2] from rfl) (Reps.none _ _))); intro v166 w55 ho56 hb hg_ hnew_; clear hg_ hnew_; (first | rw [<- Ny165.1] at ho56 | (simp only [Int.reduceToNat] at ho56; rw [<- Ny165.1] at ho56)); refine E7 (R_elder' (PR HO_3.1) (R_base ho56) hb) (R_elder' (PR HO_4.1) (R_base ho56) hb) (S_elder' (PS HO_6.1) (R_base ho56) hb) (R_lower (R_new' (R_new' ho56 (R_lt (PR HO_3.1))) (R_lt (PR HO_4.1))) (bZ HB.1)) (bB BK145.1 hb) (bB BK154.1 hb) (bS HB.1 hb) ?_; clear HO_3 HO_4 HO_6 BK145 BK154 HB; intro HO_3 HO_4 HO_6 HO167 BK145 BK154 HB; clear hb ho56; obtain ⟨Ao58, co58, eo58⟩ := R_slice HO167.1; subst eo58) | ((with_reducible refine gate_builtin (b := .append) (xs := #[.tmp 63, .tmp 66]) rfl ?_); at_builtin; refine S_append (Kd.slice 3 (Kd.int .i64)) (w0 := w) w.heap.size rfl (.tmp 63) (.tmp 66) 60 38 (.slice none 0 0) 24 rfl Try.underlying60 info38 rfl (by decide) (by omega) (.slice Ao52 x6_2.length co52) x6_2 y165 [.slice Ao58 y165.length co58] (fun k_ => some k_ ≠ (.slice (some ad163) t146.length co51 : Value).ownBlock /\ some k_ ≠ (.slice (some ⟨go49, 0, none⟩) x4_2.length co11 : Value).ownBlock) (fun k_ => some k_ = (.slice Ao58 y165.length co58 : Value).ownBlock) rfl rfl ?aP (fun k_ hk_ => ((R_mono (ok' := fun k_ => ((fun k_ => some k_ ≠ (.slice (some ad163) t146.length co51 : Value).ownBlock /\ some k_ ≠ (.slice (some ⟨go49, 0, none⟩) x4_2.length co11 : Value).ownBlock)) k_ /\ some k_ ≠ (.slice Ao52 x6_2.length co52 : Value).ownBlock) (R_apart' (HO167.1) (S_typed HO_6.1) (by decide)) (fun k_ hk => ⟨⟨hk.1.1.2, hk.1.2⟩, hk.2⟩))).1 k_ hk_.symm) ?aF ?aO ?aB ?aS ?aL ?_; (case aP => exact M_row (R_mono (R_tight rfl (R_mono (ok' := fun k_ => ((fun k_ => some k_ ≠ (.slice (some ad163) t146.length co51 : Value).ownBlock /\ some k_ ≠ (.slice (some ⟨go49, 0, none⟩) x4_2.length co11 : Value).ownBlock)) k_ /\ some k_ ≠ (.slice Ao52 x6_2.length co52 : Value).ownBlock) (R_apart' (HO167.1) (S_typed HO_6.1) (by decide)) (fun k_ hk => ⟨⟨hk.1.1.2, hk.1.2⟩, hk.2⟩))) (fun _ h_ => h_))); (case aB => exact (BL HB.1)); (case aF => exact (fun k_ hk => ⟨Kd.fresh' (R_lt (PR HO_3.1)) k_ hk, Kd.fresh' (R_lt (PR HO_4.1)) k_ hk⟩)); (case aO => exact (SPE (S_mono HO_6.1 (fun k_ hk => ⟨⟨hk.1.1, hk.1.2⟩, fun e_ => hk.2 e_⟩)))); (case aS => exact (bZ HB.1)); (case aL => have := LMc50.1; omega); intro v169 w57 ho hb hg hat; rw [<- Ny168.1] at ho; refine E6 (R_over' (PR HO_3.1) (S_typed (PS HO_6.1)) (by decide) hg) (R_over' (PR HO_4.1) (S_typed (PS HO_6.1)) (by decide) hg) (bG BK145.1 hg (S_ne HO_6.1 BK145.1 (by decide))) (bG BK154.1 hg (S_ne HO_6.1 BK154.1 (by decide))) (hb) (ho) ?_; clear HO_3 HO_4 BK145 BK154 HB HO_6 HO167; intro HO_3 HO_4 BK145 BK154 HB HO170; clear ho hb hg hat))
     (try simp only [<- hl4_2])
     go_roundg kj30
     case measure => have := HK1.1; have := HK2.1; have := HJ30.1; omega
     case rel => exact ⟨(y164), (y168), (wrap64 (x27_2 + 1)), RG, H', ⟨by have := HK1.1; have := HK2.1; have := HJ30.1; omega⟩, ⟨by (try simp only [hl4_1]); (try simp only [hl4_2]); (with_reducible repeat (first | apply R_alloc | apply R_drewN | apply R_drew)); exact R_mono HO_3.1 (fun _ hk => hk.1.2)⟩, ⟨by (try simp only [hl4_1]); (try simp only [hl4_2]); (with_reducible repeat (first | apply R_alloc | apply R_drewN | apply R_drew)); exact R_mono HO_4.1 (fun _ hk => hk.1)⟩, ⟨PS2 HO170.1 hl4_1 hl4_2⟩, ⟨PB2 BK145.1 hl4_1 hl4_2⟩, ⟨BL HB.1⟩⟩
   replace H := ifQ H; rcases H with ⟨c59, H⟩ | ⟨c59, H⟩
   · have c59b0 := beq_iff_eq.mpr c59
     have c59b1 := bne_eq_false_iff_eq.mpr c59
     clear c59
     replace H := ifN H; obtain ⟨c60b0, H⟩ := H
     replace H := ifN H; obtain ⟨c61b0, H⟩ := H
     replace H := ifN H; obtain ⟨c62b0, H⟩ := H
     replace H := ifN H; obtain ⟨c63b0, H⟩ := H
     replace H := ifN H; obtain ⟨c64b0, H⟩ := H
     replace H := ifN H; obtain ⟨c65b0, H⟩ := H
     replace H := ifP H; obtain ⟨c66, H⟩ := H
     have LMc66 := Aside0.mk c66
     clear c66
     generalize hy176 : (((rd_L3 x6_2 (rd x4_2 (rd t146 x27_2))) ++ [x27_2]) : List Int) = y176 at H
     have Ny176 := Aside0.mk hy176.symm; clear hy176
     generalize hy179 : ((x6_2.set ((rd x4_2 (rd t146 x27_2)) : Int).toNat y176) : List (List Int)) = y179 at H
     have Ny179 := Aside0.mk hy179.symm; clear hy179
     have H' := Aside0.mk H
     clear H
     obtain ⟨hcz69_0, hcz69_1, hfz69_0, hfz69_1⟩ := cz2 BK154.1
     try go_wp2
     refine E6 (R_drew HO_3.1) (R_drew HO_4.1) (S_drew HO_6.1) (blk_drew BK145.1) (blk_drew BK154.1) (below_drew1 HB.1) ?_
     clear HO_3 HO_4 HO_6 BK145 BK154 HB
     intro HO_3 HO_4 HO_6 BK145 BK154 HB
     obtain ⟨Ao71, co71, eo71⟩ := R_slice HO_3.1
     (first | subst eo71 | (injection eo71 with f1_ f2_ f3_; have f4_ := f1_.symm; have f5_ := f3_.symm; clear f1_ f2_ f3_; subst f4_; subst f5_))
     have p171 : 0 <= (x27_2 : Int) := OD
     have q171 : x27_2 < (t146.length : Int) := OD
     obtain ⟨ad171, e171, hx171_0⟩ := Kd.at_int (R_reads' HO_3.1).2.2 x27_2 p171 q171
     cases e171
     replace p171 := eq_true p171
     replace q171 := eq_true q171
     have p172 : 0 <= ((rd t146 x27_2) : Int) := OD
     have q172 : (rd t146 x27_2) < (x4_2.length : Int) := OD
     obtain ⟨ad172, e172, hx172_0⟩ := Kd.at_int (R_reads' HO_4.1).2.2 (rd t146 x27_2) p172 q172
     cases e172
     replace p172 := eq_true p172
     replace q172 := eq_true q172
     have p173 : 0 <= (x27_2 : Int) := OD
     have q173 : x27_2 < (t146.length : Int) := OD
     obtain ⟨ad173, e173, hx173_0⟩ := Kd.at_int (R_reads' HO_3.1).2.2 x27_2 p173 q173
     obtain rfl : ad171 = ad173 := (by injection e173)
     replace p173 := eq_true p173
     replace q173 := eq_true q173
     have p174 : 0 <= ((rd t146 x27_2) : Int) := OD
     have q174 : (rd t146 x27_2) < (x4_2.length : Int) := OD
     obtain ⟨ad174, e174, hx174_0⟩ := Kd.at_int (R_reads' HO_4.1).2.2 (rd t146 x27_2) p174 q174
     obtain rfl : ad172 = ad174 := (by injection e174)
     replace p174 := eq_true p174
     replace q174 := eq_true q174
     obtain ⟨Ao72, co72, eo72⟩ := S_slice HO_6.1
     (first | subst eo72 | (injection eo72 with f1_ f2_ f3_; have f4_ := f1_.symm; have f5_ := f3_.symm; clear f1_ f2_ f3_; subst f4_; subst f5_))
     have p175 : 0 <= ((rd x4_2 (rd t146 x27_2)) : Int) := OD
     have q175 : (rd x4_2 (rd t146 x27_2)) < (x6_2.length : Int) := OD
     obtain ⟨ad175, A175_0, c175_0, e175, hx175_0, hl175_0, hi175_0⟩ := at_L3 (S_reads' HO_6.1).2.2 (rd x4_2 (rd t146 x27_2)) p175 q175
     cases e175
     obtain ⟨ce175, hce175, hMe175, hcc175⟩ := S_get HO_6.1 [] (rd x4_2 (rd t146 x27_2)) p175 (by first | exact q175 | exact OD | (have e_ := (S_reads' HO_6.1).1; omega))
     obtain ⟨ve175_0, rfl, ge175_0⟩ := hMe175
     have hv175_0 := hcc175 0 _ rfl
     rw [Nat.add_zero, show ((Kd.slice 3 (Kd.int .i64))).sz = 1 from rfl, Nat.mul_one] at hv175_0
     replace hv175_0 := Option.some.inj (hv175_0.symm.trans hx175_0)
     rw [hv175_0] at ge175_0
     have HL175_0 := Aside0.mk (show Kd.R (Kd.int .i64) 3 _ _ _ _ (rd_L3 x6_2 (rd x4_2 (rd t146 x27_2))) from ge175_0)
     clear hv175_0 ge175_0
     have HX175_0 := Aside0.mk hx175_0
     clear hcc175 hce175
     have HR175_0 := Aside0.mk hi175_0
     have HC175_0 := Aside0.mk hl175_0
     clear hi175_0 hl175_0
     replace p175 := eq_true p175
     replace q175 := eq_true q175
     obtain ⟨go73, co73, eo73, gb73, gl73, cl73, HG73⟩ := S_form HO_6.1 (by have h_ : ((rd x4_2 (rd t146 x27_2)) : Int) < ((x6_2.length : Int) : Int) := OD; have h2_ : 0 <= ((rd x4_2 (rd t146 x27_2)) : Int) := (OD); omega)
     (first | cases eo73 | (injection eo73 with ea_ en_ ec_; (first | subst ea_ | (injection ea_ with ea_; subst ea_)); subst ec_; clear en_))
     have GB73 := Aside0.mk gb73
     have GG73 := Aside0.mk HG73
     clear gb73 gl73 HG73
     (first | simp only [add_plain] at hx175_0 | skip)
     obtain ⟨oki73, ce73, hcl73, hM73, hcc73, _, _, hH73⟩ := S_elem HO_6.1 [] ((rd x4_2 (rd t146 x27_2)) : Int) (OD) (by have h_ : ((rd x4_2 (rd t146 x27_2)) : Int) < ((x6_2.length : Int) : Int) := OD; first | exact h_ | (have e_ := (S_reads' HO_6.1).1; omega) | simpa using h_)
     obtain ⟨ve73_0, rfl, ge73_0⟩ := hM73
     have hv73 := hcc73 0 _ rfl
     have hX73 := HX175_0.1
     (try simp only [add_plain] at hX73)
     (try simp only [Nat.add_zero] at hv73)
     (try rw [show ((Kd.slice 3 (Kd.int .i64))).sz = 1 from rfl, Nat.mul_one] at hv73)
     replace hv73 := Option.some.inj (hv73.symm.trans hX73)
     subst hv73
     clear hX73 hcc73 hcl73
     have UU73 := Aside0.mk (show Kd.R (Kd.int .i64) 3 _ w.heap.size oki73 (.slice A175_0 (rd_L3 x6_2 (rd x4_2 (rd t146 x27_2))).length c175_0) (rd_L3 x6_2 (rd x4_2 (rd t146 x27_2))) from ge73_0)
     have HH73 := Aside0.mk hH73
     have HN73 := Aside0.mk (S_reads' HO_6.1).1
     clear hH73 ge73_0
     refine start_ (n := 23) (S := fun w' => w'.cell? (ad171.add (x27_2).toNat) = some (.int .i64 (rd t146 x27_2)) /\ w'.cell? (ad172.add ((rd t146 x27_2)).toNat) = some (.int .i64 (rd x4_2 (rd t146 x27_2))) /\ w'.cell? (ad171.add (x27_2).toNat) = some (.int .i64 (rd t146 x27_2)) /\ w'.cell? (ad172.add ((rd t146 x27_2)).toNat) = some (.int .i64 (rd x4_2 (rd t146 x27_2))) /\ w'.cell? ⟨go73, ((rd x4_2 (rd t146 x27_2))).toNat, none⟩ = some (.slice A175_0 (rd_L3 x6_2 (rd x4_2 (rd t146 x27_2))).length c175_0)) (ds := [22]) #[Zz,Zz,Zz,Zz,Zz,Zz,Zz,Zz,Zz,Zz,Zz,Zz,Zz,Zz,Zz,Zz,Zz,Zz,Zz,Zz,Zz,Zz,Zz] (by kernel_rfl) rfl rfl ⟨hx171_0, hx172_0, hx173_0, hx174_0, hx175_0⟩ (fun hHeld => ?_); refine with_tabW spec_saUnits.tab18 spec_saUnits.bits18 (fun HT_ HW_ => ?_)
     generalize wc.drew = w70 at HO_3 HO_4 HO_6 BK145 BK154 HB GG73 HH73 HL175_0 HR175_0 HX175_0 UU73 hx171_0 hx172_0 hx173_0 hx174_0 hx175_0 hHeld ⊢
     refine pureF 0 (N := some 72) HT_.1 ?_
     refine pureF 1 (N := some 73) HT_.1 ?_
     refine pureF 2 (N := some 74) HT_.1 ?_
     refine pureF 3 (N := some 75) HT_.1 ?_
     refine pureF 4 (N := some 76) HT_.1 ?_
     refine pureF 8 (N := some 80) HT_.1 ?_
     refine pureF 9 (N := some 81) HT_.1 ?_
     refine pureF 10 (N := some 82) HT_.1 ?_
     refine pureF 11 (N := some 83) HT_.1 ?_
     refine pureF 12 (N := some 84) HT_.1 ?_
     refine pureF 18 (N := some 90) HT_.1 ?_
     refine takeE 5 (N := some 77) HT_.1 HW_.1 hHeld ?_
     refine pureF 6 (N := some 78) HT_.1 ?_
     refine takeE 7 (N := some 79) HT_.1 HW_.1 hHeld ?_
     refine takeE 13 (N := some 85) HT_.1 HW_.1 hHeld ?_
     refine pureF 14 (N := some 86) HT_.1 ?_
     refine takeE 15 (N := some 87) HT_.1 HW_.1 hHeld ?_
     refine pureF 16 (N := some 88) HT_.1 ?_
     refine takeE 17 (N := some 89) HT_.1 HW_.1 hHeld ?_
     refine one_ (i := 19) (N := some 91) #[Yy,Yy,Yy,Yy,Yy,Yy,Yy,Yy,Yy,Yy,Yy,Yy,Yy,Yy,Yy,Yy,Yy,Yy,Yy,Yy,Zz,Zz,Zz] rfl rfl (one_of HT_.1 (by kernel_rfl)) (by decide) (fun K hK => ?_)
     refine value_ (w1 := ?_) (v := ?_) (by rfl) rfl ?_ ?_
     rotate_left 2
     · go_simp
       constructor
       · rfl
       rfl
     refine hK.out _ _ ⟨(World.cell?_alloc_lt _ _ _ (World.block_lt_of_cell? _ _ (hHeld.1))).trans (hHeld.1), (World.cell?_alloc_lt _ _ _ (World.block_lt_of_cell? _ _ (hHeld.2.1))).trans (hHeld.2.1), (World.cell?_alloc_lt _ _ _ (World.block_lt_of_cell? _ _ (hHeld.2.2.1))).trans (hHeld.2.2.1), (World.cell?_alloc_lt _ _ _ (World.block_lt_of_cell? _ _ (hHeld.2.2.2.1))).trans (hHeld.2.2.2.1), (World.cell?_alloc_lt _ _ _ (World.block_lt_of_cell? _ _ (hHeld.2.2.2.2))).trans (hHeld.2.2.2.2)⟩ (fun hHeld => ?_)
     clear hK K
     refine norm_ (a' := ?_) ?_ ?_
     rotate_left
     · show Act.put _ (some 91) _ = _
       simp only [Act.put, List.setIfInBounds_toArray, List.set_cons_zero, List.set_cons_succ, i64_w, i32_w]
       rfl
     refine one_ (i := 20) (N := some 92) #[Yy,Yy,Yy,Yy,Yy,Yy,Yy,Yy,Yy,Yy,Yy,Yy,Yy,Yy,Yy,Yy,Yy,Yy,Yy,Yy,Yy,Zz,Zz] rfl rfl (one_of HT_.1 (by kernel_rfl)) (by decide) (fun K hK => ?_)
     refine R_append_step (Kd.int .i64) (w0 := w) w.heap.size (by rfl) (.tmp 89) (.tmp 91) 38 3 (.int .i64 0) 8 rfl Try.underlying38 info3 rfl (by decide) (by omega) (.slice A175_0 (rd_L3 x6_2 (rd x4_2 (rd t146 x27_2))).length c175_0) (rd_L3 x6_2 (rd x4_2 (rd t146 x27_2))) x27_2 [.int .i64 x27_2] (fun k_ => oki73 k_ ∨ ((fun k_ => some k_ ≠ (.slice (some ad171) t146.length co71 : Value).ownBlock /\ some k_ ≠ (.slice (some ad172) x4_2.length co11 : Value).ownBlock)) k_ /\ w70.heap.size <= k_) (fun _ => False) rfl rfl ?aP (fun _ hk => hk.elim) ?aF ?aO ?aB ?aS ?aL ?_
     (case aP => exact rfl)
     (case aB => exact (BL HB.1))
     (case aF => exact (fun k_ hk => .inr ⟨⟨Kd.fresh' (R_lt (PR HO_3.1)) k_ hk, Kd.fresh' (R_lt (PR HO_4.1)) k_ hk⟩, hk⟩))
     (case aO => exact (RPE (R_mono UU73.1 (fun _ hk => .inl hk))))
     (case aS => exact (bZ HB.1))
     (case aL => have := LMc66.1; omega)
     intro v177 w74 ho hb hg hat
     (first | have HS0_ := cell_grown hg (hHeld.1) (by first | (rw [add_block]; exact (fun e_ => ((HL175_0.1.1 _ e_.symm).1.1) rfl)) | (show some (Addr.add _ _).block ≠ _; rw [add_block]; exact (fun e_ => ((HL175_0.1.1 _ e_.symm).1.1) rfl)) | exact (fun e_ => ((HL175_0.1.1 _ e_.symm).1.1) rfl)) | have HS0_ := cell_grown hg (cell_unalloc (hHeld.1) (by first | (rw [add_block]; exact R_lt HO_3.1 _ rfl) | (show (Addr.add _ _).block < _; rw [add_block]; exact R_lt HO_3.1 _ rfl) | exact R_lt HO_3.1 _ rfl)) (by first | (rw [add_block]; exact (fun e_ => ((HL175_0.1.1 _ e_.symm).1.1) rfl)) | (show some (Addr.add _ _).block ≠ _; rw [add_block]; exact (fun e_ => ((HL175_0.1.1 _ e_.symm).1.1) rfl)) | exact (fun e_ => ((HL175_0.1.1 _ e_.symm).1.1) rfl)))
     (first | have HS1_ := cell_grown hg (hHeld.2.1) (by first | (rw [add_block]; exact (fun e_ => ((HL175_0.1.1 _ e_.symm).1.2) rfl)) | (show some (Addr.add _ _).block ≠ _; rw [add_block]; exact (fun e_ => ((HL175_0.1.1 _ e_.symm).1.2) rfl)) | exact (fun e_ => ((HL175_0.1.1 _ e_.symm).1.2) rfl)) | have HS1_ := cell_grown hg (cell_unalloc (hHeld.2.1) (by first | (rw [add_block]; exact R_lt HO_4.1 _ rfl) | (show (Addr.add _ _).block < _; rw [add_block]; exact R_lt HO_4.1 _ rfl) | exact R_lt HO_4.1 _ rfl)) (by first | (rw [add_block]; exact (fun e_ => ((HL175_0.1.1 _ e_.symm).1.2) rfl)) | (show some (Addr.add _ _).block ≠ _; rw [add_block]; exact (fun e_ => ((HL175_0.1.1 _ e_.symm).1.2) rfl)) | exact (fun e_ => ((HL175_0.1.1 _ e_.symm).1.2) rfl)))
     (first | have HS2_ := cell_grown hg (hHeld.2.2.1) (by first | (rw [add_block]; exact (fun e_ => ((HL175_0.1.1 _ e_.symm).1.1) rfl)) | (show some (Addr.add _ _).block ≠ _; rw [add_block]; exact (fun e_ => ((HL175_0.1.1 _ e_.symm).1.1) rfl)) | exact (fun e_ => ((HL175_0.1.1 _ e_.symm).1.1) rfl)) | have HS2_ := cell_grown hg (cell_unalloc (hHeld.2.2.1) (by first | (rw [add_block]; exact R_lt HO_3.1 _ rfl) | (show (Addr.add _ _).block < _; rw [add_block]; exact R_lt HO_3.1 _ rfl) | exact R_lt HO_3.1 _ rfl)) (by first | (rw [add_block]; exact (fun e_ => ((HL175_0.1.1 _ e_.symm).1.1) rfl)) | (show some (Addr.add _ _).block ≠ _; rw [add_block]; exact (fun e_ => ((HL175_0.1.1 _ e_.symm).1.1) rfl)) | exact (fun e_ => ((HL175_0.1.1 _ e_.symm).1.1) rfl)))
     (first | have HS3_ := cell_grown hg (hHeld.2.2.2.1) (by first | (rw [add_block]; exact (fun e_ => ((HL175_0.1.1 _ e_.symm).1.2) rfl)) | (show some (Addr.add _ _).block ≠ _; rw [add_block]; exact (fun e_ => ((HL175_0.1.1 _ e_.symm).1.2) rfl)) | exact (fun e_ => ((HL175_0.1.1 _ e_.symm).1.2) rfl)) | have HS3_ := cell_grown hg (cell_unalloc (hHeld.2.2.2.1) (by first | (rw [add_block]; exact R_lt HO_4.1 _ rfl) | (show (Addr.add _ _).block < _; rw [add_block]; exact R_lt HO_4.1 _ rfl) | exact R_lt HO_4.1 _ rfl)) (by first | (rw [add_block]; exact (fun e_ => ((HL175_0.1.1 _ e_.symm).1.2) rfl)) | (show some (Addr.add _ _).block ≠ _; rw [add_block]; exact (fun e_ => ((HL175_0.1.1 _ e_.symm).1.2) rfl)) | exact (fun e_ => ((HL175_0.1.1 _ e_.symm).1.2) rfl)))
     (first | have HS4_ := cell_grown hg (hHeld.2.2.2.2) (by first | (rw [add_block]; exact (fun e_ => ((HL175_0.1.1 _ e_.symm).2) rfl)) | (show some (Addr.add _ _).block ≠ _; rw [add_block]; exact (fun e_ => ((HL175_0.1.1 _ e_.symm).2) rfl)) | exact (fun e_ => ((HL175_0.1.1 _ e_.symm).2) rfl)) | have HS4_ := cell_grown hg (cell_unalloc (hHeld.2.2.2.2) (by first | (rw [add_block]; exact S_lt HO_6.1 _ rfl) | (show (Addr.add _ _).block < _; rw [add_block]; exact S_lt HO_6.1 _ rfl) | exact S_lt HO_6.1 _ rfl)) (by first | (rw [add_block]; exact (fun e_ => ((HL175_0.1.1 _ e_.symm).2) rfl)) | (show some (Addr.add _ _).block ≠ _; rw [add_block]; exact (fun e_ => ((HL175_0.1.1 _ e_.symm).2) rfl)) | exact (fun e_ => ((HL175_0.1.1 _ e_.symm).2) rfl)))
     rw [<- Ny176.1] at ho
     refine E7 (R_grown2 (PR HO_3.1) rfl hg (fun k_ e_ => (HL175_0.1.1 k_ e_).1.1)) (R_grown2 (PR HO_4.1) rfl hg (fun k_ e_ => (HL175_0.1.1 k_ e_).1.2)) (bG BK145.1 hg (R_ne HL175_0.1 BK145.1 (by decide))) (bG BK154.1 hg (R_ne HL175_0.1 BK154.1 (by decide))) (hb) (H_grown (H_widen (by repeat (first | exact HH73.1 | refine H_alloc ?_ _ | refine H_drewN ?_ _ | refine H_drew ?_))) hg (fun k_ e_ => .inl (UU73.1.1 k_ e_))) (ho) ?_
     clear HO_3 HO_4 BK145 BK154 HB HH73 HO_6 UU73 HL175_0
     intro HO_3 HO_4 BK145 BK154 HB HH73 HO178
     clear ho hb hg hat
     have p67 : 0 <= ((rd x4_2 (rd t146 x27_2)) : Int) := OD
     have q67 : ((rd x4_2 (rd t146 x27_2)) : Int) < ((x6_2.length : Int) : Int) := OD
     replace p67 := eq_true p67
     replace q67 := eq_true q67
     obtain ⟨Ao77, co77, eo77⟩ := R_slice HO178.1
     (first | subst eo77 | (injection eo77 with f1_ f2_ f3_; have f4_ := f1_.symm; have f5_ := f3_.symm; clear f1_ f2_ f3_; subst f4_; subst f5_))
     obtain ⟨_, _, hraw75, _, _, hcc75, _⟩ := H_raw HH73.1 (OD) (by have h_ : ((rd x4_2 (rd t146 x27_2)) : Int) < ((x6_2.length : Int) : Int) := OD; first | exact h_ | (have e_ := (HN73.1); omega) | simpa using h_)
     obtain ⟨_, hfr75⟩ := H_at HH73.1 (OD) (by have h_ : ((rd x4_2 (rd t146 x27_2)) : Int) < ((x6_2.length : Int) : Int) := OD; first | exact h_ | (have e_ := (HN73.1); omega) | simpa using h_)
     have hx75_0 := hcc75 0 _ rfl
     have hf75_0 := hfr75 0
     (try simp only [Nat.add_zero] at hx75_0 hf75_0)
     (try rw [show ((Kd.slice 3 (Kd.int .i64))).sz = 1 from rfl, Nat.mul_one] at hx75_0)
     (try rw [show ((Kd.slice 3 (Kd.int .i64))).sz = 1 from rfl, Nat.mul_one] at hf75_0)
     have HP75 := S_seg0 HH73.1 (OD) (by have h_ : ((rd x4_2 (rd t146 x27_2)) : Int) < ((x6_2.length : Int) : Int) := OD; first | exact h_ | (have e_ := (HN73.1); omega) | simpa using h_) (seg := [.slice Ao77 y176.length co77]) (j := 0) (show 1 <= 1 from by decide) (x' := y176) (M_row HO178.1) (fun _ hk => hk)
     (try simp only [show ((Kd.slice 3 (Kd.int .i64))).sz = 1 from rfl, Nat.mul_one, Nat.add_zero] at HP75)
     clear hcc75 hfr75
     have HNB145_go73 := Aside0.mk (show gb145 ≠ go73 from by have h_ := R_ne hraw75 BK145.1 (by decide); intro e_; exact h_ (by rw [e_]; rfl))
     have HNB154_go73 := Aside0.mk (show gb154 ≠ go73 from by have h_ := R_ne hraw75 BK154.1 (by decide); intro e_; exact h_ (by rw [e_]; rfl))
     have HS75 := HP75.1
     rw [<- Ny179.1] at HS75
     have HQ75 := Aside0.mk HS75
     obtain ⟨_, hgg75⟩ := R_typed hraw75 go73 rfl
     have GG75_ := Aside0.mk hgg75
     clear HP75 HS75 hgg75
     refine hK.out _ _ ⟨HS0_, HS1_, HS2_, HS3_, HS4_⟩ (fun hHeld => ?_)
     clear hK K
     refine norm_ (a' := ?_) ?_ ?_
     rotate_left
     · show Act.put _ (some 92) _ = _
       simp only [Act.put, List.setIfInBounds_toArray, List.set_cons_zero, List.set_cons_succ, i64_w, i32_w]
       rfl
     refine pureF 21 (N := some 93) HT_.1 ?_
     refine last_ (i := 22) (N := none) #[Yy,Yy,Yy,Yy,Yy,Yy,Yy,Yy,Yy,Yy,Yy,Yy,Yy,Yy,Yy,Yy,Yy,Yy,Yy,Yy,Yy,Yy,Yy] rfl rfl (one_of HT_.1 (by kernel_rfl)) (by decide) (fun K hK => ?_)
     refine skip_ (w1 := ?_) (by rfl) rfl ?_ ?_
     rotate_left
     · go_simp
       rfl
     refine hK.out _ _ ?_
     clear hK K
     refine done_ (done_of HT_.1 (by kernel_rfl)) ?_
     try go_wp2
     (try simp only [<- hl4_2])
     go_roundg kj30
     case measure => have := HK1.1; have := HK2.1; have := HJ30.1; omega
     case rel => exact ⟨(x4_2), (y179), (wrap64 (x27_2 + 1)), RG, H', ⟨by have := HK1.1; have := HK2.1; have := HJ30.1; omega⟩, ⟨by (try simp only [hl4_1]); (try simp only [hl4_2]); (with_reducible repeat (first | apply R_alloc | apply R_drewN | apply R_drew)); exact R_mono (R_far (p := ⟨go73, ((rd x4_2 (rd t146 x27_2)) : Int).toNat, none⟩) (R_types HO_3.1 GG75_.1 (by decide)) (fun _ hk => hk.2) (.slice Ao77 y176.length co77)) (fun _ hk => hk.1)⟩, ⟨by (try simp only [hl4_1]); (try simp only [hl4_2]); (with_reducible repeat (first | apply R_alloc | apply R_drewN | apply R_drew)); exact R_mono (R_far (p := ⟨go73, ((rd x4_2 (rd t146 x27_2)) : Int).toNat, none⟩) (R_types HO_4.1 GG75_.1 (by decide)) (fun _ hk => hk.2) (.slice Ao77 y176.length co77)) (fun _ hk => hk.1)⟩, ⟨PS2 HQ75.1 hl4_1 hl4_2⟩, ⟨by (try simp only [hl4_1]); (try simp only [hl4_2]); (with_reducible repeat (first | refine blk_drewN ?_ _ | refine blk_drew ?_ | refine blk_alloc ?_ _)); refine blk_far ?_ HNB145_go73.1 _; (with_reducible repeat (first | refine blk_drewN ?_ _ | refine blk_drew ?_ | refine blk_alloc ?_ _)); exact BK145.1⟩, ⟨BL HB.1⟩⟩
   have c59b0 := beq_eq_false_iff_ne.mpr c59
   have c59b1 := bne_iff_ne.mpr c59
   have H' := Aside0.mk H
   clear H
   obtain ⟨hcz79_0, hcz79_1, hfz79_0, hfz79_1⟩ := cz2 BK154.1
   go_wp2
   (try simp only [<- hl4_2])
   go_roundg kj30
   case measure => have := HK1.1; have := HK2.1; have := HJ30.1; omega
   case rel => exact ⟨(x4_2), (x6_2), (wrap64 (x27_2 + 1)), RG, H', ⟨by have := HK1.1; have := HK2.1; have := HJ30.1; omega⟩, ⟨PR2 HO_3.1 hl4_1 hl4_2⟩, ⟨PR2 HO_4.1 hl4_1 hl4_2⟩, ⟨PS2 HO_6.1 hl4_1 hl4_2⟩, ⟨PB2 BK145.1 hl4_1 hl4_2⟩, ⟨BL HB.1⟩⟩
 (try simp only [hl4_1, hl4_2] at c19b0)
 obtain rfl := Option.some.inj H
 go_wp2
 go_ret
 exact ⟨_, RF, SPE (S_mono HO_6.1 (fun _ hk => trivial)), BL HB.1⟩
def spec_paTurning.f (a0_0 : Int) (a0_1 : Int) : Option (Bool) := if a0_0 = 3 then (some true) else (some (a0_0 == 6))
theorem spec_paTurning.calls (a0_0 : Int) (a0_1 : Int) (r : Bool) (w : World) (h : spec_paTurning.f a0_0 a0_1 = some r) :
 Calls Try.prog 100 #[.agg #[.int .i64 a0_0, .int .i64 a0_1]] w fun e w' => e = .returned (.bool r) /\ Below w.heap.size w w' := by
 have hu83 := Try.underlying83
 have HB := Aside0.mk (Below.refl w.heap.size w)
 have H := h
 clear h
 unfold spec_paTurning.f at H
 replace H := ifQ H; rcases H with ⟨c2, H⟩ | ⟨c2, H⟩
 · have c2b0 := beq_iff_eq.mpr c2
   have c2b1 := bne_eq_false_iff_eq.mpr c2
   clear c2
   obtain rfl := Option.some.inj H
   go_enter Try.func100, Try.ntmps100
   go_wp2_with (first | ((with_reducible refine gate_dst (N := 1) rfl ?_); refine boxE (cs := #[.int .i64 a0_0, .int .i64 a0_1]) (t := 83) ?_; intro gb180 hg w3 hbox hb; refine E4b HB.1 hg hbox hb ?_; clear HB; intro HB BK180 GW180 GE180; clear hb hbox hg; obtain ⟨hcz4_0, hcz4_1, hfz4_0, hfz4_1⟩ := cz2 BK180.1))
   go_ret
   exact ⟨RF, BL HB.1⟩
 have c2b0 := beq_eq_false_iff_ne.mpr c2
 have c2b1 := bne_iff_ne.mpr c2
 obtain rfl := Option.some.inj H
 go_enter Try.func100, Try.ntmps100
 go_wp2_with (first | ((with_reducible refine gate_dst (N := 1) rfl ?_); refine boxE (cs := #[.int .i64 a0_0, .int .i64 a0_1]) (t := 83) ?_; intro gb180 hg w5 hbox hb; refine E4b HB.1 hg hbox hb ?_; clear HB; intro HB BK180 GW180 GE180; clear hb hbox hg; obtain ⟨hcz6_0, hcz6_1, hfz6_0, hfz6_1⟩ := cz2 BK180.1))
 go_ret
 exact ⟨RF, BL HB.1⟩
def spec_paGood.f (a0_0 : Int) (a0_1 : Int) : Option (Bool) := (spec_l1In.f a0_0 0 7).bind fun t182 => (if t182 = true then (if a0_1 = 0 then (some true) else (if a0_1 = 1 then ((spec_paTurning.f a0_0 a0_1).bind fun t183 => (some t183)) else (some false))) else (some false))
theorem spec_paGood.calls (a0_0 : Int) (a0_1 : Int) (r : Bool) (w : World) (h : spec_paGood.f a0_0 a0_1 = some r) :
 Calls Try.prog 93 #[.agg #[.int .i64 a0_0, .int .i64 a0_1]] w fun e w' => e = .returned (.bool r) /\ Below w.heap.size w w' := by
 have hu83 := Try.underlying83
 have HB := Aside0.mk (Below.refl w.heap.size w)
 have H := h
 clear h
 unfold spec_paGood.f at H
 replace H := bindA H; obtain ⟨t182, A2, H⟩ := H
 replace H := ifX H; rcases H with ⟨rfl, H⟩ | ⟨rfl, H⟩
 · replace H := ifQ H; rcases H with ⟨c4, H⟩ | ⟨c4, H⟩
   · have c4b0 := beq_iff_eq.mpr c4
     have c4b1 := bne_eq_false_iff_eq.mpr c4
     clear c4
     obtain rfl := Option.some.inj H
     go_enter Try.func93, Try.ntmps93
     go_wp2_with (first | ((with_reducible refine gate_dst (N := 1) rfl ?_); refine boxE (cs := #[.int .i64 a0_0, .int .i64 a0_1]) (t := 83) ?_; intro gb181 hg w5 hbox hb; refine E4b HB.1 hg hbox hb ?_; clear HB; intro HB BK181 GW181 GE181; clear hb hbox hg; obtain ⟨hcz6_0, hcz6_1, hfz6_0, hfz6_1⟩ := cz2 BK181.1) | ((with_reducible refine gate_callee (f := 55) rfl ?_); refine goesM (N := (some 5)) #[.int .i64 a0_0, .int .i64 0, .int .i64 7] Try.func55 ?_; (with_reducible refine (spec_l1In.calls a0_0 0 7 true _ A2.1).mono ?_); rintro e w' ⟨rfl, ⟨nd, rfl⟩⟩; refine ⟨_, rfl, ?_⟩))
     go_ret
     exact ⟨RF, BL HB.1⟩
   have c4b0 := beq_eq_false_iff_ne.mpr c4
   have c4b1 := bne_iff_ne.mpr c4
   replace H := ifQ H; rcases H with ⟨c7, H⟩ | ⟨c7, H⟩
   · have c7b0 := beq_iff_eq.mpr c7
     have c7b1 := bne_eq_false_iff_eq.mpr c7
     clear c7
     replace H := bindA H; obtain ⟨t183, A8, H⟩ := H
     obtain rfl := Option.some.inj H
     go_enter Try.func93, Try.ntmps93
     go_wp2_with (first | ((with_reducible refine gate_dst (N := 1) rfl ?_); refine boxE (cs := #[.int .i64 a0_0, .int .i64 a0_1]) (t := 83) ?_; intro gb181 hg w9 hbox hb; refine E4b HB.1 hg hbox hb ?_; clear HB; intro HB BK181 GW181 GE181; clear hb hbox hg; obtain ⟨hcz10_0, hcz10_1, hfz10_0, hfz10_1⟩ := cz2 BK181.1) | ((with_reducible refine gate_callee (f := 55) rfl ?_); refine goesM (N := (some 5)) #[.int .i64 a0_0, .int .i64 0, .int .i64 7] Try.func55 ?_; (with_reducible refine (spec_l1In.calls a0_0 0 7 true _ A2.1).mono ?_); rintro e w' ⟨rfl, ⟨nd, rfl⟩⟩; refine ⟨_, rfl, ?_⟩) | (go_at_call 100; (with_reducible refine (spec_paTurning.calls a0_0 a0_1 t183 _ A8.1).mono ?_); rintro e w11 ⟨rfl, hb⟩; refine E2 (bB BK181.1 hb) (bS HB.1 hb) ?_; clear BK181 HB; intro BK181 HB; (try clear hb)))
     go_ret
     exact ⟨RF, BL HB.1⟩
   have c7b0 := beq_eq_false_iff_ne.mpr c7
   have c7b1 := bne_iff_ne.mpr c7
   obtain rfl := Option.some.inj H
   go_enter Try.func93, Try.ntmps93
   go_wp2_with (first | ((with_reducible refine gate_dst (N := 1) rfl ?_); refine boxE (cs := #[.int .i64 a0_0, .int .i64 a0_1]) (t := 83) ?_; intro gb181 hg w12 hbox hb; refine E4b HB.1 hg hbox hb ?_; clear HB; intro HB BK181 GW181 GE181; clear hb hbox hg; obtain ⟨hcz13_0, hcz13_1, hfz13_0, hfz13_1⟩ := cz2 BK181.1) | ((with_reducible refine gate_callee (f := 55) rfl ?_); refine goesM (N := (some 5)) #[.int .i64 a0_0, .int .i64 0, .int .i64 7] Try.func55 ?_; (with_reducible refine (spec_l1In.calls a0_0 0 7 true _ A2.1).mono ?_); rintro e w' ⟨rfl, ⟨nd, rfl⟩⟩; refine ⟨_, rfl, ?_⟩))
   go_ret
   exact ⟨RF, BL HB.1⟩
 obtain rfl := Option.some.inj H
 go_enter Try.func93, Try.ntmps93
 go_wp2_with (first | ((with_reducible refine gate_dst (N := 1) rfl ?_); refine boxE (cs := #[.int .i64 a0_0, .int .i64 a0_1]) (t := 83) ?_; intro gb181 hg w14 hbox hb; refine E4b HB.1 hg hbox hb ?_; clear HB; intro HB BK181 GW181 GE181; clear hb hbox hg; obtain ⟨hcz15_0, hcz15_1, hfz15_0, hfz15_1⟩ := cz2 BK181.1) | ((with_reducible refine gate_callee (f := 55) rfl ?_); refine goesM (N := (some 5)) #[.int .i64 a0_0, .int .i64 0, .int .i64 7] Try.func55 ?_; (with_reducible refine (spec_l1In.calls a0_0 0 7 false _ A2.1).mono ?_); rintro e w' ⟨rfl, ⟨nd, rfl⟩⟩; refine ⟨_, rfl, ?_⟩))
 go_ret
 exact ⟨RF, BL HB.1⟩
mutual
def spec_boGood.j0 : Nat -> Bool -> Int -> Int -> List (S83) -> Option (Bool)
 | 0, _, _, _, _ => none
 | k + 1, x25, x185000, x185001, x185002 => if x25 = true then (some false) else (spec_boGood.l0 k x185002 (x185002.length : Int) 0)
def spec_boGood.l0 : Nat -> List (S83) -> Int -> Int -> Option (Bool)
 | 0, _, _, _ => none
 | k + 1, x27, x28, x29 => if x29 < x28 then (if 0 <= x29 then (if x29 < (x27.length : Int) then ((spec_paGood.f ((rd_T83 x27 x29).f0) ((rd_T83 x27 x29).f1)).bind fun t189 => (if t189 = true then (spec_boGood.l0 k x27 x28 (wrap64 (x29 + 1))) else (some false))) else (none)) else (none)) else (some true)
end
def spec_boGood.f (k : Nat) (a0_0 : Int) (a0_1 : Int) (l0_2 : List (S83)) : Option (Bool) := (spec_l1In.f a0_0 1 10).bind fun t185 => (if t185 = true then ((spec_l1In.f a0_1 1 9).bind fun t186 => (if t186 = true then (spec_boGood.j0 k ((l0_2.length : Int) != (wrap64 (a0_0 * a0_1))) a0_0 a0_1 l0_2) else (spec_boGood.j0 k true a0_0 a0_1 l0_2))) else (spec_boGood.j0 k true a0_0 a0_1 l0_2))
theorem spec_boGood.mono_l : ∀ k, (∀ y0 y1 y2 y3, LeO (spec_boGood.j0 k y0 y1 y2 y3) (spec_boGood.j0 (k + 1) y0 y1 y2 y3)) /\ (∀ y0 y1 y2, LeO (spec_boGood.l0 k y0 y1 y2) (spec_boGood.l0 (k + 1) y0 y1 y2))
 | 0 => by refine ⟨?_, ?_⟩ <;> (intros; intro r h; first | (simp [spec_boGood.j0] at h; done) | (simp [spec_boGood.l0] at h; done))
 | k + 1 => by
  obtain ⟨ih0, ih1⟩ := spec_boGood.mono_l k
  refine ⟨?_, ?_⟩ <;> (
   intros
   first | unfold spec_boGood.j0 | unfold spec_boGood.l0
   exact LM2 ih0 ih1)
theorem spec_boGood.mono : ∀ a0 a1 a2 k, LeO (spec_boGood.f k a0 a1 a2) (spec_boGood.f (k + 1) a0 a1 a2) := by
 intro a0 a1 a2 k
 obtain ⟨ih0, ih1⟩ := spec_boGood.mono_l k
 unfold spec_boGood.f
 exact LM2 ih0 ih1
theorem spec_boGood.calls (k : Nat) (a0_0 : Int) (a0_1 : Int) (A0_2 : Option Addr) (c0_2 : Nat) (l0_2 : List (S83)) (r : Bool) (w : World) (hr0_2 : Kd.C k83 w A0_2 l0_2.length l0_2) (hc0_2 : l0_2.length <= c0_2) (h : spec_boGood.f k a0_0 a0_1 l0_2 = some r) :
 Calls Try.prog 83 #[.agg #[.int .i64 a0_0, .int .i64 a0_1, .slice A0_2 l0_2.length c0_2]] w fun e w' => e = .returned (.bool r) /\ Below w.heap.size w w' := by
 have hu30 := Try.underlying30
 have hu83 := Try.underlying83
 have HR0_2 := Aside0.mk hr0_2
 have HC0_2 := Aside0.mk hc0_2
 clear hr0_2 hc0_2
 have HB := Aside0.mk (Below.refl w.heap.size w)
 have H := h
 clear h
 unfold spec_boGood.f at H
 have HC2 := Aside0.mk H
 clear H
 go_enter Try.func83, Try.ntmps83
 go_upto_region 1 with (first | ((with_reducible refine gate_dst (N := 1) rfl ?_); (try (refine gate_guard (by rfl) ?_; dsimp only)); refine boxE (cs := #[.int .i64 a0_0, .int .i64 a0_1, .slice A0_2 l0_2.length c0_2]) (t := 30) ?_; intro gb184 hg w3 hbox hb; refine E4b HB.1 hg hbox hb ?_; clear HB; intro HB BK184 GW184 GE184; clear hb hbox hg))
 (try simp only [Act.put, List.setIfInBounds_toArray, List.set_cons_zero, List.set_cons_succ])
 go_cut [25] (fun v25 wc => ∃ (kq : Nat) (x25_1 : Bool), v25 = .bool x25_1 /\ Aside0 (spec_boGood.j0 kq x25_1 a0_0 a0_1 l0_2 = some r) /\ Aside0 (kq <= k) /\ Aside0 (wc.heap[gb184]? = some (.cells #[.int .i64 a0_0, .int .i64 a0_1, (.slice A0_2 l0_2.length c0_2)] 30 (0, 0))) /\ Aside0 (Below w.heap.size w wc))
 case first =>
  have H := HC2.1
  clear HC2
  replace H := bindA H; obtain ⟨t185, A4, H⟩ := H
  replace H := ifX H; rcases H with ⟨rfl, H⟩ | ⟨rfl, H⟩
  · replace H := bindA H; obtain ⟨t186, A6, H⟩ := H
    replace H := ifX H; rcases H with ⟨rfl, H⟩ | ⟨rfl, H⟩
    · have H' := Aside0.mk H
      clear H
      obtain ⟨hcz8_0, hcz8_1, hcz8_2, hfz8_0, hfz8_1, hfz8_2⟩ := cz3 BK184.1
      go_wp2_with (first | ((with_reducible refine gate_callee (f := 55) rfl ?_); refine goesM (N := (some 7)) #[.int .i64 a0_0, .int .i64 1, .int .i64 10] Try.func55 ?_; (with_reducible refine (spec_l1In.calls a0_0 1 10 true _ A4.1).mono ?_); rintro e w' ⟨rfl, ⟨nd, rfl⟩⟩; refine ⟨_, rfl, ?_⟩) | (go_at_call 55; (with_reducible refine (spec_l1In.calls a0_1 1 9 true _ A6.1).mono ?_); rintro e w' ⟨rfl, ⟨nd, rfl⟩⟩))
      go_meet
      case rel => exact ⟨_, (((l0_2.length : Int) != (wrap64 (a0_0 * a0_1)))), RG, H', ⟨by first | omega | exact Nat.le_refl _⟩, ⟨PB BK184.1⟩, ⟨BL HB.1⟩⟩
    have H' := Aside0.mk H
    clear H
    obtain ⟨hcz9_0, hcz9_1, hcz9_2, hfz9_0, hfz9_1, hfz9_2⟩ := cz3 BK184.1
    go_wp2_with (first | ((with_reducible refine gate_callee (f := 55) rfl ?_); refine goesM (N := (some 7)) #[.int .i64 a0_0, .int .i64 1, .int .i64 10] Try.func55 ?_; (with_reducible refine (spec_l1In.calls a0_0 1 10 true _ A4.1).mono ?_); rintro e w' ⟨rfl, ⟨nd, rfl⟩⟩; refine ⟨_, rfl, ?_⟩) | (go_at_call 55; (with_reducible refine (spec_l1In.calls a0_1 1 9 false _ A6.1).mono ?_); rintro e w' ⟨rfl, ⟨nd, rfl⟩⟩))
    go_meet
    case rel => exact ⟨_, (true), RG, H', ⟨by first | omega | exact Nat.le_refl _⟩, ⟨PB BK184.1⟩, ⟨BL HB.1⟩⟩
  have H' := Aside0.mk H
  clear H
  obtain ⟨hcz10_0, hcz10_1, hcz10_2, hfz10_0, hfz10_1, hfz10_2⟩ := cz3 BK184.1
  go_wp2_with (first | ((with_reducible refine gate_callee (f := 55) rfl ?_); refine goesM (N := (some 7)) #[.int .i64 a0_0, .int .i64 1, .int .i64 10] Try.func55 ?_; (with_reducible refine (spec_l1In.calls a0_0 1 10 false _ A4.1).mono ?_); rintro e w' ⟨rfl, ⟨nd, rfl⟩⟩; refine ⟨_, rfl, ?_⟩))
  go_meet
  case rel => exact ⟨_, (true), RG, H', ⟨by first | omega | exact Nat.le_refl _⟩, ⟨PB BK184.1⟩, ⟨BL HB.1⟩⟩
 clear HC2
 obtain ⟨kq, x25_1, rfl, HA, HJ1, BK184, HB⟩ := hcut
 cases kq with
 | zero => exact absurd HA.1 (by simp [spec_boGood.j0])
 | succ kj1 => ?_
 have H := HA.1
 clear HA
 simp only [spec_boGood.j0] at H
 replace H := ifX H; rcases H with ⟨rfl, H⟩ | ⟨rfl, H⟩
 · obtain rfl := Option.some.inj H
   go_wp2
   go_ret
   exact ⟨RF, BL HB.1⟩
 have H' := Aside0.mk H
 clear H
 obtain ⟨hcz12_0, hcz12_1, hcz12_2, hfz12_0, hfz12_1, hfz12_2⟩ := cz3 BK184.1
 go_wp2
 go_loopg [29] kj1 (fun kq v29 w' => ∃ (x29_2 : Int), v29 = .int .i64 x29_2 /\ Aside0 (spec_boGood.l0 kq l0_2 (l0_2.length : Int) x29_2 = some r) /\ Aside0 (kq <= kj1) /\ Aside0 (w'.heap[gb184]? = some (.cells #[.int .i64 a0_0, .int .i64 a0_1, (.slice A0_2 l0_2.length c0_2)] 30 (0, 0))) /\ Aside0 (Below w.heap.size w w'))
 case atStart => exact ⟨(0), RG, H', ⟨Nat.le_refl _⟩, ⟨PB BK184.1⟩, ⟨BL HB.1⟩⟩
 clear H'
 clear hcz12_0 hcz12_1 hcz12_2 hfz12_0 hfz12_1 hfz12_2
 obtain ⟨x29_2, rfl, HA, HK2, BK184, HB⟩ := hrel
 cases gk with
 | zero => exact absurd HA.1 (by simp [spec_boGood.l0])
 | succ k2 => ?_
 have H := HA.1
 clear HA
 simp only [spec_boGood.l0] at H
 replace H := ifB H; rcases H with ⟨c13b0, H⟩ | ⟨c13b0, H⟩
 · replace H := ifN H; obtain ⟨c14b0, H⟩ := H
   replace H := ifN H; obtain ⟨c15b0, H⟩ := H
   replace H := bindA H; obtain ⟨t189, A16, H⟩ := H
   replace H := ifX H; rcases H with ⟨rfl, H⟩ | ⟨rfl, H⟩
   · have H' := Aside0.mk H
     clear H
     have p187 : 0 <= (x29_2 : Int) := OD
     have q187 : x29_2 < (l0_2.length : Int) := OD
     obtain ⟨ad187, e187, hx187_0, hx187_1⟩ := at_T83 HR0_2.1 x29_2 p187 q187
     cases e187
     replace hx187_0 := (HB.1.cell (World.block_lt_of_cell? w _ hx187_0)).trans hx187_0
     replace hx187_1 := (HB.1.cell (World.block_lt_of_cell? w _ hx187_1)).trans hx187_1
     replace p187 := eq_true p187
     replace q187 := eq_true q187
     go_wp2_with (first | ((with_reducible refine gate_dst (N := 4) rfl ?_); (try (refine gate_guard (by rfl) ?_; dsimp only)); refine boxE (cs := #[.int .i64 0, .int .i64 0]) (t := 83) ?_; intro gb188 hg w18 hbox hb; refine E7 (bB BK184.1 hb) (bS HB.1 hb) (hbox) (gX HB.1 hg) (gX HB.1 hg) (nB BK184.1 hg) (nC BK184.1 hg) ?_; clear BK184 HB; intro BK184 HB BK188 GW188 GE188 NB184_188 NB188_184; clear hb hbox hg; have hnb19 := NB188_184.1; have hnc19 := NB184_188.1; obtain ⟨hcz20_0, hcz20_1, hfz20_0, hfz20_1⟩ := cz2 BK188.1) | ((with_reducible refine gate_callee (f := 93) rfl ?_); refine goesM (N := (some 34)) #[.agg #[.int .i64 ((rd_T83 l0_2 x29_2).f0), .int .i64 ((rd_T83 l0_2 x29_2).f1)]] Try.func93 ?_; (with_reducible refine (spec_paGood.calls ((rd_T83 l0_2 x29_2).f0) ((rd_T83 l0_2 x29_2).f1) true _ A16.1).mono ?_); rintro e w21 ⟨rfl, hb⟩; refine ⟨_, rfl, ?_⟩; refine E3 (blk_below (g := gb184) (o := .cells #[.int .i64 a0_0, .int .i64 a0_1, .slice (some ad187) l0_2.length c0_2] 30 (0, 0)) (PF1 NB184_188.1 BK184.1) hb) (blk_below (g := gb188) (o := .cells #[.int .i64 ((rd_T83 l0_2 x29_2).f0), .int .i64 ((rd_T83 l0_2 x29_2).f1)] 83 (0, 0)) (PF0 BK188.1) hb) (bS HB.1 hb) ?_; clear BK184 BK188 HB; intro BK184 BK188 HB; (try clear hb)))
     go_roundg k2
     case measure => have := HJ1.1; have := HK2.1; omega
     case rel => exact ⟨(wrap64 (x29_2 + 1)), RG, H', ⟨by have := HJ1.1; have := HK2.1; omega⟩, ⟨PB BK184.1⟩, ⟨BL HB.1⟩⟩
   obtain rfl := Option.some.inj H
   have p187 : 0 <= (x29_2 : Int) := OD
   have q187 : x29_2 < (l0_2.length : Int) := OD
   obtain ⟨ad187, e187, hx187_0, hx187_1⟩ := at_T83 HR0_2.1 x29_2 p187 q187
   cases e187
   replace hx187_0 := (HB.1.cell (World.block_lt_of_cell? w _ hx187_0)).trans hx187_0
   replace hx187_1 := (HB.1.cell (World.block_lt_of_cell? w _ hx187_1)).trans hx187_1
   replace p187 := eq_true p187
   replace q187 := eq_true q187
   go_wp2_with (first | ((with_reducible refine gate_dst (N := 4) rfl ?_); (try (refine gate_guard (by rfl) ?_; dsimp only)); refine boxE (cs := #[.int .i64 0, .int .i64 0]) (t := 83) ?_; intro gb188 hg w22 hbox hb; refine E7 (bB BK184.1 hb) (bS HB.1 hb) (hbox) (gX HB.1 hg) (gX HB.1 hg) (nB BK184.1 hg) (nC BK184.1 hg) ?_; clear BK184 HB; intro BK184 HB BK188 GW188 GE188 NB184_188 NB188_184; clear hb hbox hg; have hnb23 := NB188_184.1; have hnc23 := NB184_188.1; obtain ⟨hcz24_0, hcz24_1, hfz24_0, hfz24_1⟩ := cz2 BK188.1) | ((with_reducible refine gate_callee (f := 93) rfl ?_); refine goesM (N := (some 34)) #[.agg #[.int .i64 ((rd_T83 l0_2 x29_2).f0), .int .i64 ((rd_T83 l0_2 x29_2).f1)]] Try.func93 ?_; (with_reducible refine (spec_paGood.calls ((rd_T83 l0_2 x29_2).f0) ((rd_T83 l0_2 x29_2).f1) false _ A16.1).mono ?_); rintro e w25 ⟨rfl, hb⟩; refine ⟨_, rfl, ?_⟩; refine E3 (blk_below (g := gb184) (o := .cells #[.int .i64 a0_0, .int .i64 a0_1, .slice (some ad187) l0_2.length c0_2] 30 (0, 0)) (PF1 NB184_188.1 BK184.1) hb) (blk_below (g := gb188) (o := .cells #[.int .i64 ((rd_T83 l0_2 x29_2).f0), .int .i64 ((rd_T83 l0_2 x29_2).f1)] 83 (0, 0)) (PF0 BK188.1) hb) (bS HB.1 hb) ?_; clear BK184 BK188 HB; intro BK184 BK188 HB; (try clear hb)))
   go_ret
   exact ⟨RF, BL HB.1⟩
 obtain rfl := Option.some.inj H
 go_wp2
 go_ret
 exact ⟨RF, BL HB.1⟩
def spec_reGood.f (k : Nat) (a0_0 : Int) (a0_1 : Int) (l0_2 : List (S83)) : Option (Bool) := (spec_boGood.f k a0_0 a0_1 l0_2).bind fun t191 => (if t191 = true then ((spec_saUnits.f k a0_0 a0_1 l0_2).bind fun t192 => (some (decide ((t192.length : Int) <= 8)))) else (some false))
theorem spec_reGood.mono : ∀ a0 a1 a2 k, LeO (spec_reGood.f k a0 a1 a2) (spec_reGood.f (k + 1) a0 a1 a2) := by
 intro a0 a1 a2 k
 unfold spec_reGood.f
 repeat' first
  | (with_reducible exact spec_boGood.mono _ _ _ _)
  | (with_reducible exact spec_saUnits.mono _ _ _ _)
  | (with_reducible exact LeO.refl _)
  | (with_reducible exact LeO.none _)
  | (with_reducible refine LeO.ite ?_ ?_)
  | (with_reducible refine LeO.bind ?_ (fun _ => ?_))
  | exact spec_boGood.mono _ _ _ _
  | exact spec_saUnits.mono _ _ _ _
  | exact LeO.none _
  | refine LeO.ite ?_ ?_
  | refine LeO.bind ?_ (fun _ => ?_)
theorem spec_reGood.calls (k : Nat) (a0_0 : Int) (a0_1 : Int) (A0_2 : Option Addr) (c0_2 : Nat) (l0_2 : List (S83)) (r : Bool) (w : World) (hr0_2 : Kd.C k83 w A0_2 l0_2.length l0_2) (hc0_2 : l0_2.length <= c0_2) (h : spec_reGood.f k a0_0 a0_1 l0_2 = some r) :
 Calls Try.prog 68 #[.agg #[.int .i64 a0_0, .int .i64 a0_1, .slice A0_2 l0_2.length c0_2]] w fun e w' => e = .returned (.bool r) /\ Below w.heap.size w w' := by
 have hu30 := Try.underlying30
 have HR0_2 := Aside0.mk hr0_2
 have HC0_2 := Aside0.mk hc0_2
 clear hr0_2 hc0_2
 have HB := Aside0.mk (Below.refl w.heap.size w)
 have H := h
 clear h
 unfold spec_reGood.f at H
 replace H := bindA H; obtain ⟨t191, A2, H⟩ := H
 replace H := ifX H; rcases H with ⟨rfl, H⟩ | ⟨rfl, H⟩
 · replace H := bindA H; obtain ⟨t192, A4, H⟩ := H
   obtain rfl := Option.some.inj H
   go_enter Try.func68, Try.ntmps68
   go_wp2_with (first | ((with_reducible refine gate_dst (N := 1) rfl ?_); (try (refine gate_guard (by rfl) ?_; dsimp only)); refine boxE (cs := #[.int .i64 a0_0, .int .i64 a0_1, .slice A0_2 l0_2.length c0_2]) (t := 30) ?_; intro gb190 hg w5 hbox hb; refine E4b HB.1 hg hbox hb ?_; clear HB; intro HB BK190 GW190 GE190; clear hb hbox hg; obtain ⟨hcz6_0, hcz6_1, hcz6_2, hfz6_0, hfz6_1, hfz6_2⟩ := cz3 BK190.1) | ((with_reducible refine gate_callee (f := 83) rfl ?_); refine goesM (N := (some 4)) #[.agg #[.int .i64 a0_0, .int .i64 a0_1, .slice A0_2 l0_2.length c0_2]] Try.func83 ?_; (with_reducible refine (spec_boGood.calls k a0_0 a0_1 _ _ l0_2 true _ ?side1 ?side2 A2.1).mono ?_); (case side1 => exact CB (C_below HR0_2.1 HB.1)); (case side2 => exact HC0_2.1); rintro e w7 ⟨rfl, hb⟩; refine ⟨_, rfl, ?_⟩; refine E2 (bB BK190.1 hb) (bS HB.1 hb) ?_; clear BK190 HB; intro BK190 HB; (try clear hb); obtain ⟨hcz8_0, hcz8_1, hcz8_2, hfz8_0, hfz8_1, hfz8_2⟩ := cz3 BK190.1) | (go_at_call 52; (with_reducible refine (spec_saUnits.calls k a0_0 a0_1 _ _ l0_2 t192 _ ?side1 ?side2 A4.1).mono ?_); (case side1 => exact CB (C_below HR0_2.1 HB.1)); (case side2 => exact HC0_2.1); rintro e w9 ⟨v193, rfl, ho0, hb⟩; refine E3 (S_lower ho0 (bZ HB.1)) (bB BK190.1 hb) (bS HB.1 hb) ?_; clear BK190 HB; intro HO194 BK190 HB; (try clear hb); (try clear ho0); obtain ⟨Ao10, co10, eo10⟩ := S_slice HO194.1; subst eo10))
   go_ret
   exact ⟨RF, BL HB.1⟩
 obtain rfl := Option.some.inj H
 go_enter Try.func68, Try.ntmps68
 go_wp2_with (first | ((with_reducible refine gate_dst (N := 1) rfl ?_); (try (refine gate_guard (by rfl) ?_; dsimp only)); refine boxE (cs := #[.int .i64 a0_0, .int .i64 a0_1, .slice A0_2 l0_2.length c0_2]) (t := 30) ?_; intro gb190 hg w11 hbox hb; refine E4b HB.1 hg hbox hb ?_; clear HB; intro HB BK190 GW190 GE190; clear hb hbox hg; obtain ⟨hcz12_0, hcz12_1, hcz12_2, hfz12_0, hfz12_1, hfz12_2⟩ := cz3 BK190.1) | ((with_reducible refine gate_callee (f := 83) rfl ?_); refine goesM (N := (some 4)) #[.agg #[.int .i64 a0_0, .int .i64 a0_1, .slice A0_2 l0_2.length c0_2]] Try.func83 ?_; (with_reducible refine (spec_boGood.calls k a0_0 a0_1 _ _ l0_2 false _ ?side1 ?side2 A2.1).mono ?_); (case side1 => exact CB (C_below HR0_2.1 HB.1)); (case side2 => exact HC0_2.1); rintro e w13 ⟨rfl, hb⟩; refine ⟨_, rfl, ?_⟩; refine E2 (bB BK190.1 hb) (bS HB.1 hb) ?_; clear BK190 HB; intro BK190 HB; (try clear hb)))
 go_ret
 exact ⟨RF, BL HB.1⟩
def spec_saBits.l0 : Nat -> List Int -> List (List Int) -> Int -> Int -> Int -> Int -> List (S83) -> Option (List Int)
 | 0, _, _, _, _, _, _, _ => none
 | k + 1, x3, x7, x8, x9, x199000, x199001, x199002 => if x9 < x8 then (if 0 <= x9 then (if x9 < (x7.length : Int) then (if 0 < ((rd_L3 x7 x9).length : Int) then (if 0 <= (rd (rd_L3 x7 x9) 0) then (if (rd (rd_L3 x7 x9) 0) < (x199002.length : Int) then (if x3.length < 17592186044416 then (spec_saBits.l0 k (x3 ++ [(rd_T83 x199002 (rd (rd_L3 x7 x9) 0)).f1]) x7 x8 (wrap64 (x9 + 1)) x199000 x199001 x199002) else (none)) else (none)) else (none)) else (none)) else (none)) else (none)) else (some x3)
def spec_saBits.f (k : Nat) (a0_0 : Int) (a0_1 : Int) (l0_2 : List (S83)) : Option (List Int) := (spec_saUnits.f k a0_0 a0_1 l0_2).bind fun t199 => (spec_saBits.l0 k ([] : List Int) t199 (t199.length : Int) 0 a0_0 a0_1 l0_2)
theorem spec_saBits.mono_l : ∀ k, (∀ y0 y1 y2 y3 y4 y5 y6, LeO (spec_saBits.l0 k y0 y1 y2 y3 y4 y5 y6) (spec_saBits.l0 (k + 1) y0 y1 y2 y3 y4 y5 y6))
 | 0 => fun _ _ _ _ _ _ _ r h => by simp [spec_saBits.l0] at h
 | k + 1 => by
  have ih0 := spec_saBits.mono_l k
  intros
  first | unfold spec_saBits.l0
  exact LM2 ih0 spec_saUnits.mono
theorem spec_saBits.mono : ∀ a0 a1 a2 k, LeO (spec_saBits.f k a0 a1 a2) (spec_saBits.f (k + 1) a0 a1 a2) := by
 intro a0 a1 a2 k
 have ih0 := spec_saBits.mono_l k
 unfold spec_saBits.f
 exact LM2 ih0 spec_saUnits.mono
def spec_saBits.T5 : Bool × List (List Nat × List Nat) := (true, [([], []), ([], []), ([1], [1]), ([], []), ([3], [3]), ([4], [4]), ([2, 5], [2, 5]), ([6], [6]), ([7], [7]), ([8], [8]), ([0, 9], [0, 9]), ([10, 10, 0, 1, 2, 3, 4, 5, 6, 7, 8, 9, 10], [0, 10])])
def spec_saBits.B5 : List Nat := [0, 0, 2, 0, 8, 24, 62, 126, 254, 510, 1023, 2047]
theorem spec_saBits.tab5 : rtab .any (opsOf Try.f71 5) = spec_saBits.T5 := by kernel_rfl
theorem spec_saBits.bits5 : waitsOk spec_saBits.T5.2 spec_saBits.B5 = true := by kernel_rfl
theorem spec_saBits.calls (k : Nat) (a0_0 : Int) (a0_1 : Int) (A0_2 : Option Addr) (c0_2 : Nat) (l0_2 : List (S83)) (r : List Int) (w : World) (hr0_2 : Kd.C k83 w A0_2 l0_2.length l0_2) (hc0_2 : l0_2.length <= c0_2) (h : spec_saBits.f k a0_0 a0_1 l0_2 = some r) :
 Calls Try.prog 71 #[.agg #[.int .i64 a0_0, .int .i64 a0_1, .slice A0_2 l0_2.length c0_2]] w fun e w' => ∃ v0_ : Value, e = .returned (v0_) /\ Kd.R (Kd.int .i64) 3 w' w.heap.size (fun _ => True) v0_ r /\ Below w.heap.size w w' := by
 have hu30 := Try.underlying30
 have HR0_2 := Aside0.mk hr0_2
 have HC0_2 := Aside0.mk hc0_2
 clear hr0_2 hc0_2
 have HB := Aside0.mk (Below.refl w.heap.size w)
 have H := h
 clear h
 unfold spec_saBits.f at H
 replace H := bindA H; obtain ⟨t199, A2, H⟩ := H
 have H' := Aside0.mk H
 clear H
 go_enter Try.func71, Try.ntmps71
 go_wp2_with (first | ((with_reducible refine gate_dst (N := 1) rfl ?_); refine boxE (cs := #[.int .i64 a0_0, .int .i64 a0_1, .slice A0_2 l0_2.length c0_2]) (t := 30) ?_; intro gb198 hg w3 hbox hb; refine E4b HB.1 hg hbox hb ?_; clear HB; intro HB BK198 GW198 GE198; clear hb hbox hg; obtain ⟨hcz4_0, hcz4_1, hcz4_2, hfz4_0, hfz4_1, hfz4_2⟩ := cz3 BK198.1) | ((with_reducible refine gate_callee (f := 52) rfl ?_); refine goesM (N := (some 7)) #[.agg #[.int .i64 a0_0, .int .i64 a0_1, .slice A0_2 l0_2.length c0_2]] Try.func52 ?_; (with_reducible refine (spec_saUnits.calls k a0_0 a0_1 _ _ l0_2 t199 _ ?side1 ?side2 A2.1).mono ?_); (case side1 => exact CB (C_below HR0_2.1 HB.1)); (case side2 => exact HC0_2.1); rintro e w5 ⟨v200, rfl, ho0, hb⟩; refine ⟨_, rfl, ?_⟩; refine E3 (S_lower ho0 (bZ HB.1)) (bB BK198.1 hb) (bS HB.1 hb) ?_; clear BK198 HB; intro HO201 BK198 HB; (try clear hb); (try clear ho0); obtain ⟨Ao6, co6, eo6⟩ := S_slice HO201.1; subst eo6))
 go_loopg [3, 9] k (fun kq v3 v9 w' => ∃ (x3_1 : List Int) (x9_1 : Int), v9 = .int .i64 x9_1 /\ Aside0 (spec_saBits.l0 kq x3_1 t199 (t199.length : Int) x9_1 a0_0 a0_1 l0_2 = some r) /\ Aside0 (kq <= k) /\ Aside0 (Kd.R (Kd.int .i64) 3 w' w.heap.size (fun _ => True) v3 x3_1) /\ Aside0 (Kd.S (Kd.slice 3 (Kd.int .i64)) 38 w' w.heap.size (fun k_ => some k_ ≠ (v3 : Value).ownBlock) (.slice Ao6 t199.length co6) t199) /\ Aside0 (w'.heap[gb198]? = some (.cells #[.int .i64 a0_0, .int .i64 a0_1, (.slice A0_2 l0_2.length c0_2)] 30 (0, 0))) /\ Aside0 (Below w.heap.size w w'))
 case atStart => exact ⟨(([] : List Int)), (0), RG, H', ⟨Nat.le_refl _⟩, ⟨by first | exact R_nil _ _ _ _ _ | exact N_nil _ _ _ _ _ | exact V_nil _ _ _ _ _ | exact Q_nil _ _ _ _ _ | exact S_nil _ _ _ _ _⟩, ⟨SPE (S_mono HO201.1 (fun _ hk => (by simp [Value.ownBlock])))⟩, ⟨PB BK198.1⟩, ⟨BL HB.1⟩⟩
 clear H'
 clear hcz4_0 hcz4_1 hcz4_2 hfz4_0 hfz4_1 hfz4_2
 obtain ⟨x3_1, x9_1, rfl, HA, HK1, HO_3, HO_7, BK198, HB⟩ := hrel
 cases gk with
 | zero => exact absurd HA.1 (by simp [spec_saBits.l0])
 | succ k1 => ?_
 have H := HA.1
 clear HA
 simp only [spec_saBits.l0] at H
 replace H := ifB H; rcases H with ⟨c7b0, H⟩ | ⟨c7b0, H⟩
 · replace H := ifN H; obtain ⟨c8b0, H⟩ := H
   replace H := ifN H; obtain ⟨c9b0, H⟩ := H
   replace H := ifP H; obtain ⟨c10, H⟩ := H
   have c10b0 := decide_eq_true c10
   have c10b1 : decide (0 < (rd_L3 t199 x9_1).length) = true := decide_eq_true (by omega)
   clear c10
   replace H := ifN H; obtain ⟨c11b0, H⟩ := H
   replace H := ifN H; obtain ⟨c12b0, H⟩ := H
   replace H := ifP H; obtain ⟨c13, H⟩ := H
   have LMc13 := Aside0.mk c13
   clear c13
   generalize hy205 : ((x3_1 ++ [(rd_T83 l0_2 (rd (rd_L3 t199 x9_1) 0)).f1]) : List Int) = y205 at H
   have Ny205 := Aside0.mk hy205.symm; clear hy205
   have H' := Aside0.mk H
   clear H
   have p202 : 0 <= (x9_1 : Int) := OD
   have q202 : x9_1 < (t199.length : Int) := OD
   obtain ⟨ad202, A202_0, c202_0, e202, hx202_0, hl202_0, hi202_0⟩ := at_L3 (S_reads' HO_7.1).2.2 x9_1 p202 q202
   cases e202
   obtain ⟨ce202, hce202, hMe202, hcc202⟩ := S_get HO_7.1 [] x9_1 p202 (by first | exact q202 | exact OD | (have e_ := (S_reads' HO_7.1).1; omega))
   obtain ⟨ve202_0, rfl, ge202_0⟩ := hMe202
   have hv202_0 := hcc202 0 _ rfl
   rw [Nat.add_zero, show ((Kd.slice 3 (Kd.int .i64))).sz = 1 from rfl, Nat.mul_one] at hv202_0
   replace hv202_0 := Option.some.inj (hv202_0.symm.trans hx202_0)
   rw [hv202_0] at ge202_0
   have HL202_0 := Aside0.mk (show Kd.R (Kd.int .i64) 3 _ _ _ _ (rd_L3 t199 x9_1) from ge202_0)
   clear hv202_0 ge202_0
   clear hcc202 hce202
   have HR202_0 := Aside0.mk hi202_0
   have HC202_0 := Aside0.mk hl202_0
   clear hi202_0 hl202_0
   replace p202 := eq_true p202
   replace q202 := eq_true q202
   try go_wp2
   refine E6 (R_drew HO_3.1) (S_drew HO_7.1) (R_drew HL202_0.1) (blk_drew BK198.1) (C_drew HR202_0.1) (below_drew1 HB.1) ?_
   clear HO_3 HO_7 HL202_0 BK198 HR202_0 HB
   intro HO_3 HO_7 HL202_0 BK198 HR202_0 HB
   have p203 : 0 <= (0 : Int) := (by omega)
   have q203 : 0 < ((rd_L3 t199 x9_1).length : Int) := OD
   obtain ⟨ad203, e203, hx203_0⟩ := Kd.at_int (by repeat (first | (with_reducible exact HR202_0.1) | (with_reducible refine C_alloc ?_ _) | (with_reducible refine C_drewN ?_ _) | (with_reducible refine C_drew ?_) | exact HR202_0.1)) 0 p203 q203
   cases e203
   have qi203 : (0 < (rd_L3 t199 x9_1).length) = True := eq_true (by omega)
   (try rw [show ((0 : Int)).toNat = 0 from rfl] at hx203_0)
   (try rw [Addr.add_zero'] at hx203_0)
   replace p203 := eq_true p203
   replace q203 := eq_true q203
   have p204 : 0 <= ((rd (rd_L3 t199 x9_1) 0) : Int) := OD
   have q204 : (rd (rd_L3 t199 x9_1) 0) < (l0_2.length : Int) := OD
   obtain ⟨ad204, e204, hx204_0, hx204_1⟩ := at_T83 HR0_2.1 (rd (rd_L3 t199 x9_1) 0) p204 q204
   have hw204_1 := hx204_1
   have hw204_0 := hx204_0
   cases e204
   replace hx204_0 := (HB.1.cell (World.block_lt_of_cell? w _ hx204_0)).trans hx204_0
   replace hx204_1 := (HB.1.cell (World.block_lt_of_cell? w _ hx204_1)).trans hx204_1
   replace p204 := eq_true p204
   replace q204 := eq_true q204
   refine start_ (n := 12) (S := fun w' => w'.cell? ⟨gb198, 0, none⟩ = some (.int .i64 a0_0) /\ w'.cell? ⟨gb198, 1, none⟩ = some (.int .i64 a0_1) /\ w'.cell? ⟨gb198, 2, none⟩ = some (.slice (some ad204) l0_2.length c0_2) /\ w'.cell? ad203 = some (.int .i64 (rd (rd_L3 t199 x9_1) 0)) /\ w'.cell? (ad204.add (((rd (rd_L3 t199 x9_1) 0)).toNat * 2)) = some (.int .i64 ((rd_T83 l0_2 (rd (rd_L3 t199 x9_1) 0)).f0)) /\ w'.cell? ⟨(ad204.add (((rd (rd_L3 t199 x9_1) 0)).toNat * 2)).block, (ad204.add (((rd (rd_L3 t199 x9_1) 0)).toNat * 2)).off + 1, none⟩ = some (.int .i64 ((rd_T83 l0_2 (rd (rd_L3 t199 x9_1) 0)).f1))) (ds := [9, 10]) #[Zz,Zz,Zz,Zz,Zz,Zz,Zz,Zz,Zz,Zz,Zz,Zz] (by kernel_rfl) rfl rfl ⟨(blk_cell BK198.1 0).trans rfl, (blk_cell BK198.1 1).trans rfl, (blk_cell BK198.1 2).trans rfl, hx203_0, ((HB.1.cell (World.block_lt_of_cell? w _ hw204_0)).trans hw204_0), ((HB.1.cell (World.block_lt_of_cell? w _ hw204_1)).trans hw204_1)⟩ (fun hHeld => ?_); refine with_tabW spec_saBits.tab5 spec_saBits.bits5 (fun HT_ HW_ => ?_)
   generalize wr.drew = w14 at HO_3 HO_7 HL202_0 BK198 HR202_0 HB hx203_0 hx204_0 hx204_1 hHeld ⊢
   refine pureF 0 (N := some 13) HT_.1 ?_
   refine pureF 1 (N := some 14) HT_.1 ?_
   refine pureF 3 (N := some 16) HT_.1 ?_
   refine pureF 4 (N := some 17) HT_.1 ?_
   refine takeE 2 (N := some 15) HT_.1 HW_.1 hHeld ?_
   refine takeE 5 (N := some 18) HT_.1 HW_.1 hHeld ?_
   refine pureF 6 (N := some 19) HT_.1 ?_
   refine pureF 7 (N := some 20) HT_.1 ?_
   refine takeE 8 (N := some 21) HT_.1 HW_.1 hHeld ?_
   refine last_ (i := 9) (N := some 22) #[Yy,Yy,Yy,Yy,Yy,Yy,Yy,Yy,Yy,Yy,Zz,Zz] rfl rfl (one_of HT_.1 (by kernel_rfl)) (by decide) (fun K hK => ?_)
   refine value_ (w1 := ?_) (v := ?_) (by rfl) rfl ?_ ?_
   rotate_left 2
   · go_simp
     constructor
     · rfl
     rfl
   refine hK.out _ _ ?_
   clear hK K
   refine norm_ (a' := ?_) ?_ ?_
   rotate_left
   · show Act.put _ (some 22) _ = _
     simp only [Act.put, List.setIfInBounds_toArray, List.set_cons_zero, List.set_cons_succ, i64_w, i32_w]
     rfl
   refine last_ (i := 10) (N := some 23) #[Yy,Yy,Yy,Yy,Yy,Yy,Yy,Yy,Yy,Yy,Yy,Zz] rfl rfl (one_of HT_.1 (by kernel_rfl)) (by decide) (fun K hK => ?_)
   refine R_append_step (Kd.int .i64) (w0 := w) w.heap.size (by rfl) (.tmp 13) (.tmp 22) 38 3 (.int .i64 0) 8 rfl Try.underlying38 info3 rfl (by decide) (by omega) u3 x3_1 ((rd_T83 l0_2 (rd (rd_L3 t199 x9_1) 0)).f1) [.int .i64 ((rd_T83 l0_2 (rd (rd_L3 t199 x9_1) 0)).f1)] (fun _ => True) (fun _ => False) rfl rfl ?aP (fun _ hk => hk.elim) ?aF ?aO ?aB ?aS ?aL ?_
   (case aP => exact rfl)
   (case aB => exact (BL HB.1))
   (case aF => exact (fun _ _ => trivial))
   (case aO => exact (PR HO_3.1))
   (case aS => exact (bZ HB.1))
   (case aL => have := LMc13.1; omega)
   intro v206 w15 ho hb hg hat
   rw [<- Ny205.1] at ho
   refine E5 (S_after (ok := (fun _ => True)) (SPE (S_mono HO_7.1 (fun _ hk => ⟨trivial, hk⟩))) hg hat) (bG BK198.1 hg (R_ne HO_3.1 BK198.1 (by decide))) (R_after (ok := (fun k_ => some k_ ≠ (.slice (some ad202) t199.length co6 : Value).ownBlock)) (RPE (R_mono HL202_0.1 (fun _ hk => ⟨hk.2, hk.1⟩))) hg hat) (hb) (ho) ?_
   clear HO_7 BK198 HL202_0 HB HO_3
   intro HO_7 BK198 HL202_0 HB HO207
   clear ho hb hg hat
   refine hK.out _ _ ?_
   clear hK K
   refine norm_ (a' := ?_) ?_ ?_
   rotate_left
   · show Act.put _ (some 23) _ = _
     simp only [Act.put, List.setIfInBounds_toArray, List.set_cons_zero, List.set_cons_succ, i64_w, i32_w]
     rfl
   refine pureF 11 (N := some 3) HT_.1 ?_
   refine done_ (done_of HT_.1 (by kernel_rfl)) ?_
   try go_wp2
   go_roundg k1
   case measure => have := HK1.1; omega
   case rel => exact ⟨(y205), (wrap64 (x9_1 + 1)), RG, H', ⟨by have := HK1.1; omega⟩, ⟨PR HO207.1⟩, ⟨SPE (S_mono HO_7.1 (fun _ hk => hk.2))⟩, ⟨PB BK198.1⟩, ⟨BL HB.1⟩⟩
 obtain rfl := Option.some.inj H
 go_wp2
 go_ret
 exact ⟨_, RF, RPE (HO_3.1), BL HB.1⟩
def spec_saNumber.l0 : Nat -> Int -> List Int -> Int -> Int -> Option (Int)
 | 0, _, _, _, _ => none
 | k + 1, x3, x7, x8, x9 => if x9 < x8 then (if 0 <= x9 then (if x9 < (x7.length : Int) then (if 0 <= (IntKind.u64.wrap (x9)) then (spec_saNumber.l0 k (wrap64 (x3 + (shl .i64 (rd x7 x9) (IntKind.u64.wrap (x9))))) x7 x8 (wrap64 (x9 + 1))) else (none)) else (none)) else (none)) else (some x3)
def spec_saNumber.f (k : Nat) (a0_0 : Int) (a0_1 : Int) (l0_2 : List (S83)) : Option (Int) := (spec_saBits.f k a0_0 a0_1 l0_2).bind fun t209 => (spec_saNumber.l0 k 0 t209 (t209.length : Int) 0)
theorem spec_saNumber.mono_l : ∀ k, (∀ y0 y1 y2 y3, LeO (spec_saNumber.l0 k y0 y1 y2 y3) (spec_saNumber.l0 (k + 1) y0 y1 y2 y3))
 | 0 => fun _ _ _ _ r h => by simp [spec_saNumber.l0] at h
 | k + 1 => by
  have ih0 := spec_saNumber.mono_l k
  intros
  first | unfold spec_saNumber.l0
  exact LM2 ih0 spec_saBits.mono
theorem spec_saNumber.mono : ∀ a0 a1 a2 k, LeO (spec_saNumber.f k a0 a1 a2) (spec_saNumber.f (k + 1) a0 a1 a2) := by
 intro a0 a1 a2 k
 have ih0 := spec_saNumber.mono_l k
 unfold spec_saNumber.f
 exact LM2 ih0 spec_saBits.mono
theorem spec_saNumber.calls (k : Nat) (a0_0 : Int) (a0_1 : Int) (A0_2 : Option Addr) (c0_2 : Nat) (l0_2 : List (S83)) (r : Int) (w : World) (hr0_2 : Kd.C k83 w A0_2 l0_2.length l0_2) (hc0_2 : l0_2.length <= c0_2) (h : spec_saNumber.f k a0_0 a0_1 l0_2 = some r) :
 Calls Try.prog 44 #[.agg #[.int .i64 a0_0, .int .i64 a0_1, .slice A0_2 l0_2.length c0_2]] w fun e w' => e = .returned (.int .i64 r) /\ Below w.heap.size w w' := by
 have hu30 := Try.underlying30
 have HR0_2 := Aside0.mk hr0_2
 have HC0_2 := Aside0.mk hc0_2
 clear hr0_2 hc0_2
 have HB := Aside0.mk (Below.refl w.heap.size w)
 have H := h
 clear h
 unfold spec_saNumber.f at H
 replace H := bindA H; obtain ⟨t209, A2, H⟩ := H
 have H' := Aside0.mk H
 clear H
 go_enter Try.func44, Try.ntmps44
 go_wp2_with (first | ((with_reducible refine gate_dst (N := 1) rfl ?_); refine boxE (cs := #[.int .i64 a0_0, .int .i64 a0_1, .slice A0_2 l0_2.length c0_2]) (t := 30) ?_; intro gb208 hg w3 hbox hb; refine E4b HB.1 hg hbox hb ?_; clear HB; intro HB BK208 GW208 GE208; clear hb hbox hg; obtain ⟨hcz4_0, hcz4_1, hcz4_2, hfz4_0, hfz4_1, hfz4_2⟩ := cz3 BK208.1) | ((with_reducible refine gate_callee (f := 71) rfl ?_); refine goesM (N := (some 7)) #[.agg #[.int .i64 a0_0, .int .i64 a0_1, .slice A0_2 l0_2.length c0_2]] Try.func71 ?_; (with_reducible refine (spec_saBits.calls k a0_0 a0_1 _ _ l0_2 t209 _ ?side1 ?side2 A2.1).mono ?_); (case side1 => exact CB (C_below HR0_2.1 HB.1)); (case side2 => exact HC0_2.1); rintro e w5 ⟨v210, rfl, ho0, hb⟩; refine ⟨_, rfl, ?_⟩; refine E3 (R_lower ho0 (bZ HB.1)) (bB BK208.1 hb) (bS HB.1 hb) ?_; clear BK208 HB; intro HO211 BK208 HB; (try clear hb); (try clear ho0); obtain ⟨Ao6, co6, eo6⟩ := R_slice HO211.1; subst eo6))
 go_loopg [3, 9] k (fun kq v3 v9 w' => ∃ (x3_1 : Int) (x9_1 : Int), v3 = .int .i64 x3_1 /\ v9 = .int .i64 x9_1 /\ Aside0 (spec_saNumber.l0 kq x3_1 t209 (t209.length : Int) x9_1 = some r) /\ Aside0 (kq <= k) /\ Aside0 (Kd.R (Kd.int .i64) 3 w' w.heap.size (fun _ => True) (.slice Ao6 t209.length co6) t209) /\ Aside0 (w'.heap[gb208]? = some (.cells #[.int .i64 a0_0, .int .i64 a0_1, (.slice A0_2 l0_2.length c0_2)] 30 (0, 0))) /\ Aside0 (Below w.heap.size w w'))
 case atStart => exact ⟨(0), (0), RG, RG, H', ⟨Nat.le_refl _⟩, ⟨PR HO211.1⟩, ⟨PB BK208.1⟩, ⟨BL HB.1⟩⟩
 clear H'
 clear hcz4_0 hcz4_1 hcz4_2 hfz4_0 hfz4_1 hfz4_2
 obtain ⟨x3_1, x9_1, rfl, rfl, HA, HK1, HO_7, BK208, HB⟩ := hrel
 cases gk with
 | zero => exact absurd HA.1 (by simp [spec_saNumber.l0])
 | succ k1 => ?_
 have H := HA.1
 clear HA
 simp only [spec_saNumber.l0] at H
 replace H := ifB H; rcases H with ⟨c7b0, H⟩ | ⟨c7b0, H⟩
 · replace H := ifN H; obtain ⟨c8b0, H⟩ := H
   replace H := ifN H; obtain ⟨c9b0, H⟩ := H
   obtain ⟨ji10, hji10⟩ : ∃ j_ : Int, (IntKind.u64.wrap (x9_1)) = j_ := ⟨_, rfl⟩
   replace H : (if 0 <= (ji10) then (spec_saNumber.l0 k1 (wrap64 (x3_1 + (shl .i64 (rd t209 x9_1) (ji10)))) t209 (t209.length : Int) (wrap64 (x9_1 + 1))) else (none)) = some r := by first | (rw [hji10] at H; exact H) | (simp only [hji10] at H ⊢; exact H)
   replace H := ifP H; obtain ⟨c11, H⟩ := H
   have c11b0 := eq_true c11
   have c11b1 := decide_eq_true c11
   clear c11
   obtain ⟨ji12, hji12⟩ : ∃ j_ : Int, (shl .i64 (rd t209 x9_1) (ji10)) = j_ := ⟨_, rfl⟩
   replace H : (spec_saNumber.l0 k1 (wrap64 (x3_1 + (ji12))) t209 (t209.length : Int) (wrap64 (x9_1 + 1))) = some r := by first | (rw [hji12] at H; exact H) | (simp only [hji12] at H ⊢; exact H)
   have hji12_ : (IntKind.i64.wrap ((rd t209 x9_1) * 2 ^ min (ji10).toNat 64)) = ji12 := hji12
   have hji12z : (ji10) <= 64 -> (IntKind.i64.wrap ((rd t209 x9_1) * 2 ^ (ji10).toNat)) = ji12 := shl_small hji12
   have hji12y : (wrap64 ((rd t209 x9_1) * 2 ^ min (ji10).toNat 64)) = ji12 := (i64_w _).symm.trans hji12_
   have hji12x : (ji10) <= 64 -> (wrap64 ((rd t209 x9_1) * 2 ^ (ji10).toNat)) = ji12 := fun h_ => (i64_w _).symm.trans (hji12z h_)
   have H' := Aside0.mk H
   clear H
   have p212 : 0 <= (x9_1 : Int) := OD
   have q212 : x9_1 < (t209.length : Int) := OD
   obtain ⟨ad212, e212, hx212_0⟩ := Kd.at_int (R_reads' HO_7.1).2.2 x9_1 p212 q212
   cases e212
   replace p212 := eq_true p212
   replace q212 := eq_true q212
   go_wp2
   go_roundg k1
   case measure => have := HK1.1; omega
   case rel => exact ⟨(wrap64 (x3_1 + (ji12))), (wrap64 (x9_1 + 1)), (by first | rfl | (simp; done) | (simp only [<- hji12] <;> (first | rfl | simp)) | (simp [*]; done)), RG, H', ⟨by have := HK1.1; omega⟩, ⟨PR HO_7.1⟩, ⟨PB BK208.1⟩, ⟨BL HB.1⟩⟩
 obtain rfl := Option.some.inj H
 go_wp2
 go_ret
 exact ⟨RF, BL HB.1⟩
def spec_boOwn.f (a0_0 : Int) (a0_1 : Int) (l0_2 : List (S83)) : Option (Int × Int × (List (S83))) := (some (([] : List (S83)) : List (S83))).bind fun y215 => (if y215.length + l0_2.length < 8796093022208 then (some (a0_0, a0_1, (y215 ++ l0_2))) else (none))
def spec_boOwn.T1 : Bool × List (List Nat × List Nat) := (true, [([], []), ([0], [0]), ([], []), ([2], [2]), ([], []), ([], []), ([5], [5]), ([4, 6], [4, 6]), ([1, 3, 7], [1, 3, 7]), ([8, 7, 0, 1, 2, 3, 4, 5, 6, 7, 8], [8])])
def spec_boOwn.B1 : List Nat := [0, 1, 0, 4, 0, 0, 32, 112, 255, 511]
theorem spec_boOwn.tab1 : rtab .any (opsOf Try.f94 1) = spec_boOwn.T1 := by kernel_rfl
theorem spec_boOwn.bits1 : waitsOk spec_boOwn.T1.2 spec_boOwn.B1 = true := by kernel_rfl
theorem spec_boOwn.calls (a0_0 : Int) (a0_1 : Int) (A0_2 : Option Addr) (c0_2 : Nat) (l0_2 : List (S83)) (r1 : Int) (r2 : Int) (r3 : List (S83)) (w : World) (hr0_2 : Kd.C k83 w A0_2 l0_2.length l0_2) (hc0_2 : l0_2.length <= c0_2) (h : spec_boOwn.f a0_0 a0_1 l0_2 = some (r1, r2, r3)) :
 Calls Try.prog 94 #[.agg #[.int .i64 a0_0, .int .i64 a0_1, .slice A0_2 l0_2.length c0_2]] w fun e w' => ∃ v2_ : Value, e = .returned (.agg #[.int .i64 r1, .int .i64 r2, v2_]) /\ Kd.R k83 83 w' w.heap.size (fun _ => True) v2_ r3 /\ Below w.heap.size w w' := by
 have hu30 := Try.underlying30
 have HR0_2 := Aside0.mk hr0_2
 have HC0_2 := Aside0.mk hc0_2
 clear hr0_2 hc0_2
 have HB := Aside0.mk (Below.refl w.heap.size w)
 have H := h
 clear h
 unfold spec_boOwn.f at H
 replace H := nameB H; obtain ⟨y215, Ny215, H⟩ := H
 replace H := ifP H; obtain ⟨c2, H⟩ := H
 have LMc2 := Aside0.mk c2
 clear c2
 generalize hy218 : ((y215 ++ l0_2) : List (S83)) = y218 at H
 have Ny218 := Aside0.mk hy218.symm; clear hy218
 simp only [Option.some.injEq, Prod.mk.injEq] at H
 obtain ⟨rfl, rfl, rfl⟩ := H
 go_enter Try.func94, Try.ntmps94
 try go_wp2_with (first | ((with_reducible refine gate_dst (N := 1) rfl ?_); refine boxE (cs := #[.int .i64 a0_0, .int .i64 a0_1, .slice A0_2 l0_2.length c0_2]) (t := 30) ?_; intro gb213 hg w3 hbox hb; refine E4b HB.1 hg hbox hb ?_; clear HB; intro HB BK213 GW213 GE213; clear hb hbox hg) | ((with_reducible refine gate_dst (N := 2) rfl ?_); refine boxE (cs := #[.int .i64 0, .int .i64 0, .slice none 0 0]) (t := 30) ?_; intro gb214 hg w4 hbox hb; refine E7 (bB BK213.1 hb) (bS HB.1 hb) (hbox) (gX HB.1 hg) (gX HB.1 hg) (nB BK213.1 hg) (nC BK213.1 hg) ?_; clear BK213 HB; intro BK213 HB BK214 GW214 GE214 NB213_214 NB214_213; clear hb hbox hg))
 refine E3 (blk_drew BK213.1) (blk_drew BK214.1) (below_drew1 HB.1) ?_
 clear BK213 BK214 HB
 intro BK213 BK214 HB
 refine start_ (n := 10) (S := fun w' => w'.cell? ⟨gb213, 0, none⟩ = some (.int .i64 a0_0) /\ w'.cell? ⟨gb213, 1, none⟩ = some (.int .i64 a0_1) /\ w'.cell? ⟨gb213, 2, none⟩ = some (.slice A0_2 l0_2.length c0_2)) (ds := []) #[Zz,Zz,Zz,Zz,Zz,Zz,Zz,Zz,Zz,Zz] (by kernel_rfl) rfl rfl ⟨(blk_cell BK213.1 0).trans rfl, (blk_cell BK213.1 1).trans rfl, (blk_cell BK213.1 2).trans rfl⟩ (fun hHeld => ?_); refine with_tabW spec_boOwn.tab1 spec_boOwn.bits1 (fun HT_ HW_ => ?_)
 generalize w4.drew = w5 at BK213 BK214 HB hHeld ⊢
 refine pureF 0 (N := some 3) HT_.1 ?_
 refine pureF 2 (N := some 5) HT_.1 ?_
 refine pureF 5 (N := some 8) HT_.1 ?_
 refine takeE 1 (N := some 4) HT_.1 HW_.1 hHeld ?_
 refine takeE 3 (N := some 6) HT_.1 HW_.1 hHeld ?_
 refine takeE 6 (N := some 9) HT_.1 HW_.1 hHeld ?_
 refine one_ (i := 4) (N := some 7) #[Yy,Yy,Yy,Yy,Yy,Yy,Yy,Zz,Zz,Zz] rfl rfl (one_of HT_.1 (by kernel_rfl)) (by decide) (fun K hK => ?_)
 refine R_lit_step k83 _ 83 ?hg (N := 7) ?hd (xs := ([] : List (S83))) (inner := []) (ok := fun _ => True) (okp := fun _ => True) ?hr ?hp (fun _ hk => hk) trivial (Below.refl _ _) (Nat.le_refl _) (by simp) ?_; (case hd => rfl); (case hg => rfl); (case hr => first | (go_simp; done) | (go_simp; rfl)); (case hp => exact (Reps.none _ _))
 intro v216 w6 ho7 hb hg_ hnew_
 clear hg_ hnew_
 (first | rw [<- Ny215.1] at ho7 | (simp only [Int.reduceToNat] at ho7; rw [<- Ny215.1] at ho7))
 refine E4 (R_lower ho7 (bZ HB.1)) (bB BK213.1 hb) (bB BK214.1 hb) (bS HB.1 hb) ?_
 clear BK213 BK214 HB
 intro HO217 BK213 BK214 HB
 clear hb ho7
 refine hK.out _ _ ⟨(blk_cell BK213.1 0).trans rfl, (blk_cell BK213.1 1).trans rfl, (blk_cell BK213.1 2).trans rfl⟩ (fun hHeld => ?_)
 clear hK K
 refine norm_ (a' := ?_) ?_ ?_
 rotate_left
 · show Act.put _ (some 7) _ = _
   simp only [Act.put, List.setIfInBounds_toArray, List.set_cons_zero, List.set_cons_succ, i64_w, i32_w]
   rfl
 refine one_ (i := 7) (N := some 10) #[Yy,Yy,Yy,Yy,Yy,Yy,Yy,Yy,Zz,Zz] rfl rfl (one_of HT_.1 (by kernel_rfl)) (by decide) (fun K hK => ?_)
 refine R_append_rows_step k83 (w0 := w) w.heap.size (by rfl) (.tmp 7) (.tmp 9) 28 83 (.agg #[(.int .i64 0), (.int .i64 0)]) 16 rfl Try.underlying28 info83 rfl (by decide) (by omega) v216 y215 l0_2 _ _ _ (fun _ => True) (fun _ => False) rfl rfl ?aO ?aR (fun _ _ h => h) (fun _ h => h.elim) ?aF ?aB ?aS ?aL ?_
 (case aR => repeat (first | exact (C_below HR0_2.1 HB.1) | (with_reducible refine C_alloc ?_ _) | (with_reducible refine C_drewN ?_ _) | (with_reducible refine C_drew ?_)))
 (case aB => exact (BL HB.1))
 (case aF => exact (fun _ _ => trivial))
 (case aO => exact (PR HO217.1))
 (case aS => exact (bZ HB.1))
 (case aL => have := LMc2.1; omega)
 intro v219 w8 ho hb hg hat
 rw [<- Ny218.1] at ho
 refine E4 (bG BK213.1 hg (R_ne HO217.1 BK213.1 (by decide))) (bG BK214.1 hg (R_ne HO217.1 BK214.1 (by decide))) (hb) (ho) ?_
 clear BK213 BK214 HB HO217
 intro BK213 BK214 HB HO220
 clear ho hb hg hat
 obtain ⟨Ao9, co9, eo9⟩ := R_slice HO220.1
 (first | subst eo9 | (injection eo9 with f1_ f2_ f3_; have f4_ := f1_.symm; have f5_ := f3_.symm; clear f1_ f2_ f3_; subst f4_; subst f5_))
 refine hK.out _ _ ⟨(blk_cell BK213.1 0).trans rfl, (blk_cell BK213.1 1).trans rfl, (blk_cell BK213.1 2).trans rfl⟩ (fun hHeld => ?_)
 clear hK K
 refine norm_ (a' := ?_) ?_ ?_
 rotate_left
 · show Act.put _ (some 10) _ = _
   simp only [Act.put, List.setIfInBounds_toArray, List.set_cons_zero, List.set_cons_succ, i64_w, i32_w]
   rfl
 refine pureF 8 (N := some 11) HT_.1 ?_
 refine one_ (i := 9) (N := none) #[Yy,Yy,Yy,Yy,Yy,Yy,Yy,Yy,Yy,Yy] rfl rfl (one_of HT_.1 (by kernel_rfl)) (by decide) (fun K hK => ?_)
 obtain ⟨hs10, hs11, hs12, hfs10, hfs11, hfs12⟩ := cz3 BK214.1
 have hns10_0 := NB213_214.1
 have hms10_0 := NB214_213.1
 refine skip_ (w1 := ?_) (by rfl) rfl ?_ ?_
 rotate_left
 · go_simp
   rfl
 refine hK.out _ _ ⟨(CF3 NB213_214.1 hHeld.1), (CF3 NB213_214.1 hHeld.2.1), (CF3 NB213_214.1 hHeld.2.2)⟩ (fun hHeld => ?_)
 clear hK K
 refine done_ (done_of HT_.1 (by kernel_rfl)) ?_
 try go_wp2
 refine bodyPost_ret (results_cell_row rfl _ _ gb214 30 #[.int .i64 a0_0, .int .i64 a0_1, .slice Ao9 y218.length co9] (0, 0) _ rfl (PF0 BK214.1) Try.underlying30 rfl (by kernel_rfl)) rfl ?_
 exact ⟨_, RF, by (with_reducible repeat (first | apply R_alloc | apply R_drewN | apply R_drew)); exact R_mono (RQ gb214 2 (RQ gb214 1 (RQ gb214 0 (R_types HO220.1 BK214.1 (by decide)) _) _) _) (fun _ hk => trivial), BL HB.1⟩
def spec_boAt.f (a0_0 : Int) (a0_1 : Int) (l0_2 : List (S83)) (a1 : Int) (a2 : Int) : Option (Int × Int) := if 0 <= (wrap64 ((wrap64 (a1 * a0_1)) + a2)) then (if (wrap64 ((wrap64 (a1 * a0_1)) + a2)) < (l0_2.length : Int) then (some ((rd_T83 l0_2 (wrap64 ((wrap64 (a1 * a0_1)) + a2))).f0, (rd_T83 l0_2 (wrap64 ((wrap64 (a1 * a0_1)) + a2))).f1)) else (none)) else (none)
theorem spec_boAt.calls (a0_0 : Int) (a0_1 : Int) (A0_2 : Option Addr) (c0_2 : Nat) (l0_2 : List (S83)) (a1 : Int) (a2 : Int) (r1 : Int) (r2 : Int) (w : World) (hr0_2 : Kd.C k83 w A0_2 l0_2.length l0_2) (hc0_2 : l0_2.length <= c0_2) (h : spec_boAt.f a0_0 a0_1 l0_2 a1 a2 = some (r1, r2)) :
 Calls Try.prog 95 #[.agg #[.int .i64 a0_0, .int .i64 a0_1, .slice A0_2 l0_2.length c0_2], .int .i64 a1, .int .i64 a2] w fun e w' => e = .returned (.agg #[.int .i64 r1, .int .i64 r2]) /\ Below w.heap.size w w' := by
 have hu30 := Try.underlying30
 have hu83 := Try.underlying83
 have HR0_2 := Aside0.mk hr0_2
 have HC0_2 := Aside0.mk hc0_2
 clear hr0_2 hc0_2
 have HB := Aside0.mk (Below.refl w.heap.size w)
 have H := h
 clear h
 unfold spec_boAt.f at H
 obtain ⟨ji4, hji4⟩ : ∃ j_ : Int, (wrap64 ((wrap64 (a1 * a0_1)) + a2)) = j_ := ⟨_, rfl⟩
 replace H : (if 0 <= (ji4) then (if (ji4) < (l0_2.length : Int) then (some ((rd_T83 l0_2 (ji4)).f0, (rd_T83 l0_2 (ji4)).f1)) else (none)) else (none)) = some (r1, r2) := by first | (rw [hji4] at H; exact H) | (simp only [hji4] at H ⊢; exact H)
 have hji4w : (IntKind.i64.wrap ((wrap64 (a1 * a0_1)) + a2)) = ji4 := (i64_w _).trans hji4
 replace H := ifN H; obtain ⟨c5b0, H⟩ := H
 replace H := ifN H; obtain ⟨c6b0, H⟩ := H
 simp only [Option.some.injEq, Prod.mk.injEq] at H
 obtain ⟨rfl, rfl⟩ := H
 go_enter Try.func95, Try.ntmps95
 go_wp2_with (first | ((with_reducible refine gate_dst (N := 3) rfl ?_); refine boxE (cs := #[.int .i64 a0_0, .int .i64 a0_1, .slice A0_2 l0_2.length c0_2]) (t := 30) ?_; intro gb221 hg w7 hbox hb; refine E4b HB.1 hg hbox hb ?_; clear HB; intro HB BK221 GW221 GE221; clear hb hbox hg) | ((with_reducible refine gate_dst (N := 6) rfl ?_); refine boxE (cs := #[.int .i64 0, .int .i64 0]) (t := 83) ?_; intro gb222 hg w8 hbox hb; refine E7 (bB BK221.1 hb) (bS HB.1 hb) (hbox) (gX HB.1 hg) (gX HB.1 hg) (nB BK221.1 hg) (nC BK221.1 hg) ?_; clear BK221 HB; intro BK221 HB BK222 GW222 GE222 NB221_222 NB222_221; clear hb hbox hg; have hnb9 := NB221_222.1; have hnc9 := NB222_221.1; obtain ⟨hcz10_0, hcz10_1, hcz10_2, hfz10_0, hfz10_1, hfz10_2⟩ := cz3 BK221.1; have p223 : 0 <= ((ji4) : Int) := OD; have q223 : (ji4) < (l0_2.length : Int) := OD; obtain ⟨ad223, e223, hx223_0, hx223_1⟩ := at_T83 HR0_2.1 (ji4) p223 q223; cases e223; replace hx223_0 := (HB.1.cell (World.block_lt_of_cell? w _ hx223_0)).trans hx223_0; replace hx223_1 := (HB.1.cell (World.block_lt_of_cell? w _ hx223_1)).trans hx223_1; replace p223 := eq_true p223; replace q223 := eq_true q223; obtain ⟨hcz11_0, hcz11_1, hfz11_0, hfz11_1⟩ := cz2 BK222.1))
 refine bodyPost_ret (results_cell_row rfl _ _ gb222 83 #[.int .i64 ((rd_T83 l0_2 (ji4)).f0), .int .i64 ((rd_T83 l0_2 (ji4)).f1)] (0, 0) _ rfl (PF0 BK222.1) Try.underlying83 rfl (by kernel_rfl)) rfl ?_
 exact ⟨by first | rfl | (simp [errW_none, errW_some] <;> rfl) | (simp only [<- hji4]; first | rfl | (simp [errW_none, errW_some] <;> rfl)) | (simp [*, errW_none, errW_some] <;> rfl), BL HB.1⟩
end Go.Proofs.Ytbpfdbjnnlmdjaa.P
