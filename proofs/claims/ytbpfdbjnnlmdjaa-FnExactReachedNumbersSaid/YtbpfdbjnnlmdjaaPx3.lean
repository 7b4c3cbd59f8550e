import Derived.Test.YtbpfdbjnnlmdjaaPx0
import Derived.Test.YtbpfdbjnnlmdjaaPx1
import Derived.Test.YtbpfdbjnnlmdjaaPx2
import Derived.Test.YtbpfdbjnnlmdjaaMapW
namespace Go.Proofs.Ytbpfdbjnnlmdjaa.P
open Go.RowKit Go.Proofs.YtbpfdbjnnlmdjaaW.PrintWords Go.Proofs.YtbpfdbjnnlmdjaaW.PrintLast Go.Proofs.YtbpfdbjnnlmdjaaW.PrintMore
attribute [local go_sem] max2_int min2_int max_two min_two max_three min_three max_four min_four
set_option linter.unusedVariables false
set_option linter.unusedSimpArgs false
set_option maxHeartbeats 8000000
set_option maxRecDepth 100000
open Kd
def spec_saWith.l0 : Nat -> List Int -> List (List Int) -> Int -> Int -> Int -> Int -> List (S83) -> Int -> Int -> List (S83) -> Option (Int × Int × (List (S83)))
 | 0, _, _, _, _, _, _, _, _, _, _ => none
 | k + 1, x1, x11, x12, x13, x287000, x287001, x287002, x294000, x294001, x294002 => if x13 < x12 then (if 0 <= x13 then (if x13 < (x11.length : Int) then (if 0 < ((rd_L3 x11 x13).length : Int) then (if 0 <= (rd (rd_L3 x11 x13) 0) then (if (rd (rd_L3 x11 x13) 0) < (x287002.length : Int) then (if x13 < (x1.length : Int) then (if ((rd_T83 x287002 (rd (rd_L3 x11 x13) 0)).f1) = (rd x1 x13) then (spec_saWith.l0 k x1 x11 x12 (wrap64 (x13 + 1)) x287000 x287001 x287002 x294000 x294001 x294002) else ((spec_saTurn.f k x294000 x294001 x294002 (rd_L3 x11 x13)).bind fun t301 => (spec_saWith.l0 k x1 x11 x12 (wrap64 (x13 + 1)) x287000 x287001 x287002 x294000 x294001 t301))) else (none)) else (none)) else (none)) else (none)) else (none)) else (none)) else (some (x294000, x294001, x294002))
def spec_saWith.f (k : Nat) (a0_0 : Int) (a0_1 : Int) (l0_2 : List (S83)) (l1 : List Int) : Option (Int × Int × (List (S83))) := (spec_boOwn.f a0_0 a0_1 l0_2).bind fun bt288 => ((spec_saUnits.f k a0_0 a0_1 l0_2).bind fun t294 => (spec_saWith.l0 k l1 t294 (t294.length : Int) 0 a0_0 a0_1 l0_2 bt288.1 bt288.2.1 bt288.2.2))
theorem spec_saWith.mono_l : ∀ k, (∀ y0 y1 y2 y3 y4 y5 y6 y7 y8 y9, LeO (spec_saWith.l0 k y0 y1 y2 y3 y4 y5 y6 y7 y8 y9) (spec_saWith.l0 (k + 1) y0 y1 y2 y3 y4 y5 y6 y7 y8 y9))
 | 0 => fun _ _ _ _ _ _ _ _ _ _ r h => by simp [spec_saWith.l0] at h
 | k + 1 => by
  have ih0 := spec_saWith.mono_l k
  intros
  first | unfold spec_saWith.l0
  exact LM3 ih0 spec_saTurn.mono spec_saUnits.mono
theorem spec_saWith.mono : ∀ a0 a1 a2 a3 k, LeO (spec_saWith.f k a0 a1 a2 a3) (spec_saWith.f (k + 1) a0 a1 a2 a3) := by
 intro a0 a1 a2 a3 k
 have ih0 := spec_saWith.mono_l k
 unfold spec_saWith.f
 exact LM3 ih0 spec_saTurn.mono spec_saUnits.mono
theorem spec_saWith.calls (k : Nat) (a0_0 : Int) (a0_1 : Int) (A0_2 : Option Addr) (c0_2 : Nat) (l0_2 : List (S83)) (A1 : Option Addr) (c1 : Nat) (l1 : List Int) (r1 : Int) (r2 : Int) (r3 : List (S83)) (w : World) (hr0_2 : Kd.C k83 w A0_2 l0_2.length l0_2) (hc0_2 : l0_2.length <= c0_2) (hr1 : Kd.C (Kd.int .i64) w A1 l1.length l1) (hc1 : l1.length <= c1) (h : spec_saWith.f k a0_0 a0_1 l0_2 l1 = some (r1, r2, r3)) :
 Calls Try.prog 85 #[.agg #[.int .i64 a0_0, .int .i64 a0_1, .slice A0_2 l0_2.length c0_2], .slice A1 l1.length c1] w fun e w' => ∃ v2_ : Value, e = .returned (.agg #[.int .i64 r1, .int .i64 r2, v2_]) /\ Kd.R k83 83 w' w.heap.size (fun _ => True) v2_ r3 /\ Below w.heap.size w w' := by
 have hu30 := Try.underlying30
 have HR0_2 := Aside0.mk hr0_2
 have HC0_2 := Aside0.mk hc0_2
 clear hr0_2 hc0_2
 have HR1 := Aside0.mk hr1
 have HC1 := Aside0.mk hc1
 clear hr1 hc1
 have HB := Aside0.mk (Below.refl w.heap.size w)
 have H := h
 clear h
 unfold spec_saWith.f at H
 replace H := bindA H; obtain ⟨⟨t288, t289, t290⟩, A3, H⟩ := H
 dsimp only at H
 replace H := bindA H; obtain ⟨t294, A4, H⟩ := H
 have H' := Aside0.mk H
 clear H
 go_enter Try.func85, Try.ntmps85
 go_wp2_with (first | ((with_reducible refine gate_dst (N := 2) rfl ?_); refine boxE (cs := #[.int .i64 a0_0, .int .i64 a0_1, .slice A0_2 l0_2.length c0_2]) (t := 30) ?_; intro gb286 hg w5 hbox hb; refine E4b HB.1 hg hbox hb ?_; clear HB; intro HB BK286 GW286 GE286; clear hb hbox hg) | ((with_reducible refine gate_dst (N := 4) rfl ?_); refine boxE (cs := #[.int .i64 0, .int .i64 0, .slice none 0 0]) (t := 30) ?_; intro gb287 hg w6 hbox hb; refine E7 (bB BK286.1 hb) (bS HB.1 hb) (hbox) (gX HB.1 hg) (gX HB.1 hg) (nB BK286.1 hg) (nC BK286.1 hg) ?_; clear BK286 HB; intro BK286 HB BK287 GW287 GE287 NB286_287 NB287_286; clear hb hbox hg; have hnb7 := NB286_287.1; have hnc7 := NB287_286.1; obtain ⟨hcz8_0, hcz8_1, hcz8_2, hfz8_0, hfz8_1, hfz8_2⟩ := cz3 BK286.1) | (go_at_call 94; (with_reducible refine (spec_boOwn.calls a0_0 a0_1 _ _ l0_2 t288 t289 t290 _ ?side1 ?side2 A3.1).mono ?_); (case side1 => exact CB (C_below HR0_2.1 HB.1)); (case side2 => exact HC0_2.1); rintro e w9 ⟨v291, rfl, ho0, hb⟩; refine E4 (R_lower ho0 (bZ HB.1)) (bB BK286.1 hb) (bB BK287.1 hb) (bS HB.1 hb) ?_; clear BK286 BK287 HB; intro HO292 BK286 BK287 HB; (try clear hb); (try clear ho0)) | ((with_reducible refine gate_dst (N := 5) rfl ?_); refine boxE (cs := #[.int .i64 0, .int .i64 0, .slice none 0 0]) (t := 30) ?_; intro gb293 hg w10 hbox hb; refine E11 (rB HO292.1 hb) (bB BK286.1 hb) (bB BK287.1 hb) (bS HB.1 hb) (hbox) (gX HB.1 hg) (gX HB.1 hg) (nB BK286.1 hg) (nC BK286.1 hg) (nB BK287.1 hg) (nC BK287.1 hg) ?_; clear HO292 BK286 BK287 HB; intro HO292 BK286 BK287 HB BK293 GW293 GE293 NB286_293 NB293_286 NB287_293 NB293_287; clear hb hbox hg; have hnb11 := NB293_286.1; have hnc11 := NB286_293.1; have hnb12 := NB293_287.1; have hnc12 := NB287_293.1; obtain ⟨hcz13_0, hcz13_1, hcz13_2, hfz13_0, hfz13_1, hfz13_2⟩ := cz3 BK293.1; obtain ⟨Ao14, co14, eo14⟩ := R_slice HO292.1; subst eo14; obtain ⟨hcz15_0, hcz15_1, hcz15_2, hfz15_0, hfz15_1, hfz15_2⟩ := cz3 BK286.1) | (go_at_call 52; (with_reducible refine (spec_saUnits.calls k a0_0 a0_1 _ _ l0_2 t294 _ ?side1 ?side2 A4.1).mono ?_); (case side1 => exact C_below HR0_2.1 (BL HB.1)); (case side2 => exact HC0_2.1); rintro e w16 ⟨v295, rfl, ho0, hb⟩; refine E6 (R_below (by (with_reducible repeat (first | apply R_alloc | apply R_drewN | apply R_drew)); exact (R_mono (RQ gb293 2 (RQ gb293 1 (RQ gb293 0 (R_types HO292.1 BK293.1 (by decide)) _) _) _) (fun _ h_ => h_.1))) hb) (S_lower ho0 (bZ HB.1)) (blk_below (g := gb286) (o := .cells #[.int .i64 a0_0, .int .i64 a0_1, .slice A0_2 l0_2.length c0_2] 30 (0, 0)) (PF1 NB286_293.1 BK286.1) hb) (blk_below (g := gb287) (o := .cells #[.int .i64 0, .int .i64 0, .slice none 0 0] 30 (0, 0)) (PF1 NB287_293.1 BK287.1) hb) (blk_below (g := gb293) (o := .cells #[.int .i64 t288, .int .i64 t289, .slice Ao14 t290.length co14] 30 (0, 0)) (PF0 BK293.1) hb) (bS HB.1 hb) ?_; clear HO292 BK286 BK287 BK293 HB; intro HO292 HO296 BK286 BK287 BK293 HB; (try clear hb); (try clear ho0); obtain ⟨Ao17, co17, eo17⟩ := S_slice HO296.1; subst eo17))
 repeat (go_quiet (first | ((with_reducible refine gate_dst (N := 2) rfl ?_); refine boxE (cs := #[.int .i64 a0_0, .int .i64 a0_1, .slice A0_2 l0_2.length c0_2]) (t := 30) ?_; intro gb286 hg w5 hbox hb; refine E4b HB.1 hg hbox hb ?_; clear HB; intro HB BK286 GW286 GE286; clear hb hbox hg) | ((with_reducible refine gate_dst (N := 4) rfl ?_); refine boxE (cs := #[.int .i64 0, .int .i64 0, .slice none 0 0]) (t := 30) ?_; intro gb287 hg w6 hbox hb; refine E7 (bB BK286.1 hb) (bS HB.1 hb) (hbox) (gX HB.1 hg) (gX HB.1 hg) (nB BK286.1 hg) (nC BK286.1 hg) ?_; clear BK286 HB; intro BK286 HB BK287 GW287 GE287 NB286_287 NB287_286; clear hb hbox hg; have hnb7 := NB286_287.1; have hnc7 := NB287_286.1; obtain ⟨hcz8_0, hcz8_1, hcz8_2, hfz8_0, hfz8_1, hfz8_2⟩ := cz3 BK286.1) | (go_at_call 94; (with_reducible refine (spec_boOwn.calls a0_0 a0_1 _ _ l0_2 t288 t289 t290 _ ?side1 ?side2 A3.1).mono ?_); (case side1 => exact CB (C_below HR0_2.1 HB.1)); (case side2 => exact HC0_2.1); rintro e w9 ⟨v291, rfl, ho0, hb⟩; refine E4 (R_lower ho0 (bZ HB.1)) (bB BK286.1 hb) (bB BK287.1 hb) (bS HB.1 hb) ?_; clear BK286 BK287 HB; intro HO292 BK286 BK287 HB; (try clear hb); (try clear ho0)) | ((with_reducible refine gate_dst (N := 5) rfl ?_); refine boxE (cs := #[.int .i64 0, .int .i64 0, .slice none 0 0]) (t := 30) ?_; intro gb293 hg w10 hbox hb; refine E11 (rB HO292.1 hb) (bB BK286.1 hb) (bB BK287.1 hb) (bS HB.1 hb) (hbox) (gX HB.1 hg) (gX HB.1 hg) (nB BK286.1 hg) (nC BK286.1 hg) (nB BK287.1 hg) (nC BK287.1 hg) ?_; clear HO292 BK286 BK287 HB; intro HO292 BK286 BK287 HB BK293 GW293 GE293 NB286_293 NB293_286 NB287_293 NB293_287; clear hb hbox hg; have hnb11 := NB293_286.1; have hnc11 := NB286_293.1; have hnb12 := NB293_287.1; have hnc12 := NB287_293.1; obtain ⟨hcz13_0, hcz13_1, hcz13_2, hfz13_0, hfz13_1, hfz13_2⟩ := cz3 BK293.1; obtain ⟨Ao14, co14, eo14⟩ := R_slice HO292.1; subst eo14; obtain ⟨hcz15_0, hcz15_1, hcz15_2, hfz15_0, hfz15_1, hfz15_2⟩ := cz3 BK286.1) | (go_at_call 52; (with_reducible refine (spec_saUnits.calls k a0_0 a0_1 _ _ l0_2 t294 _ ?side1 ?side2 A4.1).mono ?_); (case side1 => exact C_below HR0_2.1 (BL HB.1)); (case side2 => exact HC0_2.1); rintro e w16 ⟨v295, rfl, ho0, hb⟩; refine E6 (R_below (by (with_reducible repeat (first | apply R_alloc | apply R_drewN | apply R_drew)); exact (R_mono (RQ gb293 2 (RQ gb293 1 (RQ gb293 0 (R_types HO292.1 BK293.1 (by decide)) _) _) _) (fun _ h_ => h_.1))) hb) (S_lower ho0 (bZ HB.1)) (blk_below (g := gb286) (o := .cells #[.int .i64 a0_0, .int .i64 a0_1, .slice A0_2 l0_2.length c0_2] 30 (0, 0)) (PF1 NB286_293.1 BK286.1) hb) (blk_below (g := gb287) (o := .cells #[.int .i64 0, .int .i64 0, .slice none 0 0] 30 (0, 0)) (PF1 NB287_293.1 BK287.1) hb) (blk_below (g := gb293) (o := .cells #[.int .i64 t288, .int .i64 t289, .slice Ao14 t290.length co14] 30 (0, 0)) (PF0 BK293.1) hb) (bS HB.1 hb) ?_; clear HO292 BK286 BK287 BK293 HB; intro HO292 HO296 BK286 BK287 BK293 HB; (try clear hb); (try clear ho0); obtain ⟨Ao17, co17, eo17⟩ := S_slice HO296.1; subst eo17)); try go_wp2_with (first | ((with_reducible refine gate_dst (N := 2) rfl ?_); refine boxE (cs := #[.int .i64 a0_0, .int .i64 a0_1, .slice A0_2 l0_2.length c0_2]) (t := 30) ?_; intro gb286 hg w5 hbox hb; refine E4b HB.1 hg hbox hb ?_; clear HB; intro HB BK286 GW286 GE286; clear hb hbox hg) | ((with_reducible refine gate_dst (N := 4) rfl ?_); refine boxE (cs := #[.int .i64 0, .int .i64 0, .slice none 0 0]) (t := 30) ?_; intro gb287 hg w6 hbox hb; refine E7 (bB BK286.1 hb) (bS HB.1 hb) (hbox) (gX HB.1 hg) (gX HB.1 hg) (nB BK286.1 hg) (nC BK286.1 hg) ?_; clear BK286 HB; intro BK286 HB BK287 GW287 GE287 NB286_287 NB287_286; clear hb hbox hg; have hnb7 := NB286_287.1; have hnc7 := NB287_286.1; obtain ⟨hcz8_0, hcz8_1, hcz8_2, hfz8_0, hfz8_1, hfz8_2⟩ := cz3 BK286.1) | (go_at_call 94; (with_reducible refine (spec_boOwn.calls a0_0 a0_1 _ _ l0_2 t288 t289 t290 _ ?side1 ?side2 A3.1).mono ?_); (case side1 => exact CB (C_below HR0_2.1 HB.1)); (case side2 => exact HC0_2.1); rintro e w9 ⟨v291, rfl, ho0, hb⟩; refine E4 (R_lower ho0 (bZ HB.1)) (bB BK286.1 hb) (bB BK287.1 hb) (bS HB.1 hb) ?_; clear BK286 BK287 HB; intro HO292 BK286 BK287 HB; (try clear hb); (try clear ho0)) | ((with_reducible refine gate_dst (N := 5) rfl ?_); refine boxE (cs := #[.int .i64 0, .int .i64 0, .slice none 0 0]) (t := 30) ?_; intro gb293 hg w10 hbox hb; refine E11 (rB HO292.1 hb) (bB BK286.1 hb) (bB BK287.1 hb) (bS HB.1 hb) (hbox) (gX HB.1 hg) (gX HB.1 hg) (nB BK286.1 hg) (nC BK286.1 hg) (nB BK287.1 hg) (nC BK287.1 hg) ?_; clear HO292 BK286 BK287 HB; intro HO292 BK286 BK287 HB BK293 GW293 GE293 NB286_293 NB293_286 NB287_293 NB293_287; clear hb hbox hg; have hnb11 := NB293_286.1; have hnc11 := NB286_293.1; have hnb12 := NB293_287.1; have hnc12 := NB287_293.1; obtain ⟨hcz13_0, hcz13_1, hcz13_2, hfz13_0, hfz13_1, hfz13_2⟩ := cz3 BK293.1; obtain ⟨Ao14, co14, eo14⟩ := R_slice HO292.1; subst eo14; obtain ⟨hcz15_0, hcz15_1, hcz15_2, hfz15_0, hfz15_1, hfz15_2⟩ := cz3 BK286.1) | (go_at_call 52; (with_reducible refine (spec_saUnits.calls k a0_0 a0_1 _ _ l0_2 t294 _ ?side1 ?side2 A4.1).mono ?_); (case side1 => exact C_below HR0_2.1 (BL HB.1)); (case side2 => exact HC0_2.1); rintro e w16 ⟨v295, rfl, ho0, hb⟩; refine E6 (R_below (by (with_reducible repeat (first | apply R_alloc | apply R_drewN | apply R_drew)); exact (R_mono (RQ gb293 2 (RQ gb293 1 (RQ gb293 0 (R_types HO292.1 BK293.1 (by decide)) _) _) _) (fun _ h_ => h_.1))) hb) (S_lower ho0 (bZ HB.1)) (blk_below (g := gb286) (o := .cells #[.int .i64 a0_0, .int .i64 a0_1, .slice A0_2 l0_2.length c0_2] 30 (0, 0)) (PF1 NB286_293.1 BK286.1) hb) (blk_below (g := gb287) (o := .cells #[.int .i64 0, .int .i64 0, .slice none 0 0] 30 (0, 0)) (PF1 NB287_293.1 BK287.1) hb) (blk_below (g := gb293) (o := .cells #[.int .i64 t288, .int .i64 t289, .slice Ao14 t290.length co14] 30 (0, 0)) (PF0 BK293.1) hb) (bS HB.1 hb) ?_; clear HO292 BK286 BK287 BK293 HB; intro HO292 HO296 BK286 BK287 BK293 HB; (try clear hb); (try clear ho0); obtain ⟨Ao17, co17, eo17⟩ := S_slice HO296.1; subst eo17)))
 go_loopg [13] k (fun kq v13 w' => ∃ (x13_1 : Int) (x294002_1 : List (S83)) (u294002 : Value), v13 = .int .i64 x13_1 /\ Aside0 (spec_saWith.l0 kq l1 t294 (t294.length : Int) x13_1 a0_0 a0_1 l0_2 t288 t289 x294002_1 = some (r1, r2, r3)) /\ Aside0 (kq <= k) /\ Aside0 (Kd.S (Kd.slice 3 (Kd.int .i64)) 38 w' w.heap.size (fun _ => True) (.slice Ao17 t294.length co17) t294) /\ Aside0 (Kd.R k83 83 w' w.heap.size (fun _ => True) u294002 x294002_1) /\ Aside0 (w'.heap[gb286]? = some (.cells #[.int .i64 a0_0, .int .i64 a0_1, (.slice A0_2 l0_2.length c0_2)] 30 (0, 0))) /\ Aside0 (w'.heap[gb287]? = some (.cells #[.int .i64 0, .int .i64 0, (.slice none 0 0)] 30 (0, 0))) /\ Aside0 (w'.heap[gb293]? = some (.cells #[.int .i64 t288, .int .i64 t289, u294002] 30 (0, 0))) /\ Aside0 (Below w.heap.size w w'))
 case atStart => exact ⟨(0), (t290), (.slice Ao14 t290.length co14), RG, H', ⟨Nat.le_refl _⟩, ⟨PS HO296.1⟩, ⟨PR HO292.1⟩, ⟨PB BK286.1⟩, ⟨PB BK287.1⟩, ⟨PB BK293.1⟩, ⟨BL HB.1⟩⟩
 clear H'
 try clear c1; clear hcz13_0 hcz13_1 hcz13_2 hcz15_0 hcz15_1 hcz15_2 hcz8_0 hcz8_1 hcz8_2 hfz13_0 hfz13_1 hfz13_2 hfz15_0 hfz15_1 hfz15_2 hfz8_0 hfz8_1 hfz8_2
 obtain ⟨x13_1, x294002_1, u294002, rfl, HA, HK1, HO_11, HO_294002, BK286, BK287, BK293, HB⟩ := hrel
 cases gk with
 | zero => exact absurd HA.1 (by simp [spec_saWith.l0])
 | succ k1 => ?_
 have H := HA.1
 clear HA
 simp only [spec_saWith.l0] at H
 replace H := ifB H; rcases H with ⟨c18b0, H⟩ | ⟨c18b0, H⟩
 · replace H := ifN H; obtain ⟨c19b0, H⟩ := H
   replace H := ifN H; obtain ⟨c20b0, H⟩ := H
   replace H := ifP H; obtain ⟨c21, H⟩ := H
   have c21b0 := decide_eq_true c21
   have c21b1 : decide (0 < (rd_L3 t294 x13_1).length) = true := decide_eq_true (by omega)
   clear c21
   replace H := ifN H; obtain ⟨c22b0, H⟩ := H
   replace H := ifN H; obtain ⟨c23b0, H⟩ := H
   replace H := ifN H; obtain ⟨c24b0, H⟩ := H
   replace H := ifQ H; rcases H with ⟨c25, H⟩ | ⟨c25, H⟩
   · have c25b0 := beq_iff_eq.mpr c25
     have c25b1 := bne_eq_false_iff_eq.mpr c25
     clear c25
     have H' := Aside0.mk H
     clear H
     have p297 : 0 <= (x13_1 : Int) := OD
     have q297 : x13_1 < (t294.length : Int) := OD
     obtain ⟨ad297, A297_0, c297_0, e297, hx297_0, hl297_0, hi297_0⟩ := at_L3 (S_reads' HO_11.1).2.2 x13_1 p297 q297
     cases e297
     obtain ⟨ce297, hce297, hMe297, hcc297⟩ := S_get HO_11.1 [] x13_1 p297 (by first | exact q297 | exact OD | (have e_ := (S_reads' HO_11.1).1; omega))
     obtain ⟨ve297_0, rfl, ge297_0⟩ := hMe297
     have hv297_0 := hcc297 0 _ rfl
     rw [Nat.add_zero, show ((Kd.slice 3 (Kd.int .i64))).sz = 1 from rfl, Nat.mul_one] at hv297_0
     replace hv297_0 := Option.some.inj (hv297_0.symm.trans hx297_0)
     rw [hv297_0] at ge297_0
     have HL297_0 := Aside0.mk (show Kd.R (Kd.int .i64) 3 _ _ _ _ (rd_L3 t294 x13_1) from ge297_0)
     clear hv297_0 ge297_0
     clear hcc297 hce297
     have HR297_0 := Aside0.mk hi297_0
     have HC297_0 := Aside0.mk hl297_0
     clear hi297_0 hl297_0
     replace p297 := eq_true p297
     replace q297 := eq_true q297
     obtain ⟨hcz28_0, hcz28_1, hcz28_2, hfz28_0, hfz28_1, hfz28_2⟩ := cz3 BK286.1
     have p298 : 0 <= (0 : Int) := (by omega)
     have q298 : 0 < ((rd_L3 t294 x13_1).length : Int) := OD
     obtain ⟨ad298, e298, hx298_0⟩ := Kd.at_int (by repeat (first | (with_reducible exact HR297_0.1) | (with_reducible refine C_alloc ?_ _) | (with_reducible refine C_drewN ?_ _) | (with_reducible refine C_drew ?_) | exact HR297_0.1)) 0 p298 q298
     cases e298
     have qi298 : (0 < (rd_L3 t294 x13_1).length) = True := eq_true (by omega)
     (try rw [show ((0 : Int)).toNat = 0 from rfl] at hx298_0)
     (try rw [Addr.add_zero'] at hx298_0)
     replace p298 := eq_true p298
     replace q298 := eq_true q298
     have p299 : 0 <= ((rd (rd_L3 t294 x13_1) 0) : Int) := OD
     have q299 : (rd (rd_L3 t294 x13_1) 0) < (l0_2.length : Int) := OD
     obtain ⟨ad299, e299, hx299_0, hx299_1⟩ := at_T83 HR0_2.1 (rd (rd_L3 t294 x13_1) 0) p299 q299
     cases e299
     replace hx299_0 := (HB.1.cell (World.block_lt_of_cell? w _ hx299_0)).trans hx299_0
     replace hx299_1 := (HB.1.cell (World.block_lt_of_cell? w _ hx299_1)).trans hx299_1
     replace p299 := eq_true p299
     replace q299 := eq_true q299
     have p300 : 0 <= (x13_1 : Int) := OD
     have q300 : x13_1 < (l1.length : Int) := OD
     obtain ⟨ad300, e300, hx300_0⟩ := Kd.at_int HR1.1 x13_1 p300 q300
     cases e300
     replace hx300_0 := (HB.1.cell (World.block_lt_of_cell? w _ hx300_0)).trans hx300_0
     replace p300 := eq_true p300
     replace q300 := eq_true q300
     go_wp2
     repeat (go_quiet (fail); try go_wp2)
     go_roundg k1
     case measure => have := HK1.1; omega
     case rel => exact ⟨(wrap64 (x13_1 + 1)), (x294002_1), (u294002), RG, H', ⟨by have := HK1.1; omega⟩, ⟨PS HO_11.1⟩, ⟨PR HO_294002.1⟩, ⟨PB BK286.1⟩, ⟨PB BK287.1⟩, ⟨PB BK293.1⟩, ⟨BL HB.1⟩⟩
   have c25b0 := beq_eq_false_iff_ne.mpr c25
   have c25b1 := bne_iff_ne.mpr c25
   replace H := bindA H; obtain ⟨t301, A29, H⟩ := H
   have H' := Aside0.mk H
   clear H
   have p297 : 0 <= (x13_1 : Int) := OD
   have q297 : x13_1 < (t294.length : Int) := OD
   obtain ⟨ad297, A297_0, c297_0, e297, hx297_0, hl297_0, hi297_0⟩ := at_L3 (S_reads' HO_11.1).2.2 x13_1 p297 q297
   cases e297
   obtain ⟨ce297, hce297, hMe297, hcc297⟩ := S_get HO_11.1 [] x13_1 p297 (by first | exact q297 | exact OD | (have e_ := (S_reads' HO_11.1).1; omega))
   obtain ⟨ve297_0, rfl, ge297_0⟩ := hMe297
   have hv297_0 := hcc297 0 _ rfl
   rw [Nat.add_zero, show ((Kd.slice 3 (Kd.int .i64))).sz = 1 from rfl, Nat.mul_one] at hv297_0
   replace hv297_0 := Option.some.inj (hv297_0.symm.trans hx297_0)
   rw [hv297_0] at ge297_0
   have HL297_0 := Aside0.mk (show Kd.R (Kd.int .i64) 3 _ _ _ _ (rd_L3 t294 x13_1) from ge297_0)
   clear hv297_0 ge297_0
   clear hcc297 hce297
   have HR297_0 := Aside0.mk hi297_0
   have HC297_0 := Aside0.mk hl297_0
   clear hi297_0 hl297_0
   replace p297 := eq_true p297
   replace q297 := eq_true q297
   obtain ⟨hcz32_0, hcz32_1, hcz32_2, hfz32_0, hfz32_1, hfz32_2⟩ := cz3 BK286.1
   have p298 : 0 <= (0 : Int) := (by omega)
   have q298 : 0 < ((rd_L3 t294 x13_1).length : Int) := OD
   obtain ⟨ad298, e298, hx298_0⟩ := Kd.at_int (by repeat (first | (with_reducible exact HR297_0.1) | (with_reducible refine C_alloc ?_ _) | (with_reducible refine C_drewN ?_ _) | (with_reducible refine C_drew ?_) | exact HR297_0.1)) 0 p298 q298
   cases e298
   have qi298 : (0 < (rd_L3 t294 x13_1).length) = True := eq_true (by omega)
   (try rw [show ((0 : Int)).toNat = 0 from rfl] at hx298_0)
   (try rw [Addr.add_zero'] at hx298_0)
   replace p298 := eq_true p298
   replace q298 := eq_true q298
   have p299 : 0 <= ((rd (rd_L3 t294 x13_1) 0) : Int) := OD
   have q299 : (rd (rd_L3 t294 x13_1) 0) < (l0_2.length : Int) := OD
   obtain ⟨ad299, e299, hx299_0, hx299_1⟩ := at_T83 HR0_2.1 (rd (rd_L3 t294 x13_1) 0) p299 q299
   cases e299
   replace hx299_0 := (HB.1.cell (World.block_lt_of_cell? w _ hx299_0)).trans hx299_0
   replace hx299_1 := (HB.1.cell (World.block_lt_of_cell? w _ hx299_1)).trans hx299_1
   replace p299 := eq_true p299
   replace q299 := eq_true q299
   have p300 : 0 <= (x13_1 : Int) := OD
   have q300 : x13_1 < (l1.length : Int) := OD
   obtain ⟨ad300, e300, hx300_0⟩ := Kd.at_int HR1.1 x13_1 p300 q300
   cases e300
   replace hx300_0 := (HB.1.cell (World.block_lt_of_cell? w _ hx300_0)).trans hx300_0
   replace p300 := eq_true p300
   replace q300 := eq_true q300
   obtain ⟨hcz34_0, hcz34_1, hcz34_2, hfz34_0, hfz34_1, hfz34_2⟩ := cz3 BK293.1
   obtain ⟨Ao35, co35, eo35⟩ := R_slice HO_294002.1
   subst eo35
   go_wp2_with (first | (go_at_call 98; (with_reducible refine (spec_saTurn.calls k1 t288 t289 (fun k_ => some k_ = (.slice Ao35 x294002_1.length co35 : Value).ownBlock) (.slice Ao35 x294002_1.length co35) x294002_1 _ _ (rd_L3 t294 x13_1) t301 w _ ?side1 ?side2 ?side3 ?side4 A29.1).mono ?_); (case side1 => exact BL HB.1); (case side2 => exact R_tight rfl HO_294002.1); (case side3 => exact C_kept_own ((R_apart' HL297_0.1 (R_typed HO_294002.1) (by decide))) (fun k_ hk_ hs_ => (hk_.2) hs_)); (case side4 => exact HC297_0.1); rintro e w36 ⟨rfl, hy0, hb, hkp⟩; refine E6 (S_mono (ok' := fun k_ => True) (S_keptB ((S_apart' HO_11.1 (R_typed HO_294002.1) (by decide))) hkp (fun k_ hk_ hs_ => (hk_.2) hs_)) (fun k_ hk_ => trivial)) (R_reok rfl hy0 (fun k_ e_ => HO_294002.1.1 k_ e_)) (blk_kept (PB BK286.1) hkp (fun hs_ => (fun e_ => (R_ne HO_294002.1 BK286.1 (by decide)) e_) hs_)) (blk_kept (PB BK287.1) hkp (fun hs_ => (fun e_ => (R_ne HO_294002.1 BK287.1 (by decide)) e_) hs_)) (blk_kept (PB BK293.1) hkp (fun hs_ => (fun e_ => (R_ne HO_294002.1 BK293.1 (by decide)) e_) hs_)) (hb) ?_; clear HO_11 HO_294002 BK286 BK287 BK293 HB HL297_0; intro HO_11 HO_294002 BK286 BK287 BK293 HB; (try clear hb); (try clear hkp); (try clear hy0)))
   repeat (go_quiet (first | (go_at_call 98; (with_reducible refine (spec_saTurn.calls k1 t288 t289 (fun k_ => some k_ = (.slice Ao35 x294002_1.length co35 : Value).ownBlock) (.slice Ao35 x294002_1.length co35) x294002_1 _ _ (rd_L3 t294 x13_1) t301 w _ ?side1 ?side2 ?side3 ?side4 A29.1).mono ?_); (case side1 => exact BL HB.1); (case side2 => exact R_tight rfl HO_294002.1); (case side3 => exact C_kept_own ((R_apart' HL297_0.1 (R_typed HO_294002.1) (by decide))) (fun k_ hk_ hs_ => (hk_.2) hs_)); (case side4 => exact HC297_0.1); rintro e w36 ⟨rfl, hy0, hb, hkp⟩; refine E6 (S_mono (ok' := fun k_ => True) (S_keptB ((S_apart' HO_11.1 (R_typed HO_294002.1) (by decide))) hkp (fun k_ hk_ hs_ => (hk_.2) hs_)) (fun k_ hk_ => trivial)) (R_reok rfl hy0 (fun k_ e_ => HO_294002.1.1 k_ e_)) (blk_kept (PB BK286.1) hkp (fun hs_ => (fun e_ => (R_ne HO_294002.1 BK286.1 (by decide)) e_) hs_)) (blk_kept (PB BK287.1) hkp (fun hs_ => (fun e_ => (R_ne HO_294002.1 BK287.1 (by decide)) e_) hs_)) (blk_kept (PB BK293.1) hkp (fun hs_ => (fun e_ => (R_ne HO_294002.1 BK293.1 (by decide)) e_) hs_)) (hb) ?_; clear HO_11 HO_294002 BK286 BK287 BK293 HB HL297_0; intro HO_11 HO_294002 BK286 BK287 BK293 HB; (try clear hb); (try clear hkp); (try clear hy0))); try go_wp2_with (first | (go_at_call 98; (with_reducible refine (spec_saTurn.calls k1 t288 t289 (fun k_ => some k_ = (.slice Ao35 x294002_1.length co35 : Value).ownBlock) (.slice Ao35 x294002_1.length co35) x294002_1 _ _ (rd_L3 t294 x13_1) t301 w _ ?side1 ?side2 ?side3 ?side4 A29.1).mono ?_); (case side1 => exact BL HB.1); (case side2 => exact R_tight rfl HO_294002.1); (case side3 => exact C_kept_own ((R_apart' HL297_0.1 (R_typed HO_294002.1) (by decide))) (fun k_ hk_ hs_ => (hk_.2) hs_)); (case side4 => exact HC297_0.1); rintro e w36 ⟨rfl, hy0, hb, hkp⟩; refine E6 (S_mono (ok' := fun k_ => True) (S_keptB ((S_apart' HO_11.1 (R_typed HO_294002.1) (by decide))) hkp (fun k_ hk_ hs_ => (hk_.2) hs_)) (fun k_ hk_ => trivial)) (R_reok rfl hy0 (fun k_ e_ => HO_294002.1.1 k_ e_)) (blk_kept (PB BK286.1) hkp (fun hs_ => (fun e_ => (R_ne HO_294002.1 BK286.1 (by decide)) e_) hs_)) (blk_kept (PB BK287.1) hkp (fun hs_ => (fun e_ => (R_ne HO_294002.1 BK287.1 (by decide)) e_) hs_)) (blk_kept (PB BK293.1) hkp (fun hs_ => (fun e_ => (R_ne HO_294002.1 BK293.1 (by decide)) e_) hs_)) (hb) ?_; clear HO_11 HO_294002 BK286 BK287 BK293 HB HL297_0; intro HO_11 HO_294002 BK286 BK287 BK293 HB; (try clear hb); (try clear hkp); (try clear hy0))))
   go_roundg k1
   case measure => have := HK1.1; omega
   case rel => exact ⟨(wrap64 (x13_1 + 1)), (t301), (.slice Ao35 x294002_1.length co35), RG, H', ⟨by have := HK1.1; omega⟩, ⟨PS HO_11.1⟩, ⟨PR HO_294002.1⟩, ⟨PB BK286.1⟩, ⟨PB BK287.1⟩, ⟨PB BK293.1⟩, ⟨BL HB.1⟩⟩
 simp only [Option.some.injEq, Prod.mk.injEq] at H
 obtain ⟨rfl, rfl, rfl⟩ := H
 obtain ⟨hcz39_0, hcz39_1, hcz39_2, hfz39_0, hfz39_1, hfz39_2⟩ := cz3 BK293.1
 obtain ⟨hcz41_0, hcz41_1, hcz41_2, hfz41_0, hfz41_1, hfz41_2⟩ := cz3 BK287.1
 obtain ⟨Ao42, co42, eo42⟩ := R_slice HO_294002.1
 subst eo42
 go_wp2
 repeat (go_quiet (fail); try go_wp2)
 refine bodyPost_ret (results_cell_row rfl _ _ gb287 30 #[.int .i64 t288, .int .i64 t289, .slice Ao42 x294002_1.length co42] (0, 0) _ rfl (PF0 BK287.1) Try.underlying30 rfl (by kernel_rfl)) rfl ?_
 exact ⟨_, RF, by (with_reducible repeat (first | apply R_alloc | apply R_drewN | apply R_drew)); exact R_mono (RQ gb287 2 (RQ gb287 1 (RQ gb287 0 (R_types HO_294002.1 BK287.1 (by decide)) _) _) _) (fun _ hk => trivial), BL HB.1⟩
def spec_saIn.l0 : Nat -> Int -> List Int -> Int -> Int -> Int -> Int -> List (S83) -> Option (Int × Int × (List (S83)))
 | 0, _, _, _, _, _, _, _ => none
 | k + 1, x1, x5, x9, x10, x303000, x303001, x303002 => if x10 < x9 then (if 0 <= (IntKind.u64.wrap (x10)) then (if x5.length < 17592186044416 then (spec_saIn.l0 k x1 (x5 ++ [Go.bits .and .i64 (shr .i64 x1 (IntKind.u64.wrap (x10))) 1]) x9 (wrap64 (x10 + 1)) x303000 x303001 x303002) else (none)) else (none)) else ((spec_saWith.f k x303000 x303001 x303002 x5).bind fun bt310 => (some (bt310.1, bt310.2.1, bt310.2.2)))
def spec_saIn.f (k : Nat) (a0_0 : Int) (a0_1 : Int) (l0_2 : List (S83)) (a1 : Int) : Option (Int × Int × (List (S83))) := (spec_saUnits.f k a0_0 a0_1 l0_2).bind fun t304 => (spec_saIn.l0 k a1 ([] : List Int) (t304.length : Int) 0 a0_0 a0_1 l0_2)
theorem spec_saIn.mono_l : ∀ k, (∀ y0 y1 y2 y3 y4 y5 y6, LeO (spec_saIn.l0 k y0 y1 y2 y3 y4 y5 y6) (spec_saIn.l0 (k + 1) y0 y1 y2 y3 y4 y5 y6))
 | 0 => fun _ _ _ _ _ _ _ r h => by simp [spec_saIn.l0] at h
 | k + 1 => by
  have ih0 := spec_saIn.mono_l k
  intros
  first | unfold spec_saIn.l0
  exact LM3 ih0 spec_saUnits.mono spec_saWith.mono
theorem spec_saIn.mono : ∀ a0 a1 a2 a3 k, LeO (spec_saIn.f k a0 a1 a2 a3) (spec_saIn.f (k + 1) a0 a1 a2 a3) := by
 intro a0 a1 a2 a3 k
 have ih0 := spec_saIn.mono_l k
 unfold spec_saIn.f
 exact LM3 ih0 spec_saUnits.mono spec_saWith.mono
theorem spec_saIn.calls (k : Nat) (a0_0 : Int) (a0_1 : Int) (A0_2 : Option Addr) (c0_2 : Nat) (l0_2 : List (S83)) (a1 : Int) (r1 : Int) (r2 : Int) (r3 : List (S83)) (w : World) (hr0_2 : Kd.C k83 w A0_2 l0_2.length l0_2) (hc0_2 : l0_2.length <= c0_2) (h : spec_saIn.f k a0_0 a0_1 l0_2 a1 = some (r1, r2, r3)) :
 Calls Try.prog 70 #[.agg #[.int .i64 a0_0, .int .i64 a0_1, .slice A0_2 l0_2.length c0_2], .int .i64 a1] w fun e w' => ∃ v2_ : Value, e = .returned (.agg #[.int .i64 r1, .int .i64 r2, v2_]) /\ Kd.R k83 83 w' w.heap.size (fun _ => True) v2_ r3 /\ Below w.heap.size w w' := by
 have hu30 := Try.underlying30
 have HR0_2 := Aside0.mk hr0_2
 have HC0_2 := Aside0.mk hc0_2
 clear hr0_2 hc0_2
 have HB := Aside0.mk (Below.refl w.heap.size w)
 have H := h
 clear h
 unfold spec_saIn.f at H
 replace H := bindA H; obtain ⟨t304, A3, H⟩ := H
 have H' := Aside0.mk H
 clear H
 go_enter Try.func70, Try.ntmps70
 go_wp2_with (first | ((with_reducible refine gate_dst (N := 2) rfl ?_); refine boxE (cs := #[.int .i64 a0_0, .int .i64 a0_1, .slice A0_2 l0_2.length c0_2]) (t := 30) ?_; intro gb302 hg w4 hbox hb; refine E4b HB.1 hg hbox hb ?_; clear HB; intro HB BK302 GW302 GE302; clear hb hbox hg) | ((with_reducible refine gate_dst (N := 4) rfl ?_); refine boxE (cs := #[.int .i64 0, .int .i64 0, .slice none 0 0]) (t := 30) ?_; intro gb303 hg w5 hbox hb; refine E7 (bB BK302.1 hb) (bS HB.1 hb) (hbox) (gX HB.1 hg) (gX HB.1 hg) (nB BK302.1 hg) (nC BK302.1 hg) ?_; clear BK302 HB; intro BK302 HB BK303 GW303 GE303 NB302_303 NB303_302; clear hb hbox hg; have hnb6 := NB302_303.1; have hnc6 := NB303_302.1; obtain ⟨hcz7_0, hcz7_1, hcz7_2, hfz7_0, hfz7_1, hfz7_2⟩ := cz3 BK302.1) | ((with_reducible refine gate_callee (f := 52) rfl ?_); refine goesM (N := (some 8)) #[.agg #[.int .i64 a0_0, .int .i64 a0_1, .slice A0_2 l0_2.length c0_2]] Try.func52 ?_; (with_reducible refine (spec_saUnits.calls k a0_0 a0_1 _ _ l0_2 t304 _ ?side1 ?side2 A3.1).mono ?_); (case side1 => exact CB (C_below HR0_2.1 HB.1)); (case side2 => exact HC0_2.1); rintro e w8 ⟨v305, rfl, ho0, hb⟩; refine ⟨_, rfl, ?_⟩; refine E4 (S_lower ho0 (bZ HB.1)) (bB BK302.1 hb) (bB BK303.1 hb) (bS HB.1 hb) ?_; clear BK302 BK303 HB; intro HO306 BK302 BK303 HB; (try clear hb); (try clear ho0); obtain ⟨Ao9, co9, eo9⟩ := S_slice HO306.1; subst eo9))
 go_loopg [5, 10] k (fun kq v5 v10 w' => ∃ (x5_1 : List Int) (x10_1 : Int), v10 = .int .i64 x10_1 /\ Aside0 (spec_saIn.l0 kq a1 x5_1 (t304.length : Int) x10_1 a0_0 a0_1 l0_2 = some (r1, r2, r3)) /\ Aside0 (kq <= k) /\ Aside0 (Kd.R (Kd.int .i64) 3 w' w.heap.size (fun _ => True) v5 x5_1) /\ Aside0 (w'.heap[gb302]? = some (.cells #[.int .i64 a0_0, .int .i64 a0_1, (.slice A0_2 l0_2.length c0_2)] 30 (0, 0))) /\ Aside0 (w'.heap[gb303]? = some (.cells #[.int .i64 0, .int .i64 0, (.slice none 0 0)] 30 (0, 0))) /\ Aside0 (Below w.heap.size w w'))
 case atStart => exact ⟨(([] : List Int)), (0), RG, H', ⟨Nat.le_refl _⟩, ⟨by first | exact R_nil _ _ _ _ _ | exact N_nil _ _ _ _ _ | exact V_nil _ _ _ _ _ | exact Q_nil _ _ _ _ _ | exact S_nil _ _ _ _ _⟩, ⟨PB BK302.1⟩, ⟨PB BK303.1⟩, ⟨BL HB.1⟩⟩
 clear H'
 clear hcz7_0 hcz7_1 hcz7_2 hfz7_0 hfz7_1 hfz7_2
 obtain ⟨x5_1, x10_1, rfl, HA, HK1, HO_5, BK302, BK303, HB⟩ := hrel
 cases gk with
 | zero => exact absurd HA.1 (by simp [spec_saIn.l0])
 | succ k1 => ?_
 have H := HA.1
 clear HA
 simp only [spec_saIn.l0] at H
 replace H := ifB H; rcases H with ⟨c10b0, H⟩ | ⟨c10b0, H⟩
 · obtain ⟨ji11, hji11⟩ : ∃ j_ : Int, (IntKind.u64.wrap (x10_1)) = j_ := ⟨_, rfl⟩
   replace H : (if 0 <= (ji11) then (if x5_1.length < 17592186044416 then (spec_saIn.l0 k1 a1 (x5_1 ++ [Go.bits .and .i64 (shr .i64 a1 (ji11)) 1]) (t304.length : Int) (wrap64 (x10_1 + 1)) a0_0 a0_1 l0_2) else (none)) else (none)) = some (r1, r2, r3) := by first | (rw [hji11] at H; exact H) | (simp only [hji11] at H ⊢; exact H)
   replace H := ifP H; obtain ⟨c12, H⟩ := H
   have c12b0 := eq_true c12
   have c12b1 := decide_eq_true c12
   clear c12
   obtain ⟨ji13, hji13⟩ : ∃ j_ : Int, (shr .i64 a1 (ji11)) = j_ := ⟨_, rfl⟩
   replace H : (if x5_1.length < 17592186044416 then (spec_saIn.l0 k1 a1 (x5_1 ++ [Go.bits .and .i64 (ji13) 1]) (t304.length : Int) (wrap64 (x10_1 + 1)) a0_0 a0_1 l0_2) else (none)) = some (r1, r2, r3) := by first | (rw [hji13] at H; exact H) | (simp only [hji13] at H ⊢; exact H)
   have hji13_ : (a1 / 2 ^ min (ji11).toNat 64) = ji13 := hji13
   have hji13z : (ji11) <= 64 -> (a1 / 2 ^ (ji11).toNat) = ji13 := shr_small hji13
   replace H := ifP H; obtain ⟨c14, H⟩ := H
   have LMc14 := Aside0.mk c14
   clear c14
   generalize hy307 : ((x5_1 ++ [Go.bits .and .i64 (ji13) 1]) : List Int) = y307 at H
   have Ny307 := Aside0.mk hy307.symm; clear hy307
   have H' := Aside0.mk H
   clear H
   go_wp2_with (first | ((with_reducible refine gate_builtin (b := .append) (xs := #[.tmp 13, .tmp 19]) rfl ?_); at_builtin; refine R_append (Kd.int .i64) (w0 := w) w.heap.size rfl (.tmp 13) (.tmp 19) 38 3 (.int .i64 0) 8 rfl Try.underlying38 info3 rfl (by decide) (by omega) u5 x5_1 (Go.bits .and .i64 (ji13) 1) [.int .i64 (Go.bits .and .i64 (ji13) 1)] (fun _ => True) (fun _ => False) rfl rfl ?aP (fun _ hk => hk.elim) ?aF ?aO ?aB ?aS ?aL ?_; (case aP => exact rfl); (case aB => exact (BL HB.1)); (case aF => exact (fun _ _ => trivial)); (case aO => exact (PR HO_5.1)); (case aS => exact (bZ HB.1)); (case aL => have := LMc14.1; omega); intro v308 w15 ho hb hg hat; rw [<- Ny307.1] at ho; refine E4 (bG BK302.1 hg (R_ne HO_5.1 BK302.1 (by decide))) (bG BK303.1 hg (R_ne HO_5.1 BK303.1 (by decide))) (hb) (ho) ?_; clear BK302 BK303 HB HO_5; intro BK302 BK303 HB HO309; clear ho hb hg hat))
   go_roundg k1
   case measure => have := HK1.1; omega
   case rel => exact ⟨(y307), (wrap64 (x10_1 + 1)), RG, H', ⟨by have := HK1.1; omega⟩, ⟨PR HO309.1⟩, ⟨PB BK302.1⟩, ⟨PB BK303.1⟩, ⟨BL HB.1⟩⟩
 replace H := bindA H; obtain ⟨⟨t310, t311, t312⟩, A16, H⟩ := H
 dsimp only at H
 simp only [Option.some.injEq, Prod.mk.injEq] at H
 obtain ⟨rfl, rfl, rfl⟩ := H
 obtain ⟨hcz18_0, hcz18_1, hcz18_2, hfz18_0, hfz18_1, hfz18_2⟩ := cz3 BK302.1
 obtain ⟨Ao19, co19, eo19⟩ := R_slice HO_5.1
 subst eo19
 go_wp2_with (first | ((with_reducible refine gate_callee (f := 85) rfl ?_); refine goesM (N := (some 24)) #[.agg #[.int .i64 a0_0, .int .i64 a0_1, .slice A0_2 l0_2.length c0_2], .slice Ao19 x5_1.length co19] Try.func85 ?_; (with_reducible refine (spec_saWith.calls k1 a0_0 a0_1 _ _ l0_2 _ _ x5_1 t310 t311 t312 _ ?side1 ?side2 ?side3 ?side4 A16.1).mono ?_); (case side1 => exact CB (C_below HR0_2.1 HB.1)); (case side2 => exact HC0_2.1); (case side3 => exact CB (R_reads' HO_5.1).2.2); (case side4 => exact (R_reads' HO_5.1).2.1); rintro e w20 ⟨v313, rfl, ho0, hb⟩; refine ⟨_, rfl, ?_⟩; refine E5 (rB HO_5.1 hb) (R_lower ho0 (bZ HB.1)) (bB BK302.1 hb) (bB BK303.1 hb) (bS HB.1 hb) ?_; clear HO_5 BK302 BK303 HB; intro HO_5 HO314 BK302 BK303 HB; (try clear hb); (try clear ho0); obtain ⟨hcz21_0, hcz21_1, hcz21_2, hfz21_0, hfz21_1, hfz21_2⟩ := cz3 BK303.1; obtain ⟨Ao22, co22, eo22⟩ := R_slice HO314.1; subst eo22))
 refine bodyPost_ret (results_cell_row rfl _ _ gb303 30 #[.int .i64 t310, .int .i64 t311, .slice Ao22 t312.length co22] (0, 0) _ rfl (PF0 BK303.1) Try.underlying30 rfl (by kernel_rfl)) rfl ?_
 exact ⟨_, RF, by (with_reducible repeat (first | apply R_alloc | apply R_drewN | apply R_drew)); exact R_mono (RQ gb303 2 (RQ gb303 1 (RQ gb303 0 (R_types HO314.1 BK303.1 (by decide)) _) _) _) (fun _ hk => trivial), BL HB.1⟩
def spec_reNext.f (k : Nat) (a0_0 : Int) (a0_1 : Int) (l0_2 : List (S83)) (a1 : Int) (a2 : Int) : Option (Int × Int × Int × Int) := (spec_saIn.f k a0_0 a0_1 l0_2 a1).bind fun bt317 => ((spec_flRun.f k bt317.1 bt317.2.1 bt317.2.2 a2).bind fun bt322 => ((spec_saNumber.f k bt322.2.2.2.1 bt322.2.2.2.2.1 bt322.2.2.2.2.2).bind fun t332 => (some (t332, bt322.1, bt322.2.1, bt322.2.2.1))))
theorem spec_reNext.mono : ∀ a0 a1 a2 a3 a4 k, LeO (spec_reNext.f k a0 a1 a2 a3 a4) (spec_reNext.f (k + 1) a0 a1 a2 a3 a4) := by
 intro a0 a1 a2 a3 a4 k
 unfold spec_reNext.f
 repeat' first
  | (with_reducible exact spec_flRun.mono _ _ _ _ _)
  | (with_reducible exact spec_saIn.mono _ _ _ _ _)
  | (with_reducible exact spec_saNumber.mono _ _ _ _)
  | (with_reducible exact LeO.refl _)
  | (with_reducible exact LeO.none _)
  | (with_reducible refine LeO.ite ?_ ?_)
  | (with_reducible refine LeO.bind ?_ (fun _ => ?_))
  | exact spec_flRun.mono _ _ _ _ _
  | exact spec_saIn.mono _ _ _ _ _
  | exact spec_saNumber.mono _ _ _ _
  | exact LeO.none _
  | refine LeO.ite ?_ ?_
  | refine LeO.bind ?_ (fun _ => ?_)
theorem spec_reNext.calls (k : Nat) (a0_0 : Int) (a0_1 : Int) (A0_2 : Option Addr) (c0_2 : Nat) (l0_2 : List (S83)) (a1 : Int) (a2 : Int) (r1 : Int) (r2 : Int) (r3 : Int) (r4 : Int) (w : World) (hr0_2 : Kd.C k83 w A0_2 l0_2.length l0_2) (hc0_2 : l0_2.length <= c0_2) (h : spec_reNext.f k a0_0 a0_1 l0_2 a1 a2 = some (r1, r2, r3, r4)) :
 Calls Try.prog 43 #[.agg #[.int .i64 a0_0, .int .i64 a0_1, .slice A0_2 l0_2.length c0_2], .int .i64 a1, .int .i64 a2] w fun e w' => e = .returned (.tuple #[.int .i64 r1, .agg #[.int .i64 r2, .int .i64 r3, .int .i64 r4]]) /\ Below w.heap.size w w' := by
 have hu30 := Try.underlying30
 have hu54 := Try.underlying54
 have HR0_2 := Aside0.mk hr0_2
 have HC0_2 := Aside0.mk hc0_2
 clear hr0_2 hc0_2
 have HB := Aside0.mk (Below.refl w.heap.size w)
 have H := h
 clear h
 unfold spec_reNext.f at H
 replace H := bindA H; obtain ⟨⟨t317, t318, t319⟩, A4, H⟩ := H
 dsimp only at H
 replace H := bindA H; obtain ⟨⟨t322, t323, t324, t325, t326, t327⟩, A5, H⟩ := H
 dsimp only at H
 replace H := bindA H; obtain ⟨t332, A6, H⟩ := H
 simp only [Option.some.injEq, Prod.mk.injEq] at H
 obtain ⟨rfl, rfl, rfl, rfl⟩ := H
 go_enter Try.func43, Try.ntmps43
 try go_wp2_with (first | ((with_reducible refine gate_dst (N := 3) rfl ?_); refine boxE (cs := #[.int .i64 a0_0, .int .i64 a0_1, .slice A0_2 l0_2.length c0_2]) (t := 30) ?_; intro gb315 hg w7 hbox hb; refine E4b HB.1 hg hbox hb ?_; clear HB; intro HB BK315 GW315 GE315; clear hb hbox hg) | ((with_reducible refine gate_dst (N := 7) rfl ?_); refine boxE (cs := #[.int .i64 0, .int .i64 0, .int .i64 0]) (t := 54) ?_; intro gb316 hg w8 hbox hb; refine E7 (bB BK315.1 hb) (bS HB.1 hb) (hbox) (gX HB.1 hg) (gX HB.1 hg) (nB BK315.1 hg) (nC BK315.1 hg) ?_; clear BK315 HB; intro BK315 HB BK316 GW316 GE316 NB315_316 NB316_315; clear hb hbox hg; have hnb9 := NB315_316.1; have hnc9 := NB316_315.1; obtain ⟨hcz10_0, hcz10_1, hcz10_2, hfz10_0, hfz10_1, hfz10_2⟩ := cz3 BK315.1) | ((with_reducible refine gate_callee (f := 70) rfl ?_); refine goesM (N := (some 13)) #[.agg #[.int .i64 a0_0, .int .i64 a0_1, .slice A0_2 l0_2.length c0_2], .int .i64 a1] Try.func70 ?_; (with_reducible refine (spec_saIn.calls k a0_0 a0_1 _ _ l0_2 a1 t317 t318 t319 _ ?side1 ?side2 A4.1).mono ?_); (case side1 => exact CB (C_below HR0_2.1 HB.1)); (case side2 => exact HC0_2.1); rintro e w11 ⟨v320, rfl, ho0, hb⟩; refine ⟨_, rfl, ?_⟩; refine E4 (R_lower ho0 (bZ HB.1)) (bB BK315.1 hb) (bB BK316.1 hb) (bS HB.1 hb) ?_; clear BK315 BK316 HB; intro HO321 BK315 BK316 HB; (try clear hb); (try clear ho0); obtain ⟨Ao12, co12, eo12⟩ := R_slice HO321.1; subst eo12) | ((with_reducible refine gate_callee (f := 69) rfl ?_); refine goesM (N := (some 15)) #[.agg #[.int .i64 t317, .int .i64 t318, .slice Ao12 t319.length co12], .int .i64 a2] Try.func69 ?_; (with_reducible refine (spec_flRun.calls k t317 t318 _ _ t319 a2 t322 t323 t324 t325 t326 t327 _ ?side1 ?side2 A5.1).mono ?_); (case side1 => exact CB (R_reads' HO321.1).2.2); (case side2 => exact (R_reads' HO321.1).2.1); rintro e w13 ⟨v328, rfl, ho0, hb⟩; refine ⟨_, rfl, ?_⟩; refine E5 (R_elder' (PR HO321.1) (R_base ho0) hb) (R_lower (R_new' ho0 (R_lt (PR HO321.1))) (bZ HB.1)) (bB BK315.1 hb) (bB BK316.1 hb) (bS HB.1 hb) ?_; clear HO321 BK315 BK316 HB; intro HO321 HO329 BK315 BK316 HB; (try clear hb); (try clear ho0)) | ((with_reducible refine gate_dst (N := 8) rfl ?_); refine boxE (cs := #[.int .i64 0, .int .i64 0, .int .i64 0]) (t := 54) ?_; intro gb330 hg w14 hbox hb; refine E12 (rB HO321.1 hb) (rB HO329.1 hb) (bB BK315.1 hb) (bB BK316.1 hb) (bS HB.1 hb) (hbox) (gX HB.1 hg) (gX HB.1 hg) (nB BK315.1 hg) (nC BK315.1 hg) (nB BK316.1 hg) (nC BK316.1 hg) ?_; clear HO321 HO329 BK315 BK316 HB; intro HO321 HO329 BK315 BK316 HB BK330 GW330 GE330 NB315_330 NB330_315 NB316_330 NB330_316; clear hb hbox hg) | ((with_reducible refine gate_dst (N := 9) rfl ?_); refine boxE (cs := #[.int .i64 0, .int .i64 0, .slice none 0 0]) (t := 30) ?_; intro gb331 hg w15 hbox hb; refine E15 (rB HO321.1 hb) (rB HO329.1 hb) (bB BK315.1 hb) (bB BK316.1 hb) (bB BK330.1 hb) (bS HB.1 hb) (hbox) (gX HB.1 hg) (gX HB.1 hg) (nB BK315.1 hg) (nC BK315.1 hg) (nB BK316.1 hg) (nC BK316.1 hg) (nB BK330.1 hg) (nC BK330.1 hg) ?_; clear HO321 HO329 BK315 BK316 BK330 HB; intro HO321 HO329 BK315 BK316 BK330 HB BK331 GW331 GE331 NB315_331 NB331_315 NB316_331 NB331_316 NB330_331 NB331_330; clear hb hbox hg; have hnb16 := NB330_315.1; have hnc16 := NB315_330.1; have hnb17 := NB330_316.1; have hnc17 := NB316_330.1; have hnb18 := NB330_331.1; have hnc18 := NB331_330.1; obtain ⟨hcz19_0, hcz19_1, hcz19_2, hfz19_0, hfz19_1, hfz19_2⟩ := cz3 BK330.1; have hnb20 := NB331_315.1; have hnc20 := NB315_331.1; have hnb21 := NB331_316.1; have hnc21 := NB316_331.1; obtain ⟨hcz22_0, hcz22_1, hcz22_2, hfz22_0, hfz22_1, hfz22_2⟩ := cz3 BK331.1; obtain ⟨Ao23, co23, eo23⟩ := R_slice HO329.1; subst eo23))
 have n_ : (fun w24 : World => (Kd.R k83 83 w24 w.heap.size (fun k_ => some k_ ≠ (.slice Ao23 t327.length co23 : Value).ownBlock) (.slice Ao12 t319.length co12) t319) /\ (Kd.R k83 83 w24 w.heap.size (fun k_ => some k_ ≠ (.slice Ao12 t319.length co12 : Value).ownBlock) (.slice Ao23 t327.length co23) t327) /\ (w24.heap[gb315]? = some (.cells #[.int .i64 a0_0, .int .i64 a0_1, .slice A0_2 l0_2.length c0_2] 30 (0, 0))) /\ (w24.heap[gb316]? = some (.cells #[.int .i64 0, .int .i64 0, .int .i64 0] 54 (0, 0))) /\ (w24.heap[gb330]? = some (.cells #[.int .i64 t322, .int .i64 t323, .int .i64 t324] 54 (0, 0))) /\ (w24.heap[gb331]? = some (.cells #[.int .i64 t325, .int .i64 t326, .slice Ao23 t327.length co23] 30 (0, 0))) /\ (Below w.heap.size w w24)) ((((((w15.setCell ⟨gb330, 0, none⟩ (.int .i64 t322)).setCell ⟨gb330, 1, none⟩ (.int .i64 t323)).setCell ⟨gb330, 2, none⟩ (.int .i64 t324)).setCell ⟨gb331, 0, none⟩ (.int .i64 t325)).setCell ⟨gb331, 1, none⟩ (.int .i64 t326)).setCell ⟨gb331, 2, none⟩ (.slice Ao23 t327.length co23)) := ⟨by (with_reducible repeat (first | apply R_alloc | apply R_drewN | apply R_drew)); exact R_mono (RQ gb331 2 (RQ gb331 1 (RQ gb331 0 (R_far (p := ⟨gb330, 2, none⟩) (R_far (p := ⟨gb330, 1, none⟩) (R_far (p := ⟨gb330, 0, none⟩) (R_types (R_types HO321.1 BK330.1 (by decide)) BK331.1 (by decide)) (fun _ hk => hk.1.2) (.int .i64 t322)) (fun _ hk => hk.1.2) (.int .i64 t323)) (fun _ hk => hk.1.2) (.int .i64 t324)) _) _) _) (fun _ hk => hk.1.1.2), by (with_reducible repeat (first | apply R_alloc | apply R_drewN | apply R_drew)); exact R_mono (RQ gb331 2 (RQ gb331 1 (RQ gb331 0 (R_far (p := ⟨gb330, 2, none⟩) (R_far (p := ⟨gb330, 1, none⟩) (R_far (p := ⟨gb330, 0, none⟩) (R_types (R_types HO329.1 BK330.1 (by decide)) BK331.1 (by decide)) (fun _ hk => hk.1.2) (.int .i64 t322)) (fun _ hk => hk.1.2) (.int .i64 t323)) (fun _ hk => hk.1.2) (.int .i64 t324)) _) _) _) (fun _ hk => hk.1.1.2), by (with_reducible repeat (first | refine blk_drewN ?_ _ | refine blk_drew ?_ | refine blk_alloc ?_ _)); refine blk_far ?_ NB315_331.1 _; (with_reducible repeat (first | refine blk_drewN ?_ _ | refine blk_drew ?_ | refine blk_alloc ?_ _)); refine blk_far ?_ NB315_331.1 _; (with_reducible repeat (first | refine blk_drewN ?_ _ | refine blk_drew ?_ | refine blk_alloc ?_ _)); refine blk_far ?_ NB315_331.1 _; (with_reducible repeat (first | refine blk_drewN ?_ _ | refine blk_drew ?_ | refine blk_alloc ?_ _)); refine blk_far ?_ NB315_330.1 _; (with_reducible repeat (first | refine blk_drewN ?_ _ | refine blk_drew ?_ | refine blk_alloc ?_ _)); refine blk_far ?_ NB315_330.1 _; (with_reducible repeat (first | refine blk_drewN ?_ _ | refine blk_drew ?_ | refine blk_alloc ?_ _)); refine blk_far ?_ NB315_330.1 _; (with_reducible repeat (first | refine blk_drewN ?_ _ | refine blk_drew ?_ | refine blk_alloc ?_ _)); exact BK315.1, by (with_reducible repeat (first | refine blk_drewN ?_ _ | refine blk_drew ?_ | refine blk_alloc ?_ _)); refine blk_far ?_ NB316_331.1 _; (with_reducible repeat (first | refine blk_drewN ?_ _ | refine blk_drew ?_ | refine blk_alloc ?_ _)); refine blk_far ?_ NB316_331.1 _; (with_reducible repeat (first | refine blk_drewN ?_ _ | refine blk_drew ?_ | refine blk_alloc ?_ _)); refine blk_far ?_ NB316_331.1 _; (with_reducible repeat (first | refine blk_drewN ?_ _ | refine blk_drew ?_ | refine blk_alloc ?_ _)); refine blk_far ?_ NB316_330.1 _; (with_reducible repeat (first | refine blk_drewN ?_ _ | refine blk_drew ?_ | refine blk_alloc ?_ _)); refine blk_far ?_ NB316_330.1 _; (with_reducible repeat (first | refine blk_drewN ?_ _ | refine blk_drew ?_ | refine blk_alloc ?_ _)); refine blk_far ?_ NB316_330.1 _; (with_reducible repeat (first | refine blk_drewN ?_ _ | refine blk_drew ?_ | refine blk_alloc ?_ _)); exact BK316.1, by (with_reducible repeat (first | refine blk_drewN ?_ _ | refine blk_drew ?_ | refine blk_alloc ?_ _)); refine blk_far ?_ NB330_331.1 _; (with_reducible repeat (first | refine blk_drewN ?_ _ | refine blk_drew ?_ | refine blk_alloc ?_ _)); refine blk_far ?_ NB330_331.1 _; (with_reducible repeat (first | refine blk_drewN ?_ _ | refine blk_drew ?_ | refine blk_alloc ?_ _)); refine blk_far ?_ NB330_331.1 _; (with_reducible repeat (first | refine blk_drewN ?_ _ | refine blk_drew ?_ | refine blk_alloc ?_ _)); refine blk_put (cs := #[.int .i64 t322, .int .i64 t323, .int .i64 0]) ?_ 2 _ rfl; (with_reducible repeat (first | refine blk_drewN ?_ _ | refine blk_drew ?_ | refine blk_alloc ?_ _)); refine blk_put (cs := #[.int .i64 t322, .int .i64 0, .int .i64 0]) ?_ 1 _ rfl; (with_reducible repeat (first | refine blk_drewN ?_ _ | refine blk_drew ?_ | refine blk_alloc ?_ _)); refine blk_put (cs := #[.int .i64 0, .int .i64 0, .int .i64 0]) ?_ 0 _ rfl; (with_reducible repeat (first | refine blk_drewN ?_ _ | refine blk_drew ?_ | refine blk_alloc ?_ _)); exact BK330.1, by (with_reducible repeat (first | refine blk_drewN ?_ _ | refine blk_drew ?_ | refine blk_alloc ?_ _)); refine blk_put (cs := #[.int .i64 t325, .int .i64 t326, .slice none 0 0]) ?_ 2 _ rfl; (with_reducible repeat (first | refine blk_drewN ?_ _ | refine blk_drew ?_ | refine blk_alloc ?_ _)); refine blk_put (cs := #[.int .i64 t325, .int .i64 0, .slice none 0 0]) ?_ 1 _ rfl; (with_reducible repeat (first | refine blk_drewN ?_ _ | refine blk_drew ?_ | refine blk_alloc ?_ _)); refine blk_put (cs := #[.int .i64 0, .int .i64 0, .slice none 0 0]) ?_ 0 _ rfl; (with_reducible repeat (first | refine blk_drewN ?_ _ | refine blk_drew ?_ | refine blk_alloc ?_ _)); refine blk_far ?_ NB331_330.1 _; (with_reducible repeat (first | refine blk_drewN ?_ _ | refine blk_drew ?_ | refine blk_alloc ?_ _)); refine blk_far ?_ NB331_330.1 _; (with_reducible repeat (first | refine blk_drewN ?_ _ | refine blk_drew ?_ | refine blk_alloc ?_ _)); refine blk_far ?_ NB331_330.1 _; (with_reducible repeat (first | refine blk_drewN ?_ _ | refine blk_drew ?_ | refine blk_alloc ?_ _)); exact BK331.1, BL HB.1⟩
 (try clear HO321)
 (try clear HO329)
 (try clear BK315)
 (try clear BK316)
 (try clear BK330)
 (try clear BK331)
 (try clear HB)
 generalize ((((((w15.setCell ⟨gb330, 0, none⟩ (.int .i64 t322)).setCell ⟨gb330, 1, none⟩ (.int .i64 t323)).setCell ⟨gb330, 2, none⟩ (.int .i64 t324)).setCell ⟨gb331, 0, none⟩ (.int .i64 t325)).setCell ⟨gb331, 1, none⟩ (.int .i64 t326)).setCell ⟨gb331, 2, none⟩ (.slice Ao23 t327.length co23)) = w24 at n_ ⊢
 obtain ⟨h0_, h1_, h2_, h3_, h4_, h5_, h6_⟩ := n_
 refine E7 h0_ h1_ h2_ h3_ h4_ h5_ h6_ ?_
 clear h0_ h1_ h2_ h3_ h4_ h5_ h6_
 intro HO321 HO329 BK315 BK316 BK330 BK331 HB
 refine E7 (R_drew HO321.1) (R_drew HO329.1) (blk_drew BK315.1) (blk_drew BK316.1) (blk_drew BK330.1) (blk_drew BK331.1) (below_drew1 HB.1) ?_
 clear HO321 HO329 BK315 BK316 BK330 BK331 HB
 intro HO321 HO329 BK315 BK316 BK330 BK331 HB
 refine start_ (n := 5) (S := fun w' => w'.cell? ⟨gb331, 0, none⟩ = some (.int .i64 t325) /\ w'.cell? ⟨gb331, 1, none⟩ = some (.int .i64 t326) /\ w'.cell? ⟨gb331, 2, none⟩ = some (.slice Ao23 t327.length co23) /\ w'.cell? ⟨gb330, 0, none⟩ = some (.int .i64 t322) /\ w'.cell? ⟨gb330, 1, none⟩ = some (.int .i64 t323) /\ w'.cell? ⟨gb330, 2, none⟩ = some (.int .i64 t324)) (ds := []) #[Zz,Zz,Zz,Zz,Zz] (by kernel_rfl) rfl rfl ⟨(blk_cell BK331.1 0).trans rfl, (blk_cell BK331.1 1).trans rfl, (blk_cell BK331.1 2).trans rfl, (blk_cell BK330.1 0).trans rfl, (blk_cell BK330.1 1).trans rfl, (blk_cell BK330.1 2).trans rfl⟩ (fun hHeld => ?_)
 generalize w24.drew = w25 at HO321 HO329 BK315 BK316 BK330 BK331 HB hHeld ⊢
 refine takeF 0 (N := some 18) hHeld ?_
 refine takeF 2 (N := some 20) hHeld ?_
 refine one_ (i := 1) (N := some 19) #[Yy,Yy,Yy,Zz,Zz] rfl rfl (by kernel_rfl) (by decide) (fun K hK => ?_)
 refine goes_ Try.func44 (by kernel_rfl) rfl #[.agg #[.int .i64 t325, .int .i64 t326, .slice Ao23 t327.length co23]] (by rfl) rfl rfl (by (try simp only [List.map_toArray, List.map_cons, List.map_nil]); first | done | rfl | (simp only [List.length_drop, List.length_take]; rfl)) ?_
 with_reducible refine (spec_saNumber.calls k t325 t326 _ _ t327 t332 _ ?side1 ?side2 A6.1).mono ?_
 (case side1 => exact CB (R_reads' HO329.1).2.2)
 (case side2 => exact (R_reads' HO329.1).2.1)
 rintro e w26 ⟨rfl, hb⟩
 refine ⟨_, rfl, ?_⟩
 refine E7 (rB HO321.1 hb) (rB HO329.1 hb) (bB BK315.1 hb) (bB BK316.1 hb) (bB BK330.1 hb) (bB BK331.1 hb) (bS HB.1 hb) ?_
 clear HO321 HO329 BK315 BK316 BK330 BK331 HB
 intro HO321 HO329 BK315 BK316 BK330 BK331 HB
 (try clear hb)
 (try clear hb2)
 (try clear hk)
 (try clear hi)
 refine hK.out _ _ ⟨(blk_cell BK331.1 0).trans rfl, (blk_cell BK331.1 1).trans rfl, (blk_cell BK331.1 2).trans rfl, (blk_cell BK330.1 0).trans rfl, (blk_cell BK330.1 1).trans rfl, (blk_cell BK330.1 2).trans rfl⟩ (fun hHeld => ?_)
 clear hK K
 refine norm_ (a' := ?_) ?_ ?_
 rotate_left
 · show Act.put _ (some 19) _ = _
   simp only [Act.put, List.setIfInBounds_toArray, List.set_cons_zero, List.set_cons_succ, i64_w, i32_w]
   rfl
 refine pure_ (i := 3) (N := some 6) (v := ?_) (a' := ?_) #[Yy,Yy,Yy,Yy,Zz] rfl rfl (by kernel_rfl) (fun _ _ _ h => h) (Or.inl ⟨by rfl, ?_⟩) ?_ ?_
 rotate_left
 · intro w'
   go_simp
   with_reducible rfl
 rotate_left
 · simp only [Act.put, List.setIfInBounds_toArray, List.set_cons_zero, List.set_cons_succ, i64_w, i32_w]
   rfl
 refine one_ (i := 4) (N := none) #[Yy,Yy,Yy,Yy,Yy] rfl rfl (by kernel_rfl) (by decide) (fun K hK => ?_)
 obtain ⟨hs27, hs28, hs29, hfs27, hfs28, hfs29⟩ := cz3 BK316.1
 refine skip_ (w1 := ?_) (by rfl) rfl ?_ ?_
 rotate_left
 · go_simp
   rfl
 refine hK.out _ _ ⟨(CF3 NB331_316.1 hHeld.1), (CF3 NB331_316.1 hHeld.2.1), (CF3 NB331_316.1 hHeld.2.2.1), (CF3 NB330_316.1 hHeld.2.2.2.1), (CF3 NB330_316.1 hHeld.2.2.2.2.1), (CF3 NB330_316.1 hHeld.2.2.2.2.2)⟩ (fun hHeld => ?_)
 clear hK K
 refine done_ (by kernel_rfl) ?_
 try go_wp2
 refine bodyPost_ret (results_tc rfl _ _ gb316 54 #[.int .i64 t322, .int .i64 t323, .int .i64 t324] (0, 0) _ rfl (PF0 BK316.1) Try.underlying54 rfl (by kernel_rfl)) rfl ?_
 exact ⟨RF, BL HB.1⟩
def laws_toCell.f (a0_0 : Int) (a0_1 : Int) : Option (Int × Int) := some (a0_0, a0_1)
theorem laws_toCell.calls (a0_0 : Int) (a0_1 : Int) (r1 : Int) (r2 : Int) (w : World) (h : laws_toCell.f a0_0 a0_1 = some (r1, r2)) :
 Calls Try.prog 72 #[.agg #[.int .i64 a0_0, .int .i64 a0_1]] w fun e w' => e = .returned (.agg #[.int .i64 r1, .int .i64 r2]) /\ Below w.heap.size w w' := by
 have hu85 := Try.underlying85
 have hu83 := Try.underlying83
 have HB := Aside0.mk (Below.refl w.heap.size w)
 have H := h
 clear h
 unfold laws_toCell.f at H
 simp only [Option.some.injEq, Prod.mk.injEq] at H
 obtain ⟨rfl, rfl⟩ := H
 go_enter Try.func72, Try.ntmps72
 go_wp2_with (first | ((with_reducible refine gate_dst (N := 1) rfl ?_); refine boxE (cs := #[.int .i64 a0_0, .int .i64 a0_1]) (t := 85) ?_; intro gb341 hg w2 hbox hb; refine E4b HB.1 hg hbox hb ?_; clear HB; intro HB BK341 GW341 GE341; clear hb hbox hg) | ((with_reducible refine gate_dst (N := 2) rfl ?_); refine boxE (cs := #[.int .i64 0, .int .i64 0]) (t := 83) ?_; intro gb342 hg w3 hbox hb; refine E7 (bB BK341.1 hb) (bS HB.1 hb) (hbox) (gX HB.1 hg) (gX HB.1 hg) (nB BK341.1 hg) (nC BK341.1 hg) ?_; clear BK341 HB; intro BK341 HB BK342 GW342 GE342 NB341_342 NB342_341; clear hb hbox hg) | ((with_reducible refine gate_dst (N := 3) rfl ?_); refine boxE (cs := #[.int .i64 0, .int .i64 0]) (t := 83) ?_; intro gb343 hg w4 hbox hb; refine E10 (bB BK341.1 hb) (bB BK342.1 hb) (bS HB.1 hb) (hbox) (gX HB.1 hg) (gX HB.1 hg) (nB BK341.1 hg) (nC BK341.1 hg) (nB BK342.1 hg) (nC BK342.1 hg) ?_; clear BK341 BK342 HB; intro BK341 BK342 HB BK343 GW343 GE343 NB341_343 NB343_341 NB342_343 NB343_342; clear hb hbox hg; have hnb5 := NB341_342.1; have hnc5 := NB342_341.1; have hnb6 := NB341_343.1; have hnc6 := NB343_341.1; obtain ⟨hcz7_0, hcz7_1, hfz7_0, hfz7_1⟩ := cz2 BK341.1; have hnb8 := NB343_342.1; have hnc8 := NB342_343.1; obtain ⟨hcz9_0, hcz9_1, hfz9_0, hfz9_1⟩ := cz2 BK343.1; obtain ⟨hcz10_0, hcz10_1, hfz10_0, hfz10_1⟩ := cz2 BK342.1))
 refine bodyPost_ret (results_cell_row rfl _ _ gb342 83 #[.int .i64 a0_0, .int .i64 a0_1] (0, 0) _ rfl (PF1 NB342_343.1 BK342.1) Try.underlying83 rfl (by kernel_rfl)) rfl ?_
 exact ⟨RF, BL HB.1⟩
def laws_toCellS.l0 : Nat -> List (S85) -> List (S83) -> Int -> Option ((List (S83)))
 | 0, _, _, _ => none
 | k + 1, x0, x3, x4 => if x4 < (x0.length : Int) then (if 0 <= x4 then ((laws_toCell.f ((rd_T85 x0 x4).f0) ((rd_T85 x0 x4).f1)).bind fun bt348 => (if x4 < (x3.length : Int) then (laws_toCellS.l0 k x0 (x3.set (x4 : Int).toNat (⟨bt348.1, bt348.2⟩ : S83)) (wrap64 (x4 + 1))) else (none))) else (none)) else (some x3)
def laws_toCellS.f (k : Nat) (l0 : List (S85)) : Option ((List (S83))) := if 0 <= (l0.length : Int) then (if ((l0.length : Int) : Int).toNat <= 17592186044416 then (laws_toCellS.l0 k l0 (List.replicate ((l0.length : Int) : Int).toNat z83) 0) else (none)) else (none)
theorem laws_toCellS.mono_l : ∀ k, (∀ y0 y1 y2, LeO (laws_toCellS.l0 k y0 y1 y2) (laws_toCellS.l0 (k + 1) y0 y1 y2))
 | 0 => fun _ _ _ r h => by simp [laws_toCellS.l0] at h
 | k + 1 => by
  have ih0 := laws_toCellS.mono_l k
  intros
  first | unfold laws_toCellS.l0
  exact LM1 ih0
theorem laws_toCellS.mono : ∀ a0 k, LeO (laws_toCellS.f k a0) (laws_toCellS.f (k + 1) a0) := by
 intro a0 k
 have ih0 := laws_toCellS.mono_l k
 unfold laws_toCellS.f
 exact LM1 ih0
theorem laws_toCellS.calls (k : Nat) (A0 : Option Addr) (c0 : Nat) (l0 : List (S85)) (r : List (S83)) (w : World) (hr0 : Kd.C k85 w A0 l0.length l0) (hc0 : l0.length <= c0) (h : laws_toCellS.f k l0 = some r) :
 Calls Try.prog 45 #[.slice A0 l0.length c0] w fun e w' => ∃ v0_ : Value, e = .returned (v0_) /\ Kd.R k83 83 w' w.heap.size (fun _ => True) v0_ r /\ Below w.heap.size w w' := by
 have hu85 := Try.underlying85
 have hu83 := Try.underlying83
 have HR0 := Aside0.mk hr0
 have HC0 := Aside0.mk hc0
 clear hr0 hc0
 have HB := Aside0.mk (Below.refl w.heap.size w)
 have H := h
 clear h
 unfold laws_toCellS.f at H
 replace H := ifP H; obtain ⟨c2, H⟩ := H
 have c2b0 := eq_true c2
 have c2b1 := decide_eq_true c2
 clear c2
 replace H := ifP H; obtain ⟨c3, H⟩ := H
 have c3b0 := eq_true c3
 have c3b1 := decide_eq_true c3
 clear c3
 generalize hy344 : ((List.replicate ((l0.length : Int) : Int).toNat z83) : List (S83)) = y344 at H
 have Ny344 := Aside0.mk hy344.symm; clear hy344
 have H' := Aside0.mk H
 clear H
 go_enter Try.func45, Try.ntmps45
 go_wp2_with (first | ((with_reducible refine gate_dst (N := 7) rfl ?_); refine R_make k83 _ 83 rfl (N := 7) rfl 28 _ _ rfl (l0.length : Int) rfl rfl Try.underlying28 (.agg #[(.int .i64 0), (.int .i64 0)]) 16 info83 rfl (by decide) (by omega) z83 (ok := fun _ => True) (okp := fun _ => True) (k83_mkM _ _ _ z83 ) (fun _ hk => hk) trivial (OD) (Nat.le_trans (Nat.mul_le_mul_right _ (OD : (l0.length : Int).toNat <= 17592186044416)) (by omega)) (Below.refl _ _) (Nat.le_refl _) ?_; intro v345 w4 ho5 hb hg_ hnew_; clear hg_ hnew_; (first | rw [<- Ny344.1] at ho5 | (simp only [Int.reduceToNat] at ho5; rw [<- Ny344.1] at ho5)); refine E2 (R_lower ho5 (bZ HB.1)) (bS HB.1 hb) ?_; clear HB; intro HO346 HB; clear hb ho5))
 go_loopg [4] k (fun kq v4 w' => ∃ (x3_1 : List (S83)) (x4_1 : Int), v4 = .int .i64 x4_1 /\ Aside0 (laws_toCellS.l0 kq l0 x3_1 x4_1 = some r) /\ Aside0 (kq <= k) /\ Aside0 (Kd.R k83 83 w' w.heap.size (fun _ => True) v345 x3_1) /\ Aside0 (Below w.heap.size w w'))
 case atStart => exact ⟨(y344), (0), RG, H', ⟨Nat.le_refl _⟩, ⟨PR HO346.1⟩, ⟨BL HB.1⟩⟩
 clear H'
 clear c2b0 c2b1 c3b0 c3b1
 obtain ⟨x3_1, x4_1, rfl, HA, HK1, HO_3, HB⟩ := hrel
 cases gk with
 | zero => exact absurd HA.1 (by simp [laws_toCellS.l0])
 | succ k1 => ?_
 have H := HA.1
 clear HA
 simp only [laws_toCellS.l0] at H
 replace H := ifB H; rcases H with ⟨c6b0, H⟩ | ⟨c6b0, H⟩
 · replace H := ifN H; obtain ⟨c7b0, H⟩ := H
   replace H := bindA H; obtain ⟨⟨t348, t349⟩, A8, H⟩ := H
   dsimp only at H
   replace H := ifN H; obtain ⟨c9b0, H⟩ := H
   generalize hy350 : ((x3_1.set (x4_1 : Int).toNat (⟨t348, t349⟩ : S83)) : List (S83)) = y350 at H
   have Ny350 := Aside0.mk hy350.symm; clear hy350
   have H' := Aside0.mk H
   clear H
   have p347 : 0 <= (x4_1 : Int) := OD
   have q347 : x4_1 < (l0.length : Int) := OD
   obtain ⟨ad347, e347, hx347_0, hx347_1⟩ := at_T85 HR0.1 x4_1 p347 q347
   cases e347
   replace hx347_0 := (HB.1.cell (World.block_lt_of_cell? w _ hx347_0)).trans hx347_0
   replace hx347_1 := (HB.1.cell (World.block_lt_of_cell? w _ hx347_1)).trans hx347_1
   replace p347 := eq_true p347
   replace q347 := eq_true q347
   go_wp2_with (first | ((with_reducible refine gate_callee (f := 72) rfl ?_); refine goesM (N := (some 20)) #[.agg #[.int .i64 ((rd_T85 l0 x4_1).f0), .int .i64 ((rd_T85 l0 x4_1).f1)]] Try.func72 ?_; (with_reducible refine (laws_toCell.calls ((rd_T85 l0 x4_1).f0) ((rd_T85 l0 x4_1).f1) t348 t349 _ A8.1).mono ?_); rintro e w11 ⟨rfl, hb⟩; refine ⟨_, rfl, ?_⟩; refine E2 (rB HO_3.1 hb) (bS HB.1 hb) ?_; clear HO_3 HB; intro HO_3 HB; (try clear hb); have p10 : 0 <= (x4_1 : Int) := OD; have q10 : (x4_1 : Int) < ((x3_1.length : Int) : Int) := OD; obtain ⟨go10, co10, eo10, gb10, gl10, cl10, HG10⟩ := R_form HO_3.1 (by omega); (first | cases eo10 | (injection eo10 with ea_ en_ ec_; (first | subst ea_ | (injection ea_ with ea_; subst ea_)); subst ec_; clear en_)); have GB10 := Aside0.mk gb10; have GG10 := Aside0.mk HG10; clear gb10 gl10 HG10; obtain ⟨ce10, hcl10, hM10, hcc10, hfr10⟩ := R_elem HO_3.1 z83 (x4_1 : Int) p10 q10; obtain rfl := k83_openM hM10; have hx10_0 : w11.cell? ⟨go10, (x4_1 : Int).toNat * 2, none⟩ = some (.int .i64 ((rd_T83 x3_1 x4_1).f0)) := hcc10 0 _ rfl; have hx10_1 : w11.cell? ⟨go10, (x4_1 : Int).toNat * 2 + 1, none⟩ = some (.int .i64 ((rd_T83 x3_1 x4_1).f1)) := hcc10 1 _ rfl; have hf10_0 : w11.frozen? ⟨go10, (x4_1 : Int).toNat * 2, none⟩ = false := hfr10 0; have hf10_1 : w11.frozen? ⟨go10, (x4_1 : Int).toNat * 2 + 1, none⟩ = false := hfr10 1; (try clear hM10); clear hcl10 hcc10 hfr10; replace p10 := eq_true p10; replace q10 := eq_true q10; have HX12 := Aside0.mk (show Kd.R k83 83 w11 w.heap.size (fun _ => True) (.slice (some ⟨go10, 0, none⟩) x3_1.length co10) x3_1 from (PR HO_3.1)); obtain ⟨ce12, hcl12, hM12, hcc12, hfr12⟩ := R_elem HX12.1 z83 (x4_1 : Int) (OD) (by have h_ : (x4_1 : Int) < ((x3_1.length : Int) : Int) := OD; first | exact h_ | (have e_ := (R_reads' HO_3.1).1; omega) | simpa using h_); obtain rfl := k83_openM hM12; have HP12 := R_seg HX12.1 (x4_1 : Int) (OD) (by have h_ : (x4_1 : Int) < ((x3_1.length : Int) : Int) := OD; first | exact h_ | (have e_ := (R_reads' HO_3.1).1; omega) | simpa using h_) (seg := [.int .i64 t348, .int .i64 t349]) (j := 0) hcl12 hcc12 (show 2 <= 2 from by decide) (x' := (⟨t348, t349⟩ : S83)) (k83_mkM _ _ _ (⟨t348, t349⟩ : S83) ) (fun _ hk => hk); have hx12_0 := hcc12 0 _ rfl; (try simp only [show (k83).sz = 2 from rfl, Nat.mul_one, Nat.add_zero] at hx12_0); have hf12_0 := hfr12 0; (try simp only [show (k83).sz = 2 from rfl, Nat.mul_one, Nat.add_zero] at hf12_0); have hx12_1 := hcc12 1 _ rfl; (try simp only [show (k83).sz = 2 from rfl, Nat.mul_one, Nat.add_zero] at hx12_1); have hf12_1 := hfr12 1; (try simp only [show (k83).sz = 2 from rfl, Nat.mul_one, Nat.add_zero] at hf12_1); clear hcl12 hcc12 hfr12) | ((with_reducible refine gate_store (t := 83) (p := 21) rfl ?_); refine storeE (t := 83) (p := 21) (w1 := ((w11.setCell ⟨go10, (x4_1 : Int).toNat * 2, none⟩ (.int .i64 t348)).setCell ⟨go10, (x4_1 : Int).toNat * 2 + 1, none⟩ (.int .i64 t349))) ?_; intro w13 hw; have hg : w11.grownBy w13 (some go10) := (by rw [hw]; exact HP12.2); have hp_ : Kd.R k83 83 w13 w.heap.size (fun _ => True) (.slice (some ⟨go10, 0, none⟩) x3_1.length co10) y350 := (by rw [hw, Ny350.1]; exact HP12.1); clear HP12; refine E2 (hp_) ((by rw [hw]; exact below_set (below_set (HB.1) GB10.1) GB10.1 : Below w.heap.size w w13)) ?_; clear HO_3 HB; intro HO_3 HB; clear hg hw hp_))
   go_roundg k1
   case measure => have := HK1.1; omega
   case rel => exact ⟨(y350), (wrap64 (x4_1 + 1)), RG, H', ⟨by have := HK1.1; omega⟩, ⟨PR HO_3.1⟩, ⟨BL HB.1⟩⟩
 obtain rfl := Option.some.inj H
 go_wp2
 go_ret
 exact ⟨_, RF, RPE (HO_3.1), BL HB.1⟩
def laws_toBoard.f (k : Nat) (a0_0 : Int) (a0_1 : Int) (l0_2 : List (S85)) : Option (Int × Int × (List (S83))) := (laws_toCellS.f k l0_2).bind fun t354 => (some (a0_0, a0_1, t354))
theorem laws_toBoard.mono : ∀ a0 a1 a2 k, LeO (laws_toBoard.f k a0 a1 a2) (laws_toBoard.f (k + 1) a0 a1 a2) := by
 intro a0 a1 a2 k
 unfold laws_toBoard.f
 repeat' first
  | (with_reducible exact laws_toCellS.mono _ _)
  | (with_reducible exact LeO.refl _)
  | (with_reducible exact LeO.none _)
  | (with_reducible refine LeO.ite ?_ ?_)
  | (with_reducible refine LeO.bind ?_ (fun _ => ?_))
  | exact laws_toCellS.mono _ _
  | exact LeO.none _
  | refine LeO.ite ?_ ?_
  | refine LeO.bind ?_ (fun _ => ?_)
theorem laws_toBoard.calls (k : Nat) (a0_0 : Int) (a0_1 : Int) (A0_2 : Option Addr) (c0_2 : Nat) (l0_2 : List (S85)) (r1 : Int) (r2 : Int) (r3 : List (S83)) (w : World) (hr0_2 : Kd.C k85 w A0_2 l0_2.length l0_2) (hc0_2 : l0_2.length <= c0_2) (h : laws_toBoard.f k a0_0 a0_1 l0_2 = some (r1, r2, r3)) :
 Calls Try.prog 15 #[.agg #[.int .i64 a0_0, .int .i64 a0_1, .slice A0_2 l0_2.length c0_2]] w fun e w' => ∃ v2_ : Value, e = .returned (.agg #[.int .i64 r1, .int .i64 r2, v2_]) /\ Kd.R k83 83 w' w.heap.size (fun _ => True) v2_ r3 /\ Below w.heap.size w w' := by
 have hu24 := Try.underlying24
 have hu30 := Try.underlying30
 have HR0_2 := Aside0.mk hr0_2
 have HC0_2 := Aside0.mk hc0_2
 clear hr0_2 hc0_2
 have HB := Aside0.mk (Below.refl w.heap.size w)
 have H := h
 clear h
 unfold laws_toBoard.f at H
 replace H := bindA H; obtain ⟨t354, A2, H⟩ := H
 simp only [Option.some.injEq, Prod.mk.injEq] at H
 obtain ⟨rfl, rfl, rfl⟩ := H
 go_enter Try.func15, Try.ntmps15
 go_wp2_with (first | ((with_reducible refine gate_dst (N := 1) rfl ?_); refine boxE (cs := #[.int .i64 a0_0, .int .i64 a0_1, .slice A0_2 l0_2.length c0_2]) (t := 24) ?_; intro gb351 hg w3 hbox hb; refine E4b HB.1 hg hbox hb ?_; clear HB; intro HB BK351 GW351 GE351; clear hb hbox hg) | ((with_reducible refine gate_dst (N := 2) rfl ?_); refine boxE (cs := #[.int .i64 0, .int .i64 0, .slice none 0 0]) (t := 30) ?_; intro gb352 hg w4 hbox hb; refine E7 (bB BK351.1 hb) (bS HB.1 hb) (hbox) (gX HB.1 hg) (gX HB.1 hg) (nB BK351.1 hg) (nC BK351.1 hg) ?_; clear BK351 HB; intro BK351 HB BK352 GW352 GE352 NB351_352 NB352_351; clear hb hbox hg) | ((with_reducible refine gate_dst (N := 3) rfl ?_); refine boxE (cs := #[.int .i64 0, .int .i64 0, .slice none 0 0]) (t := 30) ?_; intro gb353 hg w5 hbox hb; refine E10 (bB BK351.1 hb) (bB BK352.1 hb) (bS HB.1 hb) (hbox) (gX HB.1 hg) (gX HB.1 hg) (nB BK351.1 hg) (nC BK351.1 hg) (nB BK352.1 hg) (nC BK352.1 hg) ?_; clear BK351 BK352 HB; intro BK351 BK352 HB BK353 GW353 GE353 NB351_353 NB353_351 NB352_353 NB353_352; clear hb hbox hg; have hnb6 := NB351_352.1; have hnc6 := NB352_351.1; have hnb7 := NB351_353.1; have hnc7 := NB353_351.1; obtain ⟨hcz8_0, hcz8_1, hcz8_2, hfz8_0, hfz8_1, hfz8_2⟩ := cz3 BK351.1; have hnb9 := NB353_352.1; have hnc9 := NB352_353.1; obtain ⟨hcz10_0, hcz10_1, hcz10_2, hfz10_0, hfz10_1, hfz10_2⟩ := cz3 BK353.1) | ((with_reducible refine gate_callee (f := 45) rfl ?_); refine goesM (N := (some 12)) #[.slice A0_2 l0_2.length c0_2] Try.func45 ?_; (with_reducible refine (laws_toCellS.calls k _ _ l0_2 t354 _ ?side1 ?side2 A2.1).mono ?_); (case side1 => exact C_below HR0_2.1 (BL HB.1)); (case side2 => exact HC0_2.1); rintro e w11 ⟨v355, rfl, ho0, hb⟩; refine ⟨_, rfl, ?_⟩; refine E5 (R_lower ho0 (bZ HB.1)) (blk_below (g := gb351) (o := .cells #[.int .i64 a0_0, .int .i64 a0_1, .slice A0_2 l0_2.length c0_2] 24 (0, 0)) (PF1 NB351_353.1 BK351.1) hb) (blk_below (g := gb352) (o := .cells #[.int .i64 0, .int .i64 0, .slice none 0 0] 30 (0, 0)) (PF1 NB352_353.1 BK352.1) hb) (blk_below (g := gb353) (o := .cells #[.int .i64 a0_0, .int .i64 a0_1, .slice none 0 0] 30 (0, 0)) (PF0 BK353.1) hb) (bS HB.1 hb) ?_; clear BK351 BK352 BK353 HB; intro HO356 BK351 BK352 BK353 HB; (try clear hb); (try clear ho0); obtain ⟨Ao12, co12, eo12⟩ := R_slice HO356.1; subst eo12; obtain ⟨hcz13_0, hcz13_1, hcz13_2, hfz13_0, hfz13_1, hfz13_2⟩ := cz3 BK353.1; obtain ⟨hcz14_0, hcz14_1, hcz14_2, hfz14_0, hfz14_1, hfz14_2⟩ := cz3 BK352.1))
 refine bodyPost_ret (results_cell_row rfl _ _ gb352 30 #[.int .i64 a0_0, .int .i64 a0_1, .slice Ao12 t354.length co12] (0, 0) _ rfl (PF1 NB352_353.1 BK352.1) Try.underlying30 rfl (by kernel_rfl)) rfl ?_
 exact ⟨_, RF, by (with_reducible repeat (first | apply R_alloc | apply R_drewN | apply R_drew)); exact R_mono (RQ gb352 2 (RQ gb352 1 (RQ gb352 0 (R_far (p := ⟨gb353, 2, none⟩) (R_types (R_types HO356.1 BK353.1 (by decide)) BK352.1 (by decide)) (fun _ hk => hk.1.2) (.slice Ao12 t354.length co12)) _) _) _) (fun _ hk => trivial), BL HB.1⟩
def impl_isGeared.f (a0_0 : Int) (a0_1 : Int) : Option (Bool) := if a0_0 = 6 then (some true) else (some (a0_0 == 7))
theorem impl_isGeared.calls (a0_0 : Int) (a0_1 : Int) (r : Bool) (w : World) (h : impl_isGeared.f a0_0 a0_1 = some r) :
 Calls Try.prog 87 #[.agg #[.int .i64 a0_0, .int .i64 a0_1]] w fun e w' => e = .returned (.bool r) /\ Below w.heap.size w w' := by
 have hu83 := Try.underlying83
 have HB := Aside0.mk (Below.refl w.heap.size w)
 have H := h
 clear h
 unfold impl_isGeared.f at H
 replace H := ifQ H; rcases H with ⟨c2, H⟩ | ⟨c2, H⟩
 · have c2b0 := beq_iff_eq.mpr c2
   have c2b1 := bne_eq_false_iff_eq.mpr c2
   clear c2
   obtain rfl := Option.some.inj H
   go_enter Try.func87, Try.ntmps87
   go_wp2_with (first | ((with_reducible refine gate_dst (N := 1) rfl ?_); refine boxE (cs := #[.int .i64 a0_0, .int .i64 a0_1]) (t := 83) ?_; intro gb357 hg w3 hbox hb; refine E4b HB.1 hg hbox hb ?_; clear HB; intro HB BK357 GW357 GE357; clear hb hbox hg; obtain ⟨hcz4_0, hcz4_1, hfz4_0, hfz4_1⟩ := cz2 BK357.1))
   go_ret
   exact ⟨RF, BL HB.1⟩
 have c2b0 := beq_eq_false_iff_ne.mpr c2
 have c2b1 := bne_iff_ne.mpr c2
 obtain rfl := Option.some.inj H
 go_enter Try.func87, Try.ntmps87
 go_wp2_with (first | ((with_reducible refine gate_dst (N := 1) rfl ?_); refine boxE (cs := #[.int .i64 a0_0, .int .i64 a0_1]) (t := 83) ?_; intro gb357 hg w5 hbox hb; refine E4b HB.1 hg hbox hb ?_; clear HB; intro HB BK357 GW357 GE357; clear hb hbox hg; obtain ⟨hcz6_0, hcz6_1, hfz6_0, hfz6_1⟩ := cz2 BK357.1))
 go_ret
 exact ⟨RF, BL HB.1⟩
mutual
def impl_besideOf.j0 : Nat -> Int -> List Int -> Int -> Int -> Int -> Int -> List (S83) -> Option (List Int)
 | 0, _, _, _, _, _, _, _ => none
 | k + 1, x1, x5, x6, x7, x359000, x359001, x359002 => if x7 > 0 then (if x5.length < 17592186044416 then (impl_besideOf.j1 k x1 (x5 ++ [wrap64 (x1 - 1)]) x6 x7 x359000 x359001 x359002) else (none)) else (impl_besideOf.j1 k x1 x5 x6 x7 x359000 x359001 x359002)
def impl_besideOf.j1 : Nat -> Int -> List Int -> Int -> Int -> Int -> Int -> List (S83) -> Option (List Int)
 | 0, _, _, _, _, _, _, _ => none
 | k + 1, x1, x5, x6, x7, x359000, x359001, x359002 => if (wrap64 (x7 + 1)) < x359001 then (if x5.length < 17592186044416 then ((some (x5 ++ [wrap64 (x1 + 1)] : List Int)).bind fun y368 => (if (wrap64 (x6 + 1)) < x359000 then (if y368.length < 17592186044416 then (some (y368 ++ [wrap64 (x1 + x359001)])) else (none)) else (some y368))) else (none)) else (if (wrap64 (x6 + 1)) < x359000 then (if x5.length < 17592186044416 then (some (x5 ++ [wrap64 (x1 + x359001)])) else (none)) else (some x5))
end
def impl_besideOf.f (k : Nat) (a0_0 : Int) (a0_1 : Int) (l0_2 : List (S83)) (a1 : Int) : Option (List Int) := (some (([] : List Int) : List Int)).bind fun y359 => (if a0_1 = 0 then (none) else (if (wrap64 (Int.tdiv a1 a0_1)) > 0 then (if y359.length < 17592186044416 then (impl_besideOf.j0 k a1 (y359 ++ [wrap64 (a1 - a0_1)]) (wrap64 (Int.tdiv a1 a0_1)) (Int.tmod a1 a0_1) a0_0 a0_1 l0_2) else (none)) else (impl_besideOf.j0 k a1 y359 (wrap64 (Int.tdiv a1 a0_1)) (Int.tmod a1 a0_1) a0_0 a0_1 l0_2)))
theorem impl_besideOf.mono_l : ∀ k, (∀ y0 y1 y2 y3 y4 y5 y6, LeO (impl_besideOf.j0 k y0 y1 y2 y3 y4 y5 y6) (impl_besideOf.j0 (k + 1) y0 y1 y2 y3 y4 y5 y6)) /\ (∀ y0 y1 y2 y3 y4 y5 y6, LeO (impl_besideOf.j1 k y0 y1 y2 y3 y4 y5 y6) (impl_besideOf.j1 (k + 1) y0 y1 y2 y3 y4 y5 y6))
 | 0 => by refine ⟨?_, ?_⟩ <;> (intros; intro r h; first | (simp [impl_besideOf.j0] at h; done) | (simp [impl_besideOf.j1] at h; done))
 | k + 1 => by
  obtain ⟨ih0, ih1⟩ := impl_besideOf.mono_l k
  refine ⟨?_, ?_⟩ <;> (
   intros
   first | unfold impl_besideOf.j0 | unfold impl_besideOf.j1
   exact LM2 ih0 ih1)
theorem impl_besideOf.mono : ∀ a0 a1 a2 a3 k, LeO (impl_besideOf.f k a0 a1 a2 a3) (impl_besideOf.f (k + 1) a0 a1 a2 a3) := by
 intro a0 a1 a2 a3 k
 obtain ⟨ih0, ih1⟩ := impl_besideOf.mono_l k
 unfold impl_besideOf.f
 exact LM2 ih0 ih1
theorem impl_besideOf.calls (k : Nat) (a0_0 : Int) (a0_1 : Int) (A0_2 : Option Addr) (c0_2 : Nat) (l0_2 : List (S83)) (a1 : Int) (r : List Int) (w : World) (hr0_2 : Kd.C k83 w A0_2 l0_2.length l0_2) (hc0_2 : l0_2.length <= c0_2) (h : impl_besideOf.f k a0_0 a0_1 l0_2 a1 = some r) :
 Calls Try.prog 88 #[.agg #[.int .i64 a0_0, .int .i64 a0_1, .slice A0_2 l0_2.length c0_2], .int .i64 a1] w fun e w' => ∃ v0_ : Value, e = .returned (v0_) /\ Kd.R (Kd.int .i64) 3 w' w.heap.size (fun _ => True) v0_ r /\ Below w.heap.size w w' := by
 have hu30 := Try.underlying30
 have HR0_2 := Aside0.mk hr0_2
 have HC0_2 := Aside0.mk hc0_2
 clear hr0_2 hc0_2
 have HB := Aside0.mk (Below.refl w.heap.size w)
 have H := h
 clear h
 unfold impl_besideOf.f at H
 replace H := nameB H; obtain ⟨y359, Ny359, H⟩ := H
 replace H := ifQ H; rcases H with ⟨c3, H⟩ | ⟨c3, H⟩
 · exact absurd H (by simp)
 have c3b0 := beq_eq_false_iff_ne.mpr c3
 have c3b1 := bne_iff_ne.mpr c3
 have HC4 := Aside0.mk H
 clear H
 go_enter Try.func88, Try.ntmps88
 go_upto_if 18 with (first | ((with_reducible refine gate_dst (N := 2) rfl ?_); refine boxE (cs := #[.int .i64 a0_0, .int .i64 a0_1, .slice A0_2 l0_2.length c0_2]) (t := 30) ?_; intro gb358 hg w5 hbox hb; refine E4b HB.1 hg hbox hb ?_; clear HB; intro HB BK358 GW358 GE358; clear hb hbox hg) | ((with_reducible refine gate_dst (N := 8) rfl ?_); refine R_lit (Kd.int .i64) _ 3 ?hg (N := 8) ?hd (xs := ([] : List Int)) (inner := []) (ok := fun _ => True) (okp := fun _ => True) ?hr ?hp (fun _ hk => hk) trivial (Below.refl _ _) (Nat.le_refl _) (by simp) ?_; (case hd => rfl); (case hg => rfl); (case hr => first | (go_simp; done) | (go_simp; rfl)); (case hp => exact (Reps.none _ _)); intro v360 w6 ho7 hb hg_ hnew_; clear hg_ hnew_; (first | rw [<- Ny359.1] at ho7 | (simp only [Int.reduceToNat] at ho7; rw [<- Ny359.1] at ho7)); refine E3 (R_lower ho7 (bZ HB.1)) (bB BK358.1 hb) (bS HB.1 hb) ?_; clear BK358 HB; intro HO361 BK358 HB; clear hb ho7; obtain ⟨hcz8_0, hcz8_1, hcz8_2, hfz8_0, hfz8_1, hfz8_2⟩ := cz3 BK358.1))
 repeat (go_quiet (first | ((with_reducible refine gate_dst (N := 2) rfl ?_); refine boxE (cs := #[.int .i64 a0_0, .int .i64 a0_1, .slice A0_2 l0_2.length c0_2]) (t := 30) ?_; intro gb358 hg w5 hbox hb; refine E4b HB.1 hg hbox hb ?_; clear HB; intro HB BK358 GW358 GE358; clear hb hbox hg) | ((with_reducible refine gate_dst (N := 8) rfl ?_); refine R_lit (Kd.int .i64) _ 3 ?hg (N := 8) ?hd (xs := ([] : List Int)) (inner := []) (ok := fun _ => True) (okp := fun _ => True) ?hr ?hp (fun _ hk => hk) trivial (Below.refl _ _) (Nat.le_refl _) (by simp) ?_; (case hd => rfl); (case hg => rfl); (case hr => first | (go_simp; done) | (go_simp; rfl)); (case hp => exact (Reps.none _ _)); intro v360 w6 ho7 hb hg_ hnew_; clear hg_ hnew_; (first | rw [<- Ny359.1] at ho7 | (simp only [Int.reduceToNat] at ho7; rw [<- Ny359.1] at ho7)); refine E3 (R_lower ho7 (bZ HB.1)) (bB BK358.1 hb) (bS HB.1 hb) ?_; clear BK358 HB; intro HO361 BK358 HB; clear hb ho7; obtain ⟨hcz8_0, hcz8_1, hcz8_2, hfz8_0, hfz8_1, hfz8_2⟩ := cz3 BK358.1)); go_upto_if 18 with (first | ((with_reducible refine gate_dst (N := 2) rfl ?_); refine boxE (cs := #[.int .i64 a0_0, .int .i64 a0_1, .slice A0_2 l0_2.length c0_2]) (t := 30) ?_; intro gb358 hg w5 hbox hb; refine E4b HB.1 hg hbox hb ?_; clear HB; intro HB BK358 GW358 GE358; clear hb hbox hg) | ((with_reducible refine gate_dst (N := 8) rfl ?_); refine R_lit (Kd.int .i64) _ 3 ?hg (N := 8) ?hd (xs := ([] : List Int)) (inner := []) (ok := fun _ => True) (okp := fun _ => True) ?hr ?hp (fun _ hk => hk) trivial (Below.refl _ _) (Nat.le_refl _) (by simp) ?_; (case hd => rfl); (case hg => rfl); (case hr => first | (go_simp; done) | (go_simp; rfl)); (case hp => exact (Reps.none _ _)); intro v360 w6 ho7 hb hg_ hnew_; clear hg_ hnew_; (first | rw [<- Ny359.1] at ho7 | (simp only [Int.reduceToNat] at ho7; rw [<- Ny359.1] at ho7)); refine E3 (R_lower ho7 (bZ HB.1)) (bB BK358.1 hb) (bS HB.1 hb) ?_; clear BK358 HB; intro HO361 BK358 HB; clear hb ho7; obtain ⟨hcz8_0, hcz8_1, hcz8_2, hfz8_0, hfz8_1, hfz8_2⟩ := cz3 BK358.1)))
 (try simp only [Act.put, List.setIfInBounds_toArray, List.set_cons_zero, List.set_cons_succ])
 go_cut [5] (fun v5 wc => ∃ (kq : Nat) (x5_3 : List Int), Aside0 (impl_besideOf.j0 kq a1 x5_3 (wrap64 (Int.tdiv a1 a0_1)) (Int.tmod a1 a0_1) a0_0 a0_1 l0_2 = some r) /\ Aside0 (kq <= k) /\ Aside0 (Kd.R (Kd.int .i64) 3 wc w.heap.size (fun _ => True) v5 x5_3) /\ Aside0 (wc.heap[gb358]? = some (.cells #[.int .i64 a0_0, .int .i64 a0_1, (.slice A0_2 l0_2.length c0_2)] 30 (0, 0))) /\ Aside0 (Below w.heap.size w wc))
 case first =>
  have H := HC4.1
  clear HC4
  replace H := ifQ H; rcases H with ⟨c9, H⟩ | ⟨c9, H⟩
  · have c9b0 : decide (0 < (wrap64 (Int.tdiv a1 a0_1))) = true := decide_eq_true c9
    clear c9
    (first | rw [c9b0] | (simp only [i64_w, i32_w]; rw [c9b0]) | skip)
    replace H := ifP H; obtain ⟨c10, H⟩ := H
    have LMc10 := Aside0.mk c10
    clear c10
    generalize hy362 : ((y359 ++ [wrap64 (a1 - a0_1)]) : List Int) = y362 at H
    have Ny362 := Aside0.mk hy362.symm; clear hy362
    have H' := Aside0.mk H
    clear H
    obtain ⟨hcz11_0, hcz11_1, hcz11_2, hfz11_0, hfz11_1, hfz11_2⟩ := cz3 BK358.1
    go_wp2_with (first | ((with_reducible refine gate_builtin (b := .append) (xs := #[.tmp 19, .tmp 24]) rfl ?_); at_builtin; refine R_append (Kd.int .i64) (w0 := w) w.heap.size rfl (.tmp 19) (.tmp 24) 38 3 (.int .i64 0) 8 rfl Try.underlying38 info3 rfl (by decide) (by omega) v360 y359 (wrap64 (a1 - a0_1)) [.int .i64 (wrap64 (a1 - a0_1))] (fun _ => True) (fun _ => False) rfl rfl ?aP (fun _ hk => hk.elim) ?aF ?aO ?aB ?aS ?aL ?_; (case aP => exact rfl); (case aB => exact (BL HB.1)); (case aF => exact (fun _ _ => trivial)); (case aO => exact (PR HO361.1)); (case aS => exact (bZ HB.1)); (case aL => have := LMc10.1; omega); intro v363 w12 ho hb hg hat; rw [<- Ny362.1] at ho; refine E3 (bG BK358.1 hg (R_ne HO361.1 BK358.1 (by decide))) (hb) (ho) ?_; clear BK358 HB HO361; intro BK358 HB HO364; clear ho hb hg hat))
    repeat (go_quiet (first | ((with_reducible refine gate_builtin (b := .append) (xs := #[.tmp 19, .tmp 24]) rfl ?_); at_builtin; refine R_append (Kd.int .i64) (w0 := w) w.heap.size rfl (.tmp 19) (.tmp 24) 38 3 (.int .i64 0) 8 rfl Try.underlying38 info3 rfl (by decide) (by omega) v360 y359 (wrap64 (a1 - a0_1)) [.int .i64 (wrap64 (a1 - a0_1))] (fun _ => True) (fun _ => False) rfl rfl ?aP (fun _ hk => hk.elim) ?aF ?aO ?aB ?aS ?aL ?_; (case aP => exact rfl); (case aB => exact (BL HB.1)); (case aF => exact (fun _ _ => trivial)); (case aO => exact (PR HO361.1)); (case aS => exact (bZ HB.1)); (case aL => have := LMc10.1; omega); intro v363 w12 ho hb hg hat; rw [<- Ny362.1] at ho; refine E3 (bG BK358.1 hg (R_ne HO361.1 BK358.1 (by decide))) (hb) (ho) ?_; clear BK358 HB HO361; intro BK358 HB HO364; clear ho hb hg hat)); try go_wp2_with (first | ((with_reducible refine gate_builtin (b := .append) (xs := #[.tmp 19, .tmp 24]) rfl ?_); at_builtin; refine R_append (Kd.int .i64) (w0 := w) w.heap.size rfl (.tmp 19) (.tmp 24) 38 3 (.int .i64 0) 8 rfl Try.underlying38 info3 rfl (by decide) (by omega) v360 y359 (wrap64 (a1 - a0_1)) [.int .i64 (wrap64 (a1 - a0_1))] (fun _ => True) (fun _ => False) rfl rfl ?aP (fun _ hk => hk.elim) ?aF ?aO ?aB ?aS ?aL ?_; (case aP => exact rfl); (case aB => exact (BL HB.1)); (case aF => exact (fun _ _ => trivial)); (case aO => exact (PR HO361.1)); (case aS => exact (bZ HB.1)); (case aL => have := LMc10.1; omega); intro v363 w12 ho hb hg hat; rw [<- Ny362.1] at ho; refine E3 (bG BK358.1 hg (R_ne HO361.1 BK358.1 (by decide))) (hb) (ho) ?_; clear BK358 HB HO361; intro BK358 HB HO364; clear ho hb hg hat)))
    go_meet
    case rel => exact ⟨_, (y362), H', ⟨by first | omega | exact Nat.le_refl _⟩, ⟨PR HO364.1⟩, ⟨PB BK358.1⟩, ⟨BL HB.1⟩⟩
  have c9b0 : decide (0 < (wrap64 (Int.tdiv a1 a0_1))) = false := decide_eq_false c9
  clear c9
  (first | rw [c9b0] | (simp only [i64_w, i32_w]; rw [c9b0]) | skip)
  have H' := Aside0.mk H
  clear H
  go_wp2
  repeat (go_quiet (fail); try go_wp2)
  go_meet
  case rel => exact ⟨_, (y359), H', ⟨by first | omega | exact Nat.le_refl _⟩, ⟨PR HO361.1⟩, ⟨PB BK358.1⟩, ⟨BL HB.1⟩⟩
 clear HC4
 try clear c3; clear c3b0 c3b1 hcz8_0 hcz8_1 hcz8_2 hfz8_0 hfz8_1 hfz8_2
 obtain ⟨kq, x5_3, HA, HJ3, HO_5, BK358, HB⟩ := hcut
 cases kq with
 | zero => exact absurd HA.1 (by simp [impl_besideOf.j0])
 | succ kj3 => ?_
 have H := HA.1
 clear HA
 simp only [impl_besideOf.j0] at H
 have HC13 := Aside0.mk H
 clear H
 go_upto_if 27 with (fail)
 repeat (go_quiet (fail); go_upto_if 27 with (fail))
 go_cut [5] (fun v5 wc => ∃ (kq : Nat) (x5_12 : List Int), Aside0 (impl_besideOf.j1 kq a1 x5_12 (wrap64 (Int.tdiv a1 a0_1)) (Int.tmod a1 a0_1) a0_0 a0_1 l0_2 = some r) /\ Aside0 (kq <= kj3) /\ Aside0 (Kd.R (Kd.int .i64) 3 wc w.heap.size (fun _ => True) v5 x5_12) /\ Aside0 (wc.heap[gb358]? = some (.cells #[.int .i64 a0_0, .int .i64 a0_1, (.slice A0_2 l0_2.length c0_2)] 30 (0, 0))) /\ Aside0 (Below w.heap.size w wc))
 case first =>
  have H := HC13.1
  clear HC13
  replace H := ifQ H; rcases H with ⟨c14, H⟩ | ⟨c14, H⟩
  · have c14b0 : decide (0 < (Int.tmod a1 a0_1)) = true := decide_eq_true c14
    clear c14
    (first | rw [c14b0] | (simp only [i64_w, i32_w]; rw [c14b0]) | skip)
    replace H := ifP H; obtain ⟨c15, H⟩ := H
    have LMc15 := Aside0.mk c15
    clear c15
    generalize hy365 : ((x5_3 ++ [wrap64 (a1 - 1)]) : List Int) = y365 at H
    have Ny365 := Aside0.mk hy365.symm; clear hy365
    have H' := Aside0.mk H
    clear H
    go_wp2_with (first | ((with_reducible refine gate_builtin (b := .append) (xs := #[.tmp 28, .tmp 31]) rfl ?_); at_builtin; refine R_append (Kd.int .i64) (w0 := w) w.heap.size rfl (.tmp 28) (.tmp 31) 38 3 (.int .i64 0) 8 rfl Try.underlying38 info3 rfl (by decide) (by omega) u5 x5_3 (wrap64 (a1 - 1)) [.int .i64 (wrap64 (a1 - 1))] (fun _ => True) (fun _ => False) rfl rfl ?aP (fun _ hk => hk.elim) ?aF ?aO ?aB ?aS ?aL ?_; (case aP => exact rfl); (case aB => exact (BL HB.1)); (case aF => exact (fun _ _ => trivial)); (case aO => exact (PR HO_5.1)); (case aS => exact (bZ HB.1)); (case aL => have := LMc15.1; omega); intro v366 w16 ho hb hg hat; rw [<- Ny365.1] at ho; refine E3 (bG BK358.1 hg (R_ne HO_5.1 BK358.1 (by decide))) (hb) (ho) ?_; clear BK358 HB HO_5; intro BK358 HB HO367; clear ho hb hg hat))
    repeat (go_quiet (first | ((with_reducible refine gate_builtin (b := .append) (xs := #[.tmp 28, .tmp 31]) rfl ?_); at_builtin; refine R_append (Kd.int .i64) (w0 := w) w.heap.size rfl (.tmp 28) (.tmp 31) 38 3 (.int .i64 0) 8 rfl Try.underlying38 info3 rfl (by decide) (by omega) u5 x5_3 (wrap64 (a1 - 1)) [.int .i64 (wrap64 (a1 - 1))] (fun _ => True) (fun _ => False) rfl rfl ?aP (fun _ hk => hk.elim) ?aF ?aO ?aB ?aS ?aL ?_; (case aP => exact rfl); (case aB => exact (BL HB.1)); (case aF => exact (fun _ _ => trivial)); (case aO => exact (PR HO_5.1)); (case aS => exact (bZ HB.1)); (case aL => have := LMc15.1; omega); intro v366 w16 ho hb hg hat; rw [<- Ny365.1] at ho; refine E3 (bG BK358.1 hg (R_ne HO_5.1 BK358.1 (by decide))) (hb) (ho) ?_; clear BK358 HB HO_5; intro BK358 HB HO367; clear ho hb hg hat)); try go_wp2_with (first | ((with_reducible refine gate_builtin (b := .append) (xs := #[.tmp 28, .tmp 31]) rfl ?_); at_builtin; refine R_append (Kd.int .i64) (w0 := w) w.heap.size rfl (.tmp 28) (.tmp 31) 38 3 (.int .i64 0) 8 rfl Try.underlying38 info3 rfl (by decide) (by omega) u5 x5_3 (wrap64 (a1 - 1)) [.int .i64 (wrap64 (a1 - 1))] (fun _ => True) (fun _ => False) rfl rfl ?aP (fun _ hk => hk.elim) ?aF ?aO ?aB ?aS ?aL ?_; (case aP => exact rfl); (case aB => exact (BL HB.1)); (case aF => exact (fun _ _ => trivial)); (case aO => exact (PR HO_5.1)); (case aS => exact (bZ HB.1)); (case aL => have := LMc15.1; omega); intro v366 w16 ho hb hg hat; rw [<- Ny365.1] at ho; refine E3 (bG BK358.1 hg (R_ne HO_5.1 BK358.1 (by decide))) (hb) (ho) ?_; clear BK358 HB HO_5; intro BK358 HB HO367; clear ho hb hg hat)))
    go_meet
    case rel => exact ⟨_, (y365), H', ⟨by have := HJ3.1; first | omega | exact Nat.le_refl _⟩, ⟨PR HO367.1⟩, ⟨PB BK358.1⟩, ⟨BL HB.1⟩⟩
  have c14b0 : decide (0 < (Int.tmod a1 a0_1)) = false := decide_eq_false c14
  clear c14
  (first | rw [c14b0] | (simp only [i64_w, i32_w]; rw [c14b0]) | skip)
  have H' := Aside0.mk H
  clear H
  go_wp2
  repeat (go_quiet (fail); try go_wp2)
  go_meet
  case rel => exact ⟨_, (x5_3), H', ⟨by have := HJ3.1; first | omega | exact Nat.le_refl _⟩, ⟨PR HO_5.1⟩, ⟨PB BK358.1⟩, ⟨BL HB.1⟩⟩
 clear HC13
 obtain ⟨kq, x5_12, HA, HJ12, HO_5, BK358, HB⟩ := hcut
 cases kq with
 | zero => exact absurd HA.1 (by simp [impl_besideOf.j1])
 | succ kj12 => ?_
 have H := HA.1
 clear HA
 simp only [impl_besideOf.j1] at H
 replace H := ifB H; rcases H with ⟨c17b0, H⟩ | ⟨c17b0, H⟩
 · replace H := ifP H; obtain ⟨c18, H⟩ := H
   have LMc18 := Aside0.mk c18
   clear c18
   replace H := nameB H; obtain ⟨y368, Ny368, H⟩ := H
   replace H := ifB H; rcases H with ⟨c19b0, H⟩ | ⟨c19b0, H⟩
   · replace H := ifP H; obtain ⟨c20, H⟩ := H
     have LMc20 := Aside0.mk c20
     clear c20
     generalize hy371 : ((y368 ++ [wrap64 (a1 + a0_1)]) : List Int) = y371 at H
     have Ny371 := Aside0.mk hy371.symm; clear hy371
     obtain rfl := Option.some.inj H
     obtain ⟨hcz21_0, hcz21_1, hcz21_2, hfz21_0, hfz21_1, hfz21_2⟩ := cz3 BK358.1
     go_wp2_with (first | ((with_reducible refine gate_builtin (b := .append) (xs := #[.tmp 38, .tmp 41]) rfl ?_); at_builtin; refine R_append (Kd.int .i64) (w0 := w) w.heap.size rfl (.tmp 38) (.tmp 41) 38 3 (.int .i64 0) 8 rfl Try.underlying38 info3 rfl (by decide) (by omega) u5 x5_12 (wrap64 (a1 + 1)) [.int .i64 (wrap64 (a1 + 1))] (fun _ => True) (fun _ => False) rfl rfl ?aP (fun _ hk => hk.elim) ?aF ?aO ?aB ?aS ?aL ?_; (case aP => exact rfl); (case aB => exact (BL HB.1)); (case aF => exact (fun _ _ => trivial)); (case aO => exact (PR HO_5.1)); (case aS => exact (bZ HB.1)); (case aL => have := LMc18.1; omega); intro v369 w22 ho hb hg hat; rw [<- Ny368.1] at ho; refine E3 (bG BK358.1 hg (R_ne HO_5.1 BK358.1 (by decide))) (hb) (ho) ?_; clear BK358 HB HO_5; intro BK358 HB HO370; clear ho hb hg hat; obtain ⟨hcz23_0, hcz23_1, hcz23_2, hfz23_0, hfz23_1, hfz23_2⟩ := cz3 BK358.1) | ((with_reducible refine gate_builtin (b := .append) (xs := #[.tmp 48, .tmp 53]) rfl ?_); at_builtin; refine R_append (Kd.int .i64) (w0 := w) w.heap.size rfl (.tmp 48) (.tmp 53) 38 3 (.int .i64 0) 8 rfl Try.underlying38 info3 rfl (by decide) (by omega) v369 y368 (wrap64 (a1 + a0_1)) [.int .i64 (wrap64 (a1 + a0_1))] (fun _ => True) (fun _ => False) rfl rfl ?aP (fun _ hk => hk.elim) ?aF ?aO ?aB ?aS ?aL ?_; (case aP => exact rfl); (case aB => exact (BL HB.1)); (case aF => exact (fun _ _ => trivial)); (case aO => exact (PR HO370.1)); (case aS => exact (bZ HB.1)); (case aL => have := LMc20.1; omega); intro v372 w24 ho hb hg hat; rw [<- Ny371.1] at ho; refine E3 (bG BK358.1 hg (R_ne HO370.1 BK358.1 (by decide))) (hb) (ho) ?_; clear BK358 HB HO370; intro BK358 HB HO373; clear ho hb hg hat))
     repeat (go_quiet (first | ((with_reducible refine gate_builtin (b := .append) (xs := #[.tmp 38, .tmp 41]) rfl ?_); at_builtin; refine R_append (Kd.int .i64) (w0 := w) w.heap.size rfl (.tmp 38) (.tmp 41) 38 3 (.int .i64 0) 8 rfl Try.underlying38 info3 rfl (by decide) (by omega) u5 x5_12 (wrap64 (a1 + 1)) [.int .i64 (wrap64 (a1 + 1))] (fun _ => True) (fun _ => False) rfl rfl ?aP (fun _ hk => hk.elim) ?aF ?aO ?aB ?aS ?aL ?_; (case aP => exact rfl); (case aB => exact (BL HB.1)); (case aF => exact (fun _ _ => trivial)); (case aO => exact (PR HO_5.1)); (case aS => exact (bZ HB.1)); (case aL => have := LMc18.1; omega); intro v369 w22 ho hb hg hat; rw [<- Ny368.1] at ho; refine E3 (bG BK358.1 hg (R_ne HO_5.1 BK358.1 (by decide))) (hb) (ho) ?_; clear BK358 HB HO_5; intro BK358 HB HO370; clear ho hb hg hat; obtain ⟨hcz23_0, hcz23_1, hcz23_2, hfz23_0, hfz23_1, hfz23_2⟩ := cz3 BK358.1) | ((with_reducible refine gate_builtin (b := .append) (xs := #[.tmp 48, .tmp 53]) rfl ?_); at_builtin; refine R_append (Kd.int .i64) (w0 := w) w.heap.size rfl (.tmp 48) (.tmp 53) 38 3 (.int .i64 0) 8 rfl Try.underlying38 info3 rfl (by decide) (by omega) v369 y368 (wrap64 (a1 + a0_1)) [.int .i64 (wrap64 (a1 + a0_1))] (fun _ => True) (fun _ => False) rfl rfl ?aP (fun _ hk => hk.elim) ?aF ?aO ?aB ?aS ?aL ?_; (case aP => exact rfl); (case aB => exact (BL HB.1)); (case aF => exact (fun _ _ => trivial)); (case aO => exact (PR HO370.1)); (case aS => exact (bZ HB.1)); (case aL => have := LMc20.1; omega); intro v372 w24 ho hb hg hat; rw [<- Ny371.1] at ho; refine E3 (bG BK358.1 hg (R_ne HO370.1 BK358.1 (by decide))) (hb) (ho) ?_; clear BK358 HB HO370; intro BK358 HB HO373; clear ho hb hg hat)); try go_wp2_with (first | ((with_reducible refine gate_builtin (b := .append) (xs := #[.tmp 38, .tmp 41]) rfl ?_); at_builtin; refine R_append (Kd.int .i64) (w0 := w) w.heap.size rfl (.tmp 38) (.tmp 41) 38 3 (.int .i64 0) 8 rfl Try.underlying38 info3 rfl (by decide) (by omega) u5 x5_12 (wrap64 (a1 + 1)) [.int .i64 (wrap64 (a1 + 1))] (fun _ => True) (fun _ => False) rfl rfl ?aP (fun _ hk => hk.elim) ?aF ?aO ?aB ?aS ?aL ?_; (case aP => exact rfl); (case aB => exact (BL HB.1)); (case aF => exact (fun _ _ => trivial)); (case aO => exact (PR HO_5.1)); (case aS => exact (bZ HB.1)); (case aL => have := LMc18.1; omega); intro v369 w22 ho hb hg hat; rw [<- Ny368.1] at ho; refine E3 (bG BK358.1 hg (R_ne HO_5.1 BK358.1 (by decide))) (hb) (ho) ?_; clear BK358 HB HO_5; intro BK358 HB HO370; clear ho hb hg hat; obtain ⟨hcz23_0, hcz23_1, hcz23_2, hfz23_0, hfz23_1, hfz23_2⟩ := cz3 BK358.1) | ((with_reducible refine gate_builtin (b := .append) (xs := #[.tmp 48, .tmp 53]) rfl ?_); at_builtin; refine R_append (Kd.int .i64) (w0 := w) w.heap.size rfl (.tmp 48) (.tmp 53) 38 3 (.int .i64 0) 8 rfl Try.underlying38 info3 rfl (by decide) (by omega) v369 y368 (wrap64 (a1 + a0_1)) [.int .i64 (wrap64 (a1 + a0_1))] (fun _ => True) (fun _ => False) rfl rfl ?aP (fun _ hk => hk.elim) ?aF ?aO ?aB ?aS ?aL ?_; (case aP => exact rfl); (case aB => exact (BL HB.1)); (case aF => exact (fun _ _ => trivial)); (case aO => exact (PR HO370.1)); (case aS => exact (bZ HB.1)); (case aL => have := LMc20.1; omega); intro v372 w24 ho hb hg hat; rw [<- Ny371.1] at ho; refine E3 (bG BK358.1 hg (R_ne HO370.1 BK358.1 (by decide))) (hb) (ho) ?_; clear BK358 HB HO370; intro BK358 HB HO373; clear ho hb hg hat)))
     go_ret
     exact ⟨_, RF, RPE (HO373.1), BL HB.1⟩
   obtain rfl := Option.some.inj H
   obtain ⟨hcz25_0, hcz25_1, hcz25_2, hfz25_0, hfz25_1, hfz25_2⟩ := cz3 BK358.1
   go_wp2_with (first | ((with_reducible refine gate_builtin (b := .append) (xs := #[.tmp 38, .tmp 41]) rfl ?_); at_builtin; refine R_append (Kd.int .i64) (w0 := w) w.heap.size rfl (.tmp 38) (.tmp 41) 38 3 (.int .i64 0) 8 rfl Try.underlying38 info3 rfl (by decide) (by omega) u5 x5_12 (wrap64 (a1 + 1)) [.int .i64 (wrap64 (a1 + 1))] (fun _ => True) (fun _ => False) rfl rfl ?aP (fun _ hk => hk.elim) ?aF ?aO ?aB ?aS ?aL ?_; (case aP => exact rfl); (case aB => exact (BL HB.1)); (case aF => exact (fun _ _ => trivial)); (case aO => exact (PR HO_5.1)); (case aS => exact (bZ HB.1)); (case aL => have := LMc18.1; omega); intro v369 w26 ho hb hg hat; rw [<- Ny368.1] at ho; refine E3 (bG BK358.1 hg (R_ne HO_5.1 BK358.1 (by decide))) (hb) (ho) ?_; clear BK358 HB HO_5; intro BK358 HB HO370; clear ho hb hg hat; obtain ⟨hcz27_0, hcz27_1, hcz27_2, hfz27_0, hfz27_1, hfz27_2⟩ := cz3 BK358.1))
   repeat (go_quiet (first | ((with_reducible refine gate_builtin (b := .append) (xs := #[.tmp 38, .tmp 41]) rfl ?_); at_builtin; refine R_append (Kd.int .i64) (w0 := w) w.heap.size rfl (.tmp 38) (.tmp 41) 38 3 (.int .i64 0) 8 rfl Try.underlying38 info3 rfl (by decide) (by omega) u5 x5_12 (wrap64 (a1 + 1)) [.int .i64 (wrap64 (a1 + 1))] (fun _ => True) (fun _ => False) rfl rfl ?aP (fun _ hk => hk.elim) ?aF ?aO ?aB ?aS ?aL ?_; (case aP => exact rfl); (case aB => exact (BL HB.1)); (case aF => exact (fun _ _ => trivial)); (case aO => exact (PR HO_5.1)); (case aS => exact (bZ HB.1)); (case aL => have := LMc18.1; omega); intro v369 w26 ho hb hg hat; rw [<- Ny368.1] at ho; refine E3 (bG BK358.1 hg (R_ne HO_5.1 BK358.1 (by decide))) (hb) (ho) ?_; clear BK358 HB HO_5; intro BK358 HB HO370; clear ho hb hg hat; obtain ⟨hcz27_0, hcz27_1, hcz27_2, hfz27_0, hfz27_1, hfz27_2⟩ := cz3 BK358.1)); try go_wp2_with (first | ((with_reducible refine gate_builtin (b := .append) (xs := #[.tmp 38, .tmp 41]) rfl ?_); at_builtin; refine R_append (Kd.int .i64) (w0 := w) w.heap.size rfl (.tmp 38) (.tmp 41) 38 3 (.int .i64 0) 8 rfl Try.underlying38 info3 rfl (by decide) (by omega) u5 x5_12 (wrap64 (a1 + 1)) [.int .i64 (wrap64 (a1 + 1))] (fun _ => True) (fun _ => False) rfl rfl ?aP (fun _ hk => hk.elim) ?aF ?aO ?aB ?aS ?aL ?_; (case aP => exact rfl); (case aB => exact (BL HB.1)); (case aF => exact (fun _ _ => trivial)); (case aO => exact (PR HO_5.1)); (case aS => exact (bZ HB.1)); (case aL => have := LMc18.1; omega); intro v369 w26 ho hb hg hat; rw [<- Ny368.1] at ho; refine E3 (bG BK358.1 hg (R_ne HO_5.1 BK358.1 (by decide))) (hb) (ho) ?_; clear BK358 HB HO_5; intro BK358 HB HO370; clear ho hb hg hat; obtain ⟨hcz27_0, hcz27_1, hcz27_2, hfz27_0, hfz27_1, hfz27_2⟩ := cz3 BK358.1)))
   go_ret
   exact ⟨_, RF, RPE (HO370.1), BL HB.1⟩
 replace H := ifB H; rcases H with ⟨c28b0, H⟩ | ⟨c28b0, H⟩
 · replace H := ifP H; obtain ⟨c29, H⟩ := H
   have LMc29 := Aside0.mk c29
   clear c29
   generalize hy374 : ((x5_12 ++ [wrap64 (a1 + a0_1)]) : List Int) = y374 at H
   have Ny374 := Aside0.mk hy374.symm; clear hy374
   obtain rfl := Option.some.inj H
   obtain ⟨hcz30_0, hcz30_1, hcz30_2, hfz30_0, hfz30_1, hfz30_2⟩ := cz3 BK358.1
   go_wp2_with (first | ((with_reducible refine gate_builtin (b := .append) (xs := #[.tmp 48, .tmp 53]) rfl ?_); at_builtin; refine R_append (Kd.int .i64) (w0 := w) w.heap.size rfl (.tmp 48) (.tmp 53) 38 3 (.int .i64 0) 8 rfl Try.underlying38 info3 rfl (by decide) (by omega) u5 x5_12 (wrap64 (a1 + a0_1)) [.int .i64 (wrap64 (a1 + a0_1))] (fun _ => True) (fun _ => False) rfl rfl ?aP (fun _ hk => hk.elim) ?aF ?aO ?aB ?aS ?aL ?_; (case aP => exact rfl); (case aB => exact (BL HB.1)); (case aF => exact (fun _ _ => trivial)); (case aO => exact (PR HO_5.1)); (case aS => exact (bZ HB.1)); (case aL => have := LMc29.1; omega); intro v375 w31 ho hb hg hat; rw [<- Ny374.1] at ho; refine E3 (bG BK358.1 hg (R_ne HO_5.1 BK358.1 (by decide))) (hb) (ho) ?_; clear BK358 HB HO_5; intro BK358 HB HO376; clear ho hb hg hat))
   repeat (go_quiet (first | ((with_reducible refine gate_builtin (b := .append) (xs := #[.tmp 48, .tmp 53]) rfl ?_); at_builtin; refine R_append (Kd.int .i64) (w0 := w) w.heap.size rfl (.tmp 48) (.tmp 53) 38 3 (.int .i64 0) 8 rfl Try.underlying38 info3 rfl (by decide) (by omega) u5 x5_12 (wrap64 (a1 + a0_1)) [.int .i64 (wrap64 (a1 + a0_1))] (fun _ => True) (fun _ => False) rfl rfl ?aP (fun _ hk => hk.elim) ?aF ?aO ?aB ?aS ?aL ?_; (case aP => exact rfl); (case aB => exact (BL HB.1)); (case aF => exact (fun _ _ => trivial)); (case aO => exact (PR HO_5.1)); (case aS => exact (bZ HB.1)); (case aL => have := LMc29.1; omega); intro v375 w31 ho hb hg hat; rw [<- Ny374.1] at ho; refine E3 (bG BK358.1 hg (R_ne HO_5.1 BK358.1 (by decide))) (hb) (ho) ?_; clear BK358 HB HO_5; intro BK358 HB HO376; clear ho hb hg hat)); try go_wp2_with (first | ((with_reducible refine gate_builtin (b := .append) (xs := #[.tmp 48, .tmp 53]) rfl ?_); at_builtin; refine R_append (Kd.int .i64) (w0 := w) w.heap.size rfl (.tmp 48) (.tmp 53) 38 3 (.int .i64 0) 8 rfl Try.underlying38 info3 rfl (by decide) (by omega) u5 x5_12 (wrap64 (a1 + a0_1)) [.int .i64 (wrap64 (a1 + a0_1))] (fun _ => True) (fun _ => False) rfl rfl ?aP (fun _ hk => hk.elim) ?aF ?aO ?aB ?aS ?aL ?_; (case aP => exact rfl); (case aB => exact (BL HB.1)); (case aF => exact (fun _ _ => trivial)); (case aO => exact (PR HO_5.1)); (case aS => exact (bZ HB.1)); (case aL => have := LMc29.1; omega); intro v375 w31 ho hb hg hat; rw [<- Ny374.1] at ho; refine E3 (bG BK358.1 hg (R_ne HO_5.1 BK358.1 (by decide))) (hb) (ho) ?_; clear BK358 HB HO_5; intro BK358 HB HO376; clear ho hb hg hat)))
   go_ret
   exact ⟨_, RF, RPE (HO376.1), BL HB.1⟩
 obtain rfl := Option.some.inj H
 obtain ⟨hcz32_0, hcz32_1, hcz32_2, hfz32_0, hfz32_1, hfz32_2⟩ := cz3 BK358.1
 go_wp2
 repeat (go_quiet (fail); try go_wp2)
 go_ret
 exact ⟨_, RF, RPE (HO_5.1), BL HB.1⟩
mutual
def impl_groupNumbers.l0 : Nat -> List Int -> Int -> Int -> Int -> Int -> List (S83) -> Option (List Int)
 | 0, _, _, _, _, _, _ => none
 | k + 1, x3, x17, x18, x378000, x378001, x378002 => if x18 < x17 then (if 0 <= x18 then (if x18 < (x3.length : Int) then (impl_groupNumbers.l0 k (x3.set (x18 : Int).toNat (-1)) x17 (wrap64 (x18 + 1)) x378000 x378001 x378002) else (none)) else (none)) else (impl_groupNumbers.l1 k x3 0 x378002 (x378002.length : Int) 0 x378000 x378001 x378002)
def impl_groupNumbers.l1 : Nat -> List Int -> Int -> List (S83) -> Int -> Int -> Int -> Int -> List (S83) -> Option (List Int)
 | 0, _, _, _, _, _, _, _, _ => none
 | k + 1, x3, x5, x26, x27, x28, x378000, x378001, x378002 => if x28 < x27 then (if 0 <= x28 then (if x28 < (x26.length : Int) then ((impl_isGeared.f ((rd_T83 x26 x28).f0) ((rd_T83 x26 x28).f1)).bind fun t384 => (if t384 = true then (if x28 < (x3.length : Int) then (impl_groupNumbers.j2 k x3 x5 x28 x26 x27 x28 (decide ((rd x3 x28) ≥ 0)) x378000 x378001 x378002) else (none)) else (impl_groupNumbers.j2 k x3 x5 x28 x26 x27 x28 true x378000 x378001 x378002))) else (none)) else (none)) else (some x3)
def impl_groupNumbers.j2 : Nat -> List Int -> Int -> Int -> List (S83) -> Int -> Int -> Bool -> Int -> Int -> List (S83) -> Option (List Int)
 | 0, _, _, _, _, _, _, _, _, _, _ => none
 | k + 1, x3, x5, x6, x26, x27, x28, x42, x378000, x378001, x378002 => if x42 = true then (impl_groupNumbers.l1 k x3 x5 x26 x27 (wrap64 (x28 + 1)) x378000 x378001 x378002) else (if 0 <= x6 then (if x6 < (x3.length : Int) then (impl_groupNumbers.l2 k (x3.set (x6 : Int).toNat x5) x5 (([x6] : List Int)) x26 x27 x28 x378000 x378001 x378002) else (none)) else (none))
def impl_groupNumbers.l2 : Nat -> List Int -> Int -> List Int -> List (S83) -> Int -> Int -> Int -> Int -> List (S83) -> Option (List Int)
 | 0, _, _, _, _, _, _, _, _, _ => none
 | k + 1, x3, x5, x8, x26, x27, x28, x378000, x378001, x378002 => if (x8.length : Int) > 0 then (if 0 < (x8.length : Int) then (if 1 <= (x8.length : Int) then ((impl_besideOf.f k x378000 x378001 x378002 (rd x8 0)).bind fun t394 => (impl_groupNumbers.l3 k x3 x5 (x8.drop (1 : Int).toNat) x26 x27 x28 t394 (t394.length : Int) 0 x378000 x378001 x378002)) else (none)) else (none)) else (impl_groupNumbers.l1 k x3 (wrap64 (x5 + 1)) x26 x27 (wrap64 (x28 + 1)) x378000 x378001 x378002)
def impl_groupNumbers.l3 : Nat -> List Int -> Int -> List Int -> List (S83) -> Int -> Int -> List Int -> Int -> Int -> Int -> Int -> List (S83) -> Option (List Int)
 | 0, _, _, _, _, _, _, _, _, _, _, _, _ => none
 | k + 1, x3, x5, x8, x26, x27, x28, x59, x60, x61, x378000, x378001, x378002 => if x61 < x60 then (if 0 <= x61 then (if x61 < (x59.length : Int) then (if 0 <= (rd x59 x61) then (if (rd x59 x61) < (x378002.length : Int) then ((impl_isGeared.f ((rd_T83 x378002 (rd x59 x61)).f0) ((rd_T83 x378002 (rd x59 x61)).f1)).bind fun t399 => (if t399 = true then (if (rd x59 x61) < (x3.length : Int) then (if (rd x3 (rd x59 x61)) < 0 then (if x8.length < 17592186044416 then (impl_groupNumbers.l3 k (x3.set ((rd x59 x61) : Int).toNat x5) x5 (x8 ++ [rd x59 x61]) x26 x27 x28 x59 x60 (wrap64 (x61 + 1)) x378000 x378001 x378002) else (none)) else (impl_groupNumbers.l3 k x3 x5 x8 x26 x27 x28 x59 x60 (wrap64 (x61 + 1)) x378000 x378001 x378002)) else (none)) else (impl_groupNumbers.l3 k x3 x5 x8 x26 x27 x28 x59 x60 (wrap64 (x61 + 1)) x378000 x378001 x378002))) else (none)) else (none)) else (none)) else (none)) else (impl_groupNumbers.l2 k x3 x5 x8 x26 x27 x28 x378000 x378001 x378002)
end
def impl_groupNumbers.f (k : Nat) (a0_0 : Int) (a0_1 : Int) (l0_2 : List (S83)) : Option (List Int) := if 0 <= (l0_2.length : Int) then (if ((l0_2.length : Int) : Int).toNat <= 35184372088832 then ((some (List.replicate ((l0_2.length : Int) : Int).toNat 0 : List Int)).bind fun y378 => (impl_groupNumbers.l0 k y378 (y378.length : Int) 0 a0_0 a0_1 l0_2)) else (none)) else (none)
theorem impl_groupNumbers.mono_l : ∀ k, (∀ y0 y1 y2 y3 y4 y5, LeO (impl_groupNumbers.l0 k y0 y1 y2 y3 y4 y5) (impl_groupNumbers.l0 (k + 1) y0 y1 y2 y3 y4 y5)) /\ (∀ y0 y1 y2 y3 y4 y5 y6 y7, LeO (impl_groupNumbers.l1 k y0 y1 y2 y3 y4 y5 y6 y7) (impl_groupNumbers.l1 (k + 1) y0 y1 y2 y3 y4 y5 y6 y7)) /\ (∀ y0 y1 y2 y3 y4 y5 y6 y7 y8 y9, LeO (impl_groupNumbers.j2 k y0 y1 y2 y3 y4 y5 y6 y7 y8 y9) (impl_groupNumbers.j2 (k + 1) y0 y1 y2 y3 y4 y5 y6 y7 y8 y9)) /\ (∀ y0 y1 y2 y3 y4 y5 y6 y7 y8, LeO (impl_groupNumbers.l2 k y0 y1 y2 y3 y4 y5 y6 y7 y8) (impl_groupNumbers.l2 (k + 1) y0 y1 y2 y3 y4 y5 y6 y7 y8)) /\ (∀ y0 y1 y2 y3 y4 y5 y6 y7 y8 y9 y10 y11, LeO (impl_groupNumbers.l3 k y0 y1 y2 y3 y4 y5 y6 y7 y8 y9 y10 y11) (impl_groupNumbers.l3 (k + 1) y0 y1 y2 y3 y4 y5 y6 y7 y8 y9 y10 y11))
 | 0 => by refine ⟨?_, ?_, ?_, ?_, ?_⟩ <;> (intros; intro r h; first | (simp [impl_groupNumbers.l0] at h; done) | (simp [impl_groupNumbers.l1] at h; done) | (simp [impl_groupNumbers.j2] at h; done) | (simp [impl_groupNumbers.l2] at h; done) | (simp [impl_groupNumbers.l3] at h; done))
 | k + 1 => by
  obtain ⟨ih0, ih1, ih2, ih3, ih4⟩ := impl_groupNumbers.mono_l k
  refine ⟨?_, ?_, ?_, ?_, ?_⟩ <;> (
   intros
   first | unfold impl_groupNumbers.l0 | unfold impl_groupNumbers.l1 | unfold impl_groupNumbers.j2 | unfold impl_groupNumbers.l2 | unfold impl_groupNumbers.l3
   exact LM6 ih0 ih1 ih2 ih3 ih4 impl_besideOf.mono)
theorem impl_groupNumbers.mono : ∀ a0 a1 a2 k, LeO (impl_groupNumbers.f k a0 a1 a2) (impl_groupNumbers.f (k + 1) a0 a1 a2) := by
 intro a0 a1 a2 k
 obtain ⟨ih0, ih1, ih2, ih3, ih4⟩ := impl_groupNumbers.mono_l k
 unfold impl_groupNumbers.f
 exact LM6 ih0 ih1 ih2 ih3 ih4 impl_besideOf.mono
theorem impl_groupNumbers.calls (k : Nat) (a0_0 : Int) (a0_1 : Int) (A0_2 : Option Addr) (c0_2 : Nat) (l0_2 : List (S83)) (r : List Int) (w : World) (hr0_2 : Kd.C k83 w A0_2 l0_2.length l0_2) (hc0_2 : l0_2.length <= c0_2) (h : impl_groupNumbers.f k a0_0 a0_1 l0_2 = some r) :
 Calls Try.prog 74 #[.agg #[.int .i64 a0_0, .int .i64 a0_1, .slice A0_2 l0_2.length c0_2]] w fun e w' => ∃ v0_ : Value, e = .returned (v0_) /\ Kd.R (Kd.int .i64) 3 w' w.heap.size (fun _ => True) v0_ r /\ Below w.heap.size w w' := by
 have hu30 := Try.underlying30
 have hu83 := Try.underlying83
 have HR0_2 := Aside0.mk hr0_2
 have HC0_2 := Aside0.mk hc0_2
 clear hr0_2 hc0_2
 have HB := Aside0.mk (Below.refl w.heap.size w)
 have H := h
 clear h
 unfold impl_groupNumbers.f at H
 replace H := ifP H; obtain ⟨c2, H⟩ := H
 have c2b0 := eq_true c2
 have c2b1 := decide_eq_true c2
 clear c2
 replace H := ifP H; obtain ⟨c3, H⟩ := H
 have c3b0 := eq_true c3
 have c3b1 := decide_eq_true c3
 clear c3
 replace H := nameB H; obtain ⟨y378, Ny378, H⟩ := H
 have H' := Aside0.mk H
 clear H
 go_enter Try.func74, Try.ntmps74
 go_wp2_with (first | ((with_reducible refine gate_dst (N := 1) rfl ?_); refine boxE (cs := #[.int .i64 a0_0, .int .i64 a0_1, .slice A0_2 l0_2.length c0_2]) (t := 30) ?_; intro gb377 hg w4 hbox hb; refine E4b HB.1 hg hbox hb ?_; clear HB; intro HB BK377 GW377 GE377; clear hb hbox hg; obtain ⟨hcz5_0, hcz5_1, hcz5_2, hfz5_0, hfz5_1, hfz5_2⟩ := cz3 BK377.1) | ((with_reducible refine gate_dst (N := 15) rfl ?_); refine R_make (Kd.int .i64) _ 3 rfl (N := 15) rfl 38 _ _ rfl (l0_2.length : Int) rfl rfl Try.underlying38 (.int .i64 0) 8 info3 rfl (by decide) (by omega) 0 (ok := fun _ => True) (okp := fun _ => True) rfl (fun _ hk => hk) trivial (OD) (Nat.le_trans (Nat.mul_le_mul_right _ (OD : (l0_2.length : Int).toNat <= 35184372088832)) (by omega)) (Below.refl _ _) (Nat.le_refl _) ?_; intro v379 w6 ho7 hb hg_ hnew_; clear hg_ hnew_; (first | rw [<- Ny378.1] at ho7 | (simp only [Int.reduceToNat] at ho7; rw [<- Ny378.1] at ho7)); refine E3 (R_lower ho7 (bZ HB.1)) (bB BK377.1 hb) (bS HB.1 hb) ?_; clear BK377 HB; intro HO380 BK377 HB; clear hb ho7; obtain ⟨Ao8, co8, eo8⟩ := R_slice HO380.1; subst eo8))
 go_loopg [18] k (fun kq v18 w' => ∃ (x3_1 : List Int) (x18_1 : Int), v18 = .int .i64 x18_1 /\ Aside0 (impl_groupNumbers.l0 kq x3_1 (y378.length : Int) x18_1 a0_0 a0_1 l0_2 = some r) /\ Aside0 (kq <= k) /\ Aside0 (Kd.R (Kd.int .i64) 3 w' w.heap.size (fun _ => True) (.slice Ao8 y378.length co8) x3_1) /\ Aside0 (w'.heap[gb377]? = some (.cells #[.int .i64 a0_0, .int .i64 a0_1, (.slice A0_2 l0_2.length c0_2)] 30 (0, 0))) /\ Aside0 (Below w.heap.size w w'))
 case atStart => exact ⟨(y378), (0), RG, H', ⟨Nat.le_refl _⟩, ⟨PR HO380.1⟩, ⟨PB BK377.1⟩, ⟨BL HB.1⟩⟩
 clear H'
 clear c2b0 c2b1 c3b0 c3b1 hcz5_0 hcz5_1 hcz5_2 hfz5_0 hfz5_1 hfz5_2
 obtain ⟨x3_1, x18_1, rfl, HA, HK1, HO_3, BK377, HB⟩ := hrel
 have hl3_1 := (R_reads' HO_3.1).1
 rw [hl3_1] at HO_3
 (try simp only [hl3_1])
 (try simp only [hl3_1] at BK377)
 cases gk with
 | zero => exact absurd HA.1 (by simp [impl_groupNumbers.l0])
 | succ k1 => ?_
 have H := HA.1
 clear HA
 simp only [impl_groupNumbers.l0] at H
 replace H := ifB H; rcases H with ⟨c9b0, H⟩ | ⟨c9b0, H⟩
 · replace H := ifN H; obtain ⟨c10b0, H⟩ := H
   replace H := ifN H; obtain ⟨c11b0, H⟩ := H
   generalize hy381 : ((x3_1.set (x18_1 : Int).toNat (-1)) : List Int) = y381 at H
   have Ny381 := Aside0.mk hy381.symm; clear hy381
   have H' := Aside0.mk H
   clear H
   have p12 : 0 <= (x18_1 : Int) := OD
   have q12 : (x18_1 : Int) < ((x3_1.length : Int) : Int) := OD
   obtain ⟨go12, co12, eo12, gb12, gl12, cl12, HG12⟩ := R_form HO_3.1 (by omega)
   (first | cases eo12 | (injection eo12 with ea_ en_ ec_; (first | subst ea_ | (injection ea_ with ea_; subst ea_)); subst ec_; clear en_))
   have GB12 := Aside0.mk gb12
   have GG12 := Aside0.mk HG12
   clear gb12 gl12 HG12
   obtain ⟨hx12_0, hf12_0⟩ := R_celln 0 HO_3.1 (x18_1 : Int) p12 q12
   replace p12 := eq_true p12
   replace q12 := eq_true q12
   have HP13 := R_putg HO_3.1 (x18_1 : Int) (-1)
   go_wp2_with (first | ((with_reducible refine gate_store (t := 3) (p := 23) rfl ?_); refine storeE (t := 3) (p := 23) (w1 := (wr.setCell ⟨go12, (x18_1 : Int).toNat, none⟩ (.int .i64 (-1)))) ?_; intro w14 hw; have hg : wr.grownBy w14 (some go12) := (by rw [hw]; exact HP13.2); have hp_ : Kd.R (Kd.int .i64) 3 w14 w.heap.size (fun _ => True) (.slice (some ⟨go12, 0, none⟩) x3_1.length co8) y381 := (by rw [hw, Ny381.1]; exact HP13.1); clear HP13; refine E3 (hp_) (bG BK377.1 hg (R_ne HO_3.1 BK377.1 (by decide))) ((by rw [hw]; exact below_set (HB.1) GB12.1 : Below w.heap.size w w14)) ?_; clear HO_3 BK377 HB; intro HO_3 BK377 HB; clear hg hw hp_))
   (try simp only [<- hl3_1])
   go_roundg k1
   case measure => have := HK1.1; omega
   case rel => exact ⟨(y381), (wrap64 (x18_1 + 1)), RG, H', ⟨by have := HK1.1; omega⟩, ⟨PR1 HO_3.1 hl3_1⟩, ⟨PB1 BK377.1 hl3_1⟩, ⟨BL HB.1⟩⟩
 (try simp only [hl3_1] at c9b0)
 have H' := Aside0.mk H
 clear H
 obtain ⟨hcz15_0, hcz15_1, hcz15_2, hfz15_0, hfz15_1, hfz15_2⟩ := cz3 BK377.1
 go_wp2
 go_loopg [5, 28] k1 (fun kq v5 v28 w' => ∃ (x3_2 : List Int) (x5_2 : Int) (x28_2 : Int), v5 = .int .i64 x5_2 /\ v28 = .int .i64 x28_2 /\ Aside0 (impl_groupNumbers.l1 kq x3_2 x5_2 l0_2 (l0_2.length : Int) x28_2 a0_0 a0_1 l0_2 = some r) /\ Aside0 (kq <= k1) /\ Aside0 (Kd.R (Kd.int .i64) 3 w' w.heap.size (fun _ => True) (.slice Ao8 x3_1.length co8) x3_2) /\ Aside0 (w'.heap[gb377]? = some (.cells #[.int .i64 a0_0, .int .i64 a0_1, (.slice A0_2 l0_2.length c0_2)] 30 (0, 0))) /\ Aside0 (Below w.heap.size w w'))
 case atStart => exact ⟨(x3_1), (0), (0), RG, RG, H', ⟨Nat.le_refl _⟩, ⟨PR1 HO_3.1 hl3_1⟩, ⟨PB1 BK377.1 hl3_1⟩, ⟨BL HB.1⟩⟩
 clear H'
 clear c9b0 hcz15_0 hcz15_1 hcz15_2 hfz15_0 hfz15_1 hfz15_2
 obtain ⟨x3_2, x5_2, x28_2, rfl, rfl, HA, HK2, HO_3, BK377, HB⟩ := hrel
 have hl3_2 := (R_reads' HO_3.1).1
 rw [hl3_2] at HO_3
 (try simp only [hl3_2])
 (try simp only [hl3_2] at BK377)
 cases gk with
 | zero => exact absurd HA.1 (by simp [impl_groupNumbers.l1])
 | succ k2 => ?_
 have H := HA.1
 clear HA
 simp only [impl_groupNumbers.l1] at H
 replace H := ifB H; rcases H with ⟨c16b0, H⟩ | ⟨c16b0, H⟩
 · replace H := ifN H; obtain ⟨c17b0, H⟩ := H
   replace H := ifN H; obtain ⟨c18b0, H⟩ := H
   have HC19 := Aside0.mk H
   clear H
   have p382 : 0 <= (x28_2 : Int) := OD
   have q382 : x28_2 < (l0_2.length : Int) := OD
   obtain ⟨ad382, e382, hx382_0, hx382_1⟩ := at_T83 HR0_2.1 x28_2 p382 q382
   cases e382
   replace hx382_0 := (HB.1.cell (World.block_lt_of_cell? w _ hx382_0)).trans hx382_0
   replace hx382_1 := (HB.1.cell (World.block_lt_of_cell? w _ hx382_1)).trans hx382_1
   replace p382 := eq_true p382
   replace q382 := eq_true q382
   go_upto_region 11 with (first | ((with_reducible refine gate_dst (N := 7) rfl ?_); refine boxE (cs := #[.int .i64 0, .int .i64 0]) (t := 83) ?_; intro gb383 hg w20 hbox hb; refine E8 (rB HO_3.1 hb) (bB BK377.1 hb) (bS HB.1 hb) (hbox) (gX HB.1 hg) (gX HB.1 hg) (nB BK377.1 hg) (nC BK377.1 hg) ?_; clear HO_3 BK377 HB; intro HO_3 BK377 HB BK383 GW383 GE383 NB377_383 NB383_377; clear hb hbox hg; have hnb21 := NB383_377.1; have hnc21 := NB377_383.1; obtain ⟨hcz22_0, hcz22_1, hfz22_0, hfz22_1⟩ := cz2 BK383.1))
   (try simp only [Act.put, List.setIfInBounds_toArray, List.set_cons_zero, List.set_cons_succ])
   go_cut [42] (fun v42 wc => ∃ (kq : Nat) (x42_18 : Bool), v42 = .bool x42_18 /\ Aside0 (impl_groupNumbers.j2 kq x3_2 x5_2 x28_2 l0_2 (l0_2.length : Int) x28_2 x42_18 a0_0 a0_1 l0_2 = some r) /\ Aside0 (kq <= k2) /\ Aside0 (Kd.R (Kd.int .i64) 3 wc w.heap.size (fun _ => True) (.slice Ao8 x3_2.length co8) x3_2) /\ Aside0 (wc.heap[gb377]? = some (.cells #[.int .i64 a0_0, .int .i64 a0_1, (.slice (some ad382) l0_2.length c0_2)] 30 (0, 0))) /\ Aside0 (wc.heap[gb383]? = some (.cells #[.int .i64 ((rd_T83 l0_2 x28_2).f0), .int .i64 ((rd_T83 l0_2 x28_2).f1)] 83 (0, 0))) /\ Aside0 (Below w.heap.size w wc))
   case first =>
    have H := HC19.1
    clear HC19
    replace H := bindA H; obtain ⟨t384, A23, H⟩ := H
    replace H := ifX H; rcases H with ⟨rfl, H⟩ | ⟨rfl, H⟩
    · replace H := ifN H; obtain ⟨c25b0, H⟩ := H
      (first | rw [c25b0] | (simp only [i64_w, i32_w]; rw [c25b0]) | skip)
      have H' := Aside0.mk H
      clear H
      obtain ⟨hcz27_0, hcz27_1, hfz27_0, hfz27_1⟩ := cz2 BK383.1
      go_wp2_with (first | ((with_reducible refine gate_callee (f := 87) rfl ?_); refine goesM (N := (some 34)) #[.agg #[.int .i64 ((rd_T83 l0_2 x28_2).f0), .int .i64 ((rd_T83 l0_2 x28_2).f1)]] Try.func87 ?_; (with_reducible refine (impl_isGeared.calls ((rd_T83 l0_2 x28_2).f0) ((rd_T83 l0_2 x28_2).f1) true _ A23.1).mono ?_); rintro e w28 ⟨rfl, hb⟩; refine ⟨_, rfl, ?_⟩; refine E4 (R_below (by (with_reducible repeat (first | apply R_alloc | apply R_drewN | apply R_drew)); exact (R_mono (RQ gb383 1 (RQ gb383 0 (R_types HO_3.1 BK383.1 (by decide)) _) _) (fun _ h_ => h_.1))) hb) (blk_below (g := gb377) (o := .cells #[.int .i64 a0_0, .int .i64 a0_1, .slice (some ad382) l0_2.length c0_2] 30 (0, 0)) (PF1 NB377_383.1 BK377.1) hb) (blk_below (g := gb383) (o := .cells #[.int .i64 ((rd_T83 l0_2 x28_2).f0), .int .i64 ((rd_T83 l0_2 x28_2).f1)] 83 (0, 0)) (PF0 BK383.1) hb) (bS HB.1 hb) ?_; clear HO_3 BK377 BK383 HB; intro HO_3 BK377 BK383 HB; (try clear hb); have p385 : 0 <= (x28_2 : Int) := OD; have q385 : x28_2 < (x3_2.length : Int) := OD; obtain ⟨ad385, e385, hx385_0⟩ := Kd.at_int (R_reads' HO_3.1).2.2 x28_2 p385 q385; cases e385; replace p385 := eq_true p385; replace q385 := eq_true q385))
      go_meet
      case rel => exact ⟨_, (decide ((rd x3_2 x28_2) ≥ 0)), RG, H', ⟨by have := HK1.1; have := HK2.1; first | omega | exact Nat.le_refl _⟩, ⟨PR2 HO_3.1 hl3_1 hl3_2⟩, ⟨PB2 BK377.1 hl3_1 hl3_2⟩, ⟨PB2 BK383.1 hl3_1 hl3_2⟩, ⟨BL HB.1⟩⟩
    have H' := Aside0.mk H
    clear H
    obtain ⟨hcz30_0, hcz30_1, hfz30_0, hfz30_1⟩ := cz2 BK383.1
    go_wp2_with (first | ((with_reducible refine gate_callee (f := 87) rfl ?_); refine goesM (N := (some 34)) #[.agg #[.int .i64 ((rd_T83 l0_2 x28_2).f0), .int .i64 ((rd_T83 l0_2 x28_2).f1)]] Try.func87 ?_; (with_reducible refine (impl_isGeared.calls ((rd_T83 l0_2 x28_2).f0) ((rd_T83 l0_2 x28_2).f1) false _ A23.1).mono ?_); rintro e w31 ⟨rfl, hb⟩; refine ⟨_, rfl, ?_⟩; refine E4 (R_below (by (with_reducible repeat (first | apply R_alloc | apply R_drewN | apply R_drew)); exact (R_mono (RQ gb383 1 (RQ gb383 0 (R_types HO_3.1 BK383.1 (by decide)) _) _) (fun _ h_ => h_.1))) hb) (blk_below (g := gb377) (o := .cells #[.int .i64 a0_0, .int .i64 a0_1, .slice (some ad382) l0_2.length c0_2] 30 (0, 0)) (PF1 NB377_383.1 BK377.1) hb) (blk_below (g := gb383) (o := .cells #[.int .i64 ((rd_T83 l0_2 x28_2).f0), .int .i64 ((rd_T83 l0_2 x28_2).f1)] 83 (0, 0)) (PF0 BK383.1) hb) (bS HB.1 hb) ?_; clear HO_3 BK377 BK383 HB; intro HO_3 BK377 BK383 HB; (try clear hb)))
    go_meet
    case rel => exact ⟨_, (true), RG, H', ⟨by have := HK1.1; have := HK2.1; first | omega | exact Nat.le_refl _⟩, ⟨PR2 HO_3.1 hl3_1 hl3_2⟩, ⟨PB2 BK377.1 hl3_1 hl3_2⟩, ⟨PB2 BK383.1 hl3_1 hl3_2⟩, ⟨BL HB.1⟩⟩
   clear HC19
   try clear hx382_0; try clear hx382_1; try clear p382; try clear q382; clear c16b0 c17b0 c18b0 hcz22_0 hcz22_1 hfz22_0 hfz22_1
   obtain ⟨kq, x42_18, rfl, HA, HJ18, HO_3, BK377, BK383, HB⟩ := hcut
   cases kq with
   | zero => exact absurd HA.1 (by simp [impl_groupNumbers.j2])
   | succ kj18 => ?_
   have H := HA.1
   clear HA
   simp only [impl_groupNumbers.j2] at H
   replace H := ifX H; rcases H with ⟨rfl, H⟩ | ⟨rfl, H⟩
   · have H' := Aside0.mk H
     clear H
     go_wp2
     (try simp only [<- hl3_2])
     go_roundg kj18
     case measure => have := HK1.1; have := HK2.1; have := HJ18.1; omega
     case rel => exact ⟨(x3_2), (x5_2), (wrap64 (x28_2 + 1)), RG, RG, H', ⟨by have := HK1.1; have := HK2.1; have := HJ18.1; omega⟩, ⟨PR2 HO_3.1 hl3_1 hl3_2⟩, ⟨PB2 BK377.1 hl3_1 hl3_2⟩, ⟨BL HB.1⟩⟩
   replace H := ifN H; obtain ⟨c33b0, H⟩ := H
   replace H := ifN H; obtain ⟨c34b0, H⟩ := H
   generalize hy386 : ((x3_2.set (x28_2 : Int).toNat x5_2) : List Int) = y386 at H
   have Ny386 := Aside0.mk hy386.symm; clear hy386
   generalize hy387 : ((([x28_2] : List Int)) : List Int) = y387 at H
   have Ny387 := Aside0.mk hy387.symm; clear hy387
   have H' := Aside0.mk H
   clear H
   have p35 : 0 <= (x28_2 : Int) := OD
   have q35 : (x28_2 : Int) < ((x3_2.length : Int) : Int) := OD
   obtain ⟨go35, co35, eo35, gb35, gl35, cl35, HG35⟩ := R_form HO_3.1 (by omega)
   (first | cases eo35 | (injection eo35 with ea_ en_ ec_; (first | subst ea_ | (injection ea_ with ea_; subst ea_)); subst ec_; clear en_))
   have GB35 := Aside0.mk gb35
   have GG35 := Aside0.mk HG35
   clear gb35 gl35 HG35
   obtain ⟨hx35_0, hf35_0⟩ := R_celln 0 HO_3.1 (x28_2 : Int) p35 q35
   replace p35 := eq_true p35
   replace q35 := eq_true q35
   have HP36 := R_putg HO_3.1 (x28_2 : Int) x5_2
   go_wp2_with (first | ((with_reducible refine gate_store (t := 3) (p := 46) rfl ?_); refine storeE (t := 3) (p := 46) (w1 := (wc.setCell ⟨go35, (x28_2 : Int).toNat, none⟩ (.int .i64 x5_2))) ?_; intro w37 hw; have hg : wc.grownBy w37 (some go35) := (by rw [hw]; exact HP36.2); have hp_ : Kd.R (Kd.int .i64) 3 w37 w.heap.size (fun _ => True) (.slice (some ⟨go35, 0, none⟩) x3_2.length co8) y386 := (by rw [hw, Ny386.1]; exact HP36.1); clear HP36; refine E4 (hp_) (bG BK377.1 hg (R_ne HO_3.1 BK377.1 (by decide))) (bG BK383.1 hg (R_ne HO_3.1 BK383.1 (by decide))) ((by rw [hw]; exact below_set (HB.1) GB35.1 : Below w.heap.size w w37)) ?_; clear HO_3 BK377 BK383 HB; intro HO_3 BK377 BK383 HB; clear hg hw hp_) | ((with_reducible refine gate_dst (N := 48) rfl ?_); refine R_lit (Kd.int .i64) _ 3 ?hg (N := 48) ?hd (xs := ([x28_2] : List Int)) (inner := [.int .i64 x28_2]) (ok := fun _ => True) (okp := fun _ => True) ?hr ?hp (fun _ hk => hk) trivial (Below.refl _ _) (Nat.le_refl _) (by simp) ?_; (case hd => rfl); (case hg => rfl); (case hr => first | (go_simp; done) | (go_simp; rfl)); (case hp => exact (Reps.one (show Kd.M (Kd.int .i64) _ _ _ x28_2 [.int .i64 x28_2] from rfl) (Reps.none _ _))); intro v388 w38 ho39 hb hg_ hnew_; clear hg_ hnew_; (first | rw [<- Ny387.1] at ho39 | (simp only [Int.reduceToNat] at ho39; rw [<- Ny387.1] at ho39)); refine E5 (R_elder' (PR HO_3.1) (R_base ho39) hb) (R_lower (R_new' ho39 (R_lt (PR HO_3.1))) (bZ HB.1)) (bB BK377.1 hb) (bB BK383.1 hb) (bS HB.1 hb) ?_; clear HO_3 BK377 BK383 HB; intro HO_3 HO389 BK377 BK383 HB; clear hb ho39))
   go_loopg [8] kj18 (fun kq v8 w' => ∃ (x3_4 : List Int) (x8_4 : List Int), Aside0 (impl_groupNumbers.l2 kq x3_4 x5_2 x8_4 l0_2 (l0_2.length : Int) x28_2 a0_0 a0_1 l0_2 = some r) /\ Aside0 (kq <= kj18) /\ Aside0 (Kd.R (Kd.int .i64) 3 w' w.heap.size (fun k_ => some k_ ≠ (v8 : Value).ownBlock) (.slice (some ⟨go35, 0, none⟩) x3_2.length co8) x3_4) /\ Aside0 (Kd.Q (Kd.int .i64) 3 w' w.heap.size (fun k_ => some k_ ≠ ((.slice (some ⟨go35, 0, none⟩) x3_2.length co8) : Value).ownBlock) v8 x8_4) /\ Aside0 (w'.heap[gb377]? = some (.cells #[.int .i64 a0_0, .int .i64 a0_1, (.slice (some ad382) l0_2.length c0_2)] 30 (0, 0))) /\ Aside0 (w'.heap[gb383]? = some (.cells #[.int .i64 ((rd_T83 l0_2 x28_2).f0), .int .i64 ((rd_T83 l0_2 x28_2).f1)] 83 (0, 0))) /\ Aside0 (Below w.heap.size w w'))
   case atStart => exact ⟨(y386), (y387), H', ⟨Nat.le_refl _⟩, ⟨by (try simp only [hl3_1]); (try simp only [hl3_2]); (with_reducible repeat (first | apply R_alloc | apply R_drewN | apply R_drew)); exact R_mono HO_3.1 (fun _ hk => hk.2)⟩, ⟨Q_of_R (by (try simp only [hl3_1]); (try simp only [hl3_2]); (with_reducible repeat (first | apply R_alloc | apply R_drewN | apply R_drew)); exact R_mono HO389.1 (fun _ hk => hk.2))⟩, ⟨PB2 BK377.1 hl3_1 hl3_2⟩, ⟨PB2 BK383.1 hl3_1 hl3_2⟩, ⟨BL HB.1⟩⟩
   clear H'
   try clear p35; try clear q35; try clear hx35_0; clear c33b0 c34b0
   obtain ⟨x3_4, x8_4, HA, HK4, HO_3, HO_8, BK377, BK383, HB⟩ := hrel
   have hl3_4 := (R_reads' HO_3.1).1
   rw [hl3_4] at HO_3
   (try simp only [hl3_4])
   (try simp only [hl3_4] at BK377)
   (try simp only [hl3_4] at BK383)
   (try simp only [hl3_4] at HO_8)
   cases gk with
   | zero => exact absurd HA.1 (by simp [impl_groupNumbers.l2])
   | succ k4 => ?_
   have H := HA.1
   clear HA
   simp only [impl_groupNumbers.l2] at H
   replace H := ifQ H; rcases H with ⟨c40, H⟩ | ⟨c40, H⟩
   · have c40b0 : decide (0 < (x8_4.length : Int)) = true := decide_eq_true c40
     have c40b1 : decide (0 < x8_4.length) = true := decide_eq_true (by omega)
     clear c40
     replace H := ifP H; obtain ⟨c41, H⟩ := H
     have c41b0 := decide_eq_true c41
     have c41b1 : decide (0 < x8_4.length) = true := decide_eq_true (by omega)
     clear c41
     replace H := ifP H; obtain ⟨c42, H⟩ := H
     have c42b0 := eq_true c42
     have c42b1 := decide_eq_true c42
     clear c42
     generalize hy391 : ((x8_4.drop (1 : Int).toNat) : List Int) = y391 at H
     have Ny391 := Aside0.mk hy391.symm; clear hy391
     replace H := bindA H; obtain ⟨t394, A43, H⟩ := H
     have H' := Aside0.mk H
     clear H
     obtain ⟨Ao44, co44, eo44, _⟩ := Q_slice HO_8.1
     subst eo44
     have p390 : 0 <= (0 : Int) := (by omega)
     have q390 : 0 < (x8_4.length : Int) := OD
     obtain ⟨ad390, e390, hx390_0⟩ := Kd.at_int (Q_reads' HO_8.1).2.2 0 p390 q390
     cases e390
     have qi390 : (0 < x8_4.length) = True := eq_true (by omega)
     (try rw [show ((0 : Int)).toNat = 0 from rfl] at hx390_0)
     (try rw [Addr.add_zero'] at hx390_0)
     replace p390 := eq_true p390
     replace q390 := eq_true q390
     have q45 : (1 : Int) <= ((x8_4.length : Int) : Int) := OD
     obtain ⟨i045, hi045, _, hsz45, _⟩ := info_parts info3
     have hcut45 := cut_from (P := Try.prog) 38 3 .i64 Try.underlying38 hi045 1 hsz45 (some ad390) x8_4.length co44 1 (by omega) q45
     have hr45 := Q_drop (k := (1 : Int).toNat) HO_8.1 (by omega)
     obtain ⟨A45, hA45⟩ : ∃ A1, A1 = (if co44 = (1 : Int).toNat then (some ad390) else ((some ad390) : Option Addr).map (·.add ((1 : Int).toNat * 1))) := ⟨_, rfl⟩
     obtain ⟨c45, hc45⟩ : ∃ c1, c1 = co44 - (1 : Int).toNat := ⟨_, rfl⟩
     have hy45 : y391.length = x8_4.length - (1 : Int).toNat := (by rw [Ny391.1, List.length_drop])
     rw [<- Ny391.1] at hr45
     rw [<- hy45, <- hA45, <- hc45] at hcut45
     replace hr45 : Kd.Q (Kd.int .i64) 3 wr w.heap.size (fun k_ => some k_ ≠ (.slice (some ⟨go35, 0, none⟩) x3_4.length co8 : Value).ownBlock) (.slice A45 y391.length c45) y391 := (by rw [hA45, hc45, hy45]; exact hr45)
     have HE45 : Aside0 ((Value.slice A45 y391.length c45).ownBlock = (.slice (some ad390) x8_4.length co44 : Value).ownBlock) := ⟨by rw [hA45]; split <;> (cases ((some ad390) : Option Addr) <;> rfl)⟩
     clear hy45 hi045 hsz45 HO_8 hA45 hc45
     have HO393 := Aside0.mk hr45
     clear hr45
     replace q45 := eq_true q45
     have n_ := Aside0.mk (R_mono (ok' := fun k_ => some k_ ≠ (.slice A45 y391.length c45 : Value).ownBlock) HO_3.1 (fun k_ hk => (by rw [HE45.1]; exact hk)))
     clear HO_3
     have HO_3 := n_
     clear n_
     obtain ⟨hcz47_0, hcz47_1, hcz47_2, hfz47_0, hfz47_1, hfz47_2⟩ := cz3 BK377.1
     go_wp2_with (first | ((with_reducible refine gate_callee (f := 88) rfl ?_); refine goesM (N := (some 59)) #[.agg #[.int .i64 a0_0, .int .i64 a0_1, .slice (some ad382) l0_2.length c0_2], .int .i64 (rd x8_4 0)] Try.func88 ?_; (with_reducible refine (impl_besideOf.calls k4 a0_0 a0_1 _ _ l0_2 (rd x8_4 0) t394 _ ?side1 ?side2 A43.1).mono ?_); (case side1 => exact CB (C_below HR0_2.1 HB.1)); (case side2 => exact HC0_2.1); rintro e w48 ⟨v395, rfl, ho0, hb⟩; refine ⟨_, rfl, ?_⟩; refine E6 (R_elder' (PR HO_3.1) (R_base ho0) hb) (Q_elder' (by (with_reducible repeat (first | apply Q_alloc | apply Q_drewN | apply Q_drew)); exact HO393.1) (R_base ho0) hb) (R_lower (R_new' (R_new' ho0 (R_lt (PR HO_3.1))) (Q_lt (by (with_reducible repeat (first | apply Q_alloc | apply Q_drewN | apply Q_drew)); exact HO393.1))) (bZ HB.1)) (bB BK377.1 hb) (bB BK383.1 hb) (bS HB.1 hb) ?_; clear HO_3 HO393 BK377 BK383 HB; intro HO_3 HO393 HO396 BK377 BK383 HB; (try clear hb); (try clear ho0); obtain ⟨Ao49, co49, eo49⟩ := R_slice HO396.1; subst eo49))
     go_loopg [8, 61] k4 (fun kq v8 v61 w' => ∃ (x3_5 : List Int) (x8_5 : List Int) (x61_5 : Int), v61 = .int .i64 x61_5 /\ Aside0 (impl_groupNumbers.l3 kq x3_5 x5_2 x8_5 l0_2 (l0_2.length : Int) x28_2 t394 (t394.length : Int) x61_5 a0_0 a0_1 l0_2 = some r) /\ Aside0 (kq <= k4) /\ Aside0 (Kd.R (Kd.int .i64) 3 w' w.heap.size (fun k_ => some k_ ≠ (v8 : Value).ownBlock /\ some k_ ≠ ((.slice Ao49 t394.length co49) : Value).ownBlock) (.slice (some ⟨go35, 0, none⟩) x3_4.length co8) x3_5) /\ Aside0 (Kd.Q (Kd.int .i64) 3 w' w.heap.size (fun k_ => some k_ ≠ ((.slice (some ⟨go35, 0, none⟩) x3_4.length co8) : Value).ownBlock /\ some k_ ≠ ((.slice Ao49 t394.length co49) : Value).ownBlock) v8 x8_5) /\ Aside0 (Kd.R (Kd.int .i64) 3 w' w.heap.size (fun k_ => some k_ ≠ ((.slice (some ⟨go35, 0, none⟩) x3_4.length co8) : Value).ownBlock /\ some k_ ≠ (v8 : Value).ownBlock) (.slice Ao49 t394.length co49) t394) /\ Aside0 (w'.heap[gb377]? = some (.cells #[.int .i64 a0_0, .int .i64 a0_1, (.slice (some ad382) l0_2.length c0_2)] 30 (0, 0))) /\ Aside0 (w'.heap[gb383]? = some (.cells #[.int .i64 ((rd_T83 l0_2 x28_2).f0), .int .i64 ((rd_T83 l0_2 x28_2).f1)] 83 (0, 0))) /\ Aside0 (Below w.heap.size w w'))
     case atStart => exact ⟨(x3_4), (y391), (0), RG, H', ⟨Nat.le_refl _⟩, ⟨PR3 HO_3.1 hl3_1 hl3_2 hl3_4⟩, ⟨by (try simp only [hl3_1]); (try simp only [hl3_2]); (try simp only [hl3_4]); (with_reducible repeat (first | apply Q_alloc | apply Q_drewN | apply Q_drew)); exact HO393.1⟩, ⟨by (try simp only [hl3_1]); (try simp only [hl3_2]); (try simp only [hl3_4]); (with_reducible repeat (first | apply R_alloc | apply R_drewN | apply R_drew)); exact R_mono HO396.1 (fun _ hk => ⟨hk.1.2, hk.2⟩)⟩, ⟨PB3 BK377.1 hl3_1 hl3_2 hl3_4⟩, ⟨PB3 BK383.1 hl3_1 hl3_2 hl3_4⟩, ⟨BL HB.1⟩⟩
     clear H'
     try clear c1; try clear c45; try clear q45; try clear hx390_0; try clear p390; try clear q390; clear c40b0 c40b1 c41b0 c41b1 c42b0 c42b1 hcz47_0 hcz47_1 hcz47_2 hfz47_0 hfz47_1 hfz47_2
     obtain ⟨x3_5, x8_5, x61_5, rfl, HA, HK5, HO_3, HO_8, HO_59, BK377, BK383, HB⟩ := hrel
     have hl3_5 := (R_reads' HO_3.1).1
     rw [hl3_5] at HO_3
     (try simp only [hl3_5])
     (try simp only [hl3_5] at BK377)
     (try simp only [hl3_5] at BK383)
     (try simp only [hl3_5] at HO_8)
     (try simp only [hl3_5] at HO_59)
     cases gk with
     | zero => exact absurd HA.1 (by simp [impl_groupNumbers.l3])
     | succ k5 => ?_
     have H := HA.1
     clear HA
     simp only [impl_groupNumbers.l3] at H
     replace H := ifB H; rcases H with ⟨c50b0, H⟩ | ⟨c50b0, H⟩
     · replace H := ifN H; obtain ⟨c51b0, H⟩ := H
       replace H := ifN H; obtain ⟨c52b0, H⟩ := H
       replace H := ifN H; obtain ⟨c53b0, H⟩ := H
       replace H := ifN H; obtain ⟨c54b0, H⟩ := H
       replace H := bindA H; obtain ⟨t399, A55, H⟩ := H
       replace H := ifX H; rcases H with ⟨rfl, H⟩ | ⟨rfl, H⟩
       · replace H := ifN H; obtain ⟨c57b0, H⟩ := H
         replace H := ifB H; rcases H with ⟨c58b0, H⟩ | ⟨c58b0, H⟩
         · generalize hy401 : ((x3_5.set ((rd t394 x61_5) : Int).toNat x5_2) : List Int) = y401 at H
           have Ny401 := Aside0.mk hy401.symm; clear hy401
           replace H := ifP H; obtain ⟨c60, H⟩ := H
           have LMc60 := Aside0.mk c60
           clear c60
           generalize hy402 : ((x8_5 ++ [rd t394 x61_5]) : List Int) = y402 at H
           have Ny402 := Aside0.mk hy402.symm; clear hy402
           have H' := Aside0.mk H
           clear H
           have p397 : 0 <= (x61_5 : Int) := OD
           have q397 : x61_5 < (t394.length : Int) := OD
           obtain ⟨ad397, e397, hx397_0⟩ := Kd.at_int (R_reads' HO_59.1).2.2 x61_5 p397 q397
           cases e397
           replace p397 := eq_true p397
           replace q397 := eq_true q397
           obtain ⟨hcz62_0, hcz62_1, hcz62_2, hfz62_0, hfz62_1, hfz62_2⟩ := cz3 BK377.1
           have p398 : 0 <= ((rd t394 x61_5) : Int) := OD
           have q398 : (rd t394 x61_5) < (l0_2.length : Int) := OD
           obtain ⟨ad398, e398, hx398_0, hx398_1⟩ := at_T83 HR0_2.1 (rd t394 x61_5) p398 q398
           obtain rfl : ad382 = ad398 := (by injection e398)
           replace hx398_0 := (HB.1.cell (World.block_lt_of_cell? w _ hx398_0)).trans hx398_0
           replace hx398_1 := (HB.1.cell (World.block_lt_of_cell? w _ hx398_1)).trans hx398_1
           replace p398 := eq_true p398
           replace q398 := eq_true q398
           go_wp2_with (first | ((with_reducible refine gate_callee (f := 87) rfl ?_); refine goesM (N := (some 70)) #[.agg #[.int .i64 ((rd_T83 l0_2 (rd t394 x61_5)).f0), .int .i64 ((rd_T83 l0_2 (rd t394 x61_5)).f1)]] Try.func87 ?_; (with_reducible refine (impl_isGeared.calls ((rd_T83 l0_2 (rd t394 x61_5)).f0) ((rd_T83 l0_2 (rd t394 x61_5)).f1) true _ A55.1).mono ?_); rintro e w63 ⟨rfl, hb⟩; refine ⟨_, rfl, ?_⟩; refine E6 (rB HO_3.1 hb) (Q_below (by (with_reducible repeat (first | apply Q_alloc | apply Q_drewN | apply Q_drew)); exact HO_8.1) hb) (rB HO_59.1 hb) (bB BK377.1 hb) (bB BK383.1 hb) (bS HB.1 hb) ?_; clear HO_3 HO_8 HO_59 BK377 BK383 HB; intro HO_3 HO_8 HO_59 BK377 BK383 HB; (try clear hb); have p400 : 0 <= ((rd t394 x61_5) : Int) := OD; have q400 : (rd t394 x61_5) < (x3_5.length : Int) := OD; obtain ⟨ad400, e400, hx400_0⟩ := Kd.at_int (R_reads' HO_3.1).2.2 (rd t394 x61_5) p400 q400; obtain rfl : (⟨go35, 0, none⟩ : Addr) = ad400 := (by injection e400); (first | simp only [add_plain] at hx400_0 | simp only [add_at] at hx400_0 | simp only [Addr.add, Nat.zero_add] at hx400_0 | skip); replace p400 := eq_true p400; replace q400 := eq_true q400; have p59 : 0 <= ((rd t394 x61_5) : Int) := OD; have q59 : ((rd t394 x61_5) : Int) < ((x3_5.length : Int) : Int) := OD; obtain ⟨hx59_0, hf59_0⟩ := R_celln 0 HO_3.1 ((rd t394 x61_5) : Int) p59 q59; replace p59 := eq_true p59; replace q59 := eq_true q59; obtain ⟨hy64_, hz64_⟩ := R_celln 0 HO_3.1 ((rd t394 x61_5) : Int) (OD) (OD); have HP64 := R_putg HO_3.1 ((rd t394 x61_5) : Int) x5_2) | ((with_reducible refine gate_store (t := 3) (p := 81) rfl ?_); refine storeE (t := 3) (p := 81) (w1 := (w63.setCell ⟨go35, ((rd t394 x61_5) : Int).toNat, none⟩ (.int .i64 x5_2))) ?_; intro w65 hw; have hg : w63.grownBy w65 (some go35) := (by rw [hw]; exact HP64.2); have hp_ : Kd.R (Kd.int .i64) 3 w65 w.heap.size (fun k_ => some k_ ≠ (u8 : Value).ownBlock /\ some k_ ≠ (.slice (some ad397) t394.length co49 : Value).ownBlock) (.slice (some ⟨go35, 0, none⟩) x3_5.length co8) y401 := (by rw [hw, Ny401.1]; exact HP64.1); clear HP64; refine E6 (hp_) (Q_after (v := (.slice (some ⟨go35, 0, none⟩) x3_5.length co8)) (v1 := (.slice (some ⟨go35, 0, none⟩) x3_5.length co8)) (ok := (fun k_ => some k_ ≠ (.slice (some ad397) t394.length co49 : Value).ownBlock)) (by (with_reducible repeat (first | apply Q_alloc | apply Q_drewN | apply Q_drew)); exact Q_mono HO_8.1 (fun _ hk => ⟨hk.2, hk.1⟩)) hg (.inl rfl)) (R_after (v := (.slice (some ⟨go35, 0, none⟩) x3_5.length co8)) (v1 := (.slice (some ⟨go35, 0, none⟩) x3_5.length co8)) (ok := (fun k_ => some k_ ≠ (u8 : Value).ownBlock)) (RPE (R_mono HO_59.1 (fun _ hk => ⟨hk.2, hk.1⟩))) hg (.inl rfl)) (bG BK377.1 hg (R_ne HO_3.1 BK377.1 (by decide))) (bG BK383.1 hg (R_ne HO_3.1 BK383.1 (by decide))) ((by rw [hw]; exact below_set (HB.1) GB35.1 : Below w.heap.size w w65)) ?_; clear HO_3 HO_8 HO_59 BK377 BK383 HB; intro HO_3 HO_8 HO_59 BK377 BK383 HB; clear hg hw hp_) | ((with_reducible refine gate_builtin (b := .append) (xs := #[.tmp 82, .tmp 84]) rfl ?_); at_builtin; refine Q_append (Kd.int .i64) (w0 := w) w.heap.size rfl (.tmp 82) (.tmp 84) 38 3 (.int .i64 0) 8 rfl Try.underlying38 info3 rfl (by decide) (by omega) u8 x8_5 (rd t394 x61_5) [.int .i64 (rd t394 x61_5)] (fun k_ => some k_ ≠ (.slice (some ⟨go35, 0, none⟩) x3_5.length co8 : Value).ownBlock /\ some k_ ≠ (.slice (some ad397) t394.length co49 : Value).ownBlock) (fun _ => False) rfl rfl ?aP (fun _ hk => hk.elim) ?aF ?aO ?aB ?aS ?aL ?_; (case aP => exact rfl); (case aB => exact (BL HB.1)); (case aF => exact (fun k_ hk => ⟨Kd.fresh' (R_lt (PR HO_3.1)) k_ hk, Kd.fresh' (R_lt (PR HO_59.1)) k_ hk⟩)); (case aO => exact (by (with_reducible repeat (first | apply Q_alloc | apply Q_drewN | apply Q_drew)); exact Q_mono HO_8.1 (fun _ hk => ⟨hk.2, hk.1⟩))); (case aS => exact (bZ HB.1)); (case aL => have := LMc60.1; omega); intro v403 w66 ho hb hg hat; rw [<- Ny402.1] at ho; refine E6 (R_after (ok := (fun k_ => some k_ ≠ (.slice (some ad397) t394.length co49 : Value).ownBlock)) (RPE (R_mono HO_3.1 (fun _ hk => ⟨hk.2, hk.1⟩))) hg hat) (R_after (ok := (fun k_ => some k_ ≠ (.slice (some ⟨go35, 0, none⟩) x3_5.length co8 : Value).ownBlock)) (RPE (R_mono HO_59.1 (fun _ hk => ⟨hk.2, hk.1⟩))) hg hat) (bG BK377.1 hg (Q_ne HO_8.1 BK377.1 (by decide))) (bG BK383.1 hg (Q_ne HO_8.1 BK383.1 (by decide))) (hb) (ho) ?_; clear HO_3 HO_59 BK377 BK383 HB HO_8; intro HO_3 HO_59 BK377 BK383 HB HO404; clear ho hb hg hat))
           (try simp only [<- hl3_5])
           go_roundg k5
           case measure => have := HK1.1; have := HK2.1; have := HJ18.1; have := HK4.1; have := HK5.1; omega
           case rel => exact ⟨(y401), (y402), (wrap64 (x61_5 + 1)), RG, H', ⟨by have := HK1.1; have := HK2.1; have := HJ18.1; have := HK4.1; have := HK5.1; omega⟩, ⟨by (try simp only [hl3_1]); (try simp only [hl3_2]); (try simp only [hl3_4]); (try simp only [hl3_5]); (with_reducible repeat (first | apply R_alloc | apply R_drewN | apply R_drew)); exact R_mono HO_3.1 (fun _ hk => ⟨hk.2, hk.1⟩)⟩, ⟨by (try simp only [hl3_1]); (try simp only [hl3_2]); (try simp only [hl3_4]); (try simp only [hl3_5]); (with_reducible repeat (first | apply Q_alloc | apply Q_drewN | apply Q_drew)); exact HO404.1⟩, ⟨PR4 HO_59.1 hl3_1 hl3_2 hl3_4 hl3_5⟩, ⟨PB4 BK377.1 hl3_1 hl3_2 hl3_4 hl3_5⟩, ⟨PB4 BK383.1 hl3_1 hl3_2 hl3_4 hl3_5⟩, ⟨BL HB.1⟩⟩
         have H' := Aside0.mk H
         clear H
         have p397 : 0 <= (x61_5 : Int) := OD
         have q397 : x61_5 < (t394.length : Int) := OD
         obtain ⟨ad397, e397, hx397_0⟩ := Kd.at_int (R_reads' HO_59.1).2.2 x61_5 p397 q397
         cases e397
         replace p397 := eq_true p397
         replace q397 := eq_true q397
         obtain ⟨hcz68_0, hcz68_1, hcz68_2, hfz68_0, hfz68_1, hfz68_2⟩ := cz3 BK377.1
         have p398 : 0 <= ((rd t394 x61_5) : Int) := OD
         have q398 : (rd t394 x61_5) < (l0_2.length : Int) := OD
         obtain ⟨ad398, e398, hx398_0, hx398_1⟩ := at_T83 HR0_2.1 (rd t394 x61_5) p398 q398
         obtain rfl : ad382 = ad398 := (by injection e398)
         replace hx398_0 := (HB.1.cell (World.block_lt_of_cell? w _ hx398_0)).trans hx398_0
         replace hx398_1 := (HB.1.cell (World.block_lt_of_cell? w _ hx398_1)).trans hx398_1
         replace p398 := eq_true p398
         replace q398 := eq_true q398
         go_wp2_with (first | ((with_reducible refine gate_callee (f := 87) rfl ?_); refine goesM (N := (some 70)) #[.agg #[.int .i64 ((rd_T83 l0_2 (rd t394 x61_5)).f0), .int .i64 ((rd_T83 l0_2 (rd t394 x61_5)).f1)]] Try.func87 ?_; (with_reducible refine (impl_isGeared.calls ((rd_T83 l0_2 (rd t394 x61_5)).f0) ((rd_T83 l0_2 (rd t394 x61_5)).f1) true _ A55.1).mono ?_); rintro e w69 ⟨rfl, hb⟩; refine ⟨_, rfl, ?_⟩; refine E6 (rB HO_3.1 hb) (Q_below (by (with_reducible repeat (first | apply Q_alloc | apply Q_drewN | apply Q_drew)); exact HO_8.1) hb) (rB HO_59.1 hb) (bB BK377.1 hb) (bB BK383.1 hb) (bS HB.1 hb) ?_; clear HO_3 HO_8 HO_59 BK377 BK383 HB; intro HO_3 HO_8 HO_59 BK377 BK383 HB; (try clear hb); have p400 : 0 <= ((rd t394 x61_5) : Int) := OD; have q400 : (rd t394 x61_5) < (x3_5.length : Int) := OD; obtain ⟨ad400, e400, hx400_0⟩ := Kd.at_int (R_reads' HO_3.1).2.2 (rd t394 x61_5) p400 q400; obtain rfl : (⟨go35, 0, none⟩ : Addr) = ad400 := (by injection e400); (first | simp only [add_plain] at hx400_0 | simp only [add_at] at hx400_0 | simp only [Addr.add, Nat.zero_add] at hx400_0 | skip); replace p400 := eq_true p400; replace q400 := eq_true q400))
         (try simp only [<- hl3_5])
         go_roundg k5
         case measure => have := HK1.1; have := HK2.1; have := HJ18.1; have := HK4.1; have := HK5.1; omega
         case rel => exact ⟨(x3_5), (x8_5), (wrap64 (x61_5 + 1)), RG, H', ⟨by have := HK1.1; have := HK2.1; have := HJ18.1; have := HK4.1; have := HK5.1; omega⟩, ⟨PR4 HO_3.1 hl3_1 hl3_2 hl3_4 hl3_5⟩, ⟨by (try simp only [hl3_1]); (try simp only [hl3_2]); (try simp only [hl3_4]); (try simp only [hl3_5]); (with_reducible repeat (first | apply Q_alloc | apply Q_drewN | apply Q_drew)); exact HO_8.1⟩, ⟨PR4 HO_59.1 hl3_1 hl3_2 hl3_4 hl3_5⟩, ⟨PB4 BK377.1 hl3_1 hl3_2 hl3_4 hl3_5⟩, ⟨PB4 BK383.1 hl3_1 hl3_2 hl3_4 hl3_5⟩, ⟨BL HB.1⟩⟩
       have H' := Aside0.mk H
       clear H
       have p397 : 0 <= (x61_5 : Int) := OD
       have q397 : x61_5 < (t394.length : Int) := OD
       obtain ⟨ad397, e397, hx397_0⟩ := Kd.at_int (R_reads' HO_59.1).2.2 x61_5 p397 q397
       cases e397
       replace p397 := eq_true p397
       replace q397 := eq_true q397
       obtain ⟨hcz71_0, hcz71_1, hcz71_2, hfz71_0, hfz71_1, hfz71_2⟩ := cz3 BK377.1
       have p398 : 0 <= ((rd t394 x61_5) : Int) := OD
       have q398 : (rd t394 x61_5) < (l0_2.length : Int) := OD
       obtain ⟨ad398, e398, hx398_0, hx398_1⟩ := at_T83 HR0_2.1 (rd t394 x61_5) p398 q398
       obtain rfl : ad382 = ad398 := (by injection e398)
       replace hx398_0 := (HB.1.cell (World.block_lt_of_cell? w _ hx398_0)).trans hx398_0
       replace hx398_1 := (HB.1.cell (World.block_lt_of_cell? w _ hx398_1)).trans hx398_1
       replace p398 := eq_true p398
       replace q398 := eq_true q398
       go_wp2_with (first | ((with_reducible refine gate_callee (f := 87) rfl ?_); refine goesM (N := (some 70)) #[.agg #[.int .i64 ((rd_T83 l0_2 (rd t394 x61_5)).f0), .int .i64 ((rd_T83 l0_2 (rd t394 x61_5)).f1)]] Try.func87 ?_; (with_reducible refine (impl_isGeared.calls ((rd_T83 l0_2 (rd t394 x61_5)).f0) ((rd_T83 l0_2 (rd t394 x61_5)).f1) false _ A55.1).mono ?_); rintro e w72 ⟨rfl, hb⟩; refine ⟨_, rfl, ?_⟩; refine E6 (rB HO_3.1 hb) (Q_below (by (with_reducible repeat (first | apply Q_alloc | apply Q_drewN | apply Q_drew)); exact HO_8.1) hb) (rB HO_59.1 hb) (bB BK377.1 hb) (bB BK383.1 hb) (bS HB.1 hb) ?_; clear HO_3 HO_8 HO_59 BK377 BK383 HB; intro HO_3 HO_8 HO_59 BK377 BK383 HB; (try clear hb)))
       (try simp only [<- hl3_5])
       go_roundg k5
       case measure => have := HK1.1; have := HK2.1; have := HJ18.1; have := HK4.1; have := HK5.1; omega
       case rel => exact ⟨(x3_5), (x8_5), (wrap64 (x61_5 + 1)), RG, H', ⟨by have := HK1.1; have := HK2.1; have := HJ18.1; have := HK4.1; have := HK5.1; omega⟩, ⟨PR4 HO_3.1 hl3_1 hl3_2 hl3_4 hl3_5⟩, ⟨by (try simp only [hl3_1]); (try simp only [hl3_2]); (try simp only [hl3_4]); (try simp only [hl3_5]); (with_reducible repeat (first | apply Q_alloc | apply Q_drewN | apply Q_drew)); exact HO_8.1⟩, ⟨PR4 HO_59.1 hl3_1 hl3_2 hl3_4 hl3_5⟩, ⟨PB4 BK377.1 hl3_1 hl3_2 hl3_4 hl3_5⟩, ⟨PB4 BK383.1 hl3_1 hl3_2 hl3_4 hl3_5⟩, ⟨BL HB.1⟩⟩
     (try simp only [hl3_1, hl3_2, hl3_4, hl3_5] at c50b0)
     have H' := Aside0.mk H
     clear H
     go_wp2
     (try simp only [<- hl3_4, <- hl3_5])
     go_roundg k5
     case measure => have := HK1.1; have := HK2.1; have := HJ18.1; have := HK4.1; have := HK5.1; omega
     case rel => exact ⟨(x3_5), (x8_5), H', ⟨by have := HK1.1; have := HK2.1; have := HJ18.1; have := HK4.1; have := HK5.1; omega⟩, ⟨by (try simp only [hl3_1]); (try simp only [hl3_2]); (try simp only [hl3_4]); (try simp only [hl3_5]); (with_reducible repeat (first | apply R_alloc | apply R_drewN | apply R_drew)); exact R_mono HO_3.1 (fun _ hk => hk.1)⟩, ⟨by (try simp only [hl3_1]); (try simp only [hl3_2]); (try simp only [hl3_4]); (try simp only [hl3_5]); (with_reducible repeat (first | apply Q_alloc | apply Q_drewN | apply Q_drew)); exact Q_mono HO_8.1 (fun _ hk => hk.1)⟩, ⟨PB4 BK377.1 hl3_1 hl3_2 hl3_4 hl3_5⟩, ⟨PB4 BK383.1 hl3_1 hl3_2 hl3_4 hl3_5⟩, ⟨BL HB.1⟩⟩
   have c40b0 : decide (0 < (x8_4.length : Int)) = false := decide_eq_false c40
   have c40b1 : decide (0 < x8_4.length) = false := decide_eq_false (by omega)
   clear c40
   (try simp only [hl3_1, hl3_2, hl3_4] at c40b1)
   have H' := Aside0.mk H
   clear H
   obtain ⟨Ao73, co73, eo73, _⟩ := Q_slice HO_8.1
   subst eo73
   go_wp2
   (try simp only [<- hl3_2, <- hl3_4])
   go_roundg k4
   case measure => have := HK1.1; have := HK2.1; have := HJ18.1; have := HK4.1; omega
   case rel => exact ⟨(x3_4), (wrap64 (x5_2 + 1)), (wrap64 (x28_2 + 1)), RG, RG, H', ⟨by have := HK1.1; have := HK2.1; have := HJ18.1; have := HK4.1; omega⟩, ⟨by (try simp only [hl3_1]); (try simp only [hl3_2]); (try simp only [hl3_4]); (with_reducible repeat (first | apply R_alloc | apply R_drewN | apply R_drew)); exact R_mono HO_3.1 (fun _ hk => trivial)⟩, ⟨PB3 BK377.1 hl3_1 hl3_2 hl3_4⟩, ⟨BL HB.1⟩⟩
 (try simp only [hl3_1, hl3_2] at c16b0)
 obtain rfl := Option.some.inj H
 go_wp2
 go_ret
 exact ⟨_, RF, RPE (HO_3.1), BL HB.1⟩
def impl_unitsOf.l0 : Nat -> List Int -> List (List Int) -> List (S83) -> Int -> Int -> List (Int × Int) -> Option ((List (List Int)))
 | 0, _, _, _, _, _, _ => none
 | k + 1, x3, x5, x15, x16, x17, xm => if x17 < x16 then (if 0 <= x17 then (if x17 < (x15.length : Int) then (if ((rd_T83 x15 x17).f0) = 3 then (if x5.length < 5864062014805 then (impl_unitsOf.l0 k x3 (x5 ++ [(([x17] : List Int))]) x15 x16 (wrap64 (x17 + 1)) xm) else (none)) else (if ((rd_T83 x15 x17).f0) = 6 then (if x17 < (x3.length : Int) then (if wrap64 (rd x3 x17) = (rd x3 x17) then (if mhas xm (rd x3 x17) = true then (if 0 <= (mget xm (rd x3 x17)) then (if (mget xm (rd x3 x17)) < (x5.length : Int) then (if (rd_L3 x5 (mget xm (rd x3 x17))).length < 17592186044416 then (impl_unitsOf.l0 k x3 (x5.set ((mget xm (rd x3 x17)) : Int).toNat ((rd_L3 x5 (mget xm (rd x3 x17))) ++ [x17])) x15 x16 (wrap64 (x17 + 1)) xm) else (none)) else (none)) else (none)) else (if xm.length < 17592186044416 then (if x5.length < 5864062014805 then ((some (x5 ++ [[]] : List (List Int))).bind fun y429 => (if 0 <= (x5.length : Int) then (if (x5.length : Int) < (y429.length : Int) then (if (rd_L3 y429 (x5.length : Int)).length < 17592186044416 then (impl_unitsOf.l0 k x3 (y429.set ((x5.length : Int) : Int).toNat ((rd_L3 y429 (x5.length : Int)) ++ [x17])) x15 x16 (wrap64 (x17 + 1)) (((rd x3 x17), (x5.length : Int)) :: xm)) else (none)) else (none)) else (none))) else (none)) else (none))) else (none)) else (none)) else (impl_unitsOf.l0 k x3 x5 x15 x16 (wrap64 (x17 + 1)) xm))) else (none)) else (none)) else (some x5)
def impl_unitsOf.f (k : Nat) (a0_0 : Int) (a0_1 : Int) (l0_2 : List (S83)) : Option ((List (List Int))) := (impl_groupNumbers.f k a0_0 a0_1 l0_2).bind fun t406 => (impl_unitsOf.l0 k t406 (([] : List (List Int))) l0_2 (l0_2.length : Int) 0 ([] : List (Int × Int)))
theorem impl_unitsOf.mono_l : ∀ k, (∀ y0 y1 y2 y3 y4 y5, LeO (impl_unitsOf.l0 k y0 y1 y2 y3 y4 y5) (impl_unitsOf.l0 (k + 1) y0 y1 y2 y3 y4 y5))
 | 0 => fun _ _ _ _ _ _ r h => by simp [impl_unitsOf.l0] at h
 | k + 1 => by
  have ih0 := impl_unitsOf.mono_l k
  intros
  first | unfold impl_unitsOf.l0
  exact LM2 ih0 impl_groupNumbers.mono
theorem impl_unitsOf.mono : ∀ a0 a1 a2 k, LeO (impl_unitsOf.f k a0 a1 a2) (impl_unitsOf.f (k + 1) a0 a1 a2) := by
 intro a0 a1 a2 k
 have ih0 := impl_unitsOf.mono_l k
 unfold impl_unitsOf.f
 exact LM2 ih0 impl_groupNumbers.mono
theorem impl_unitsOf.zero3 (w : World) : (zeroValue 3).run Try.prog w = .ok (.int .i64 0) w := by kernel_rfl
theorem impl_unitsOf.calls (k : Nat) (a0_0 : Int) (a0_1 : Int) (A0_2 : Option Addr) (c0_2 : Nat) (l0_2 : List (S83)) (r : List (List Int)) (w : World) (hr0_2 : Kd.C k83 w A0_2 l0_2.length l0_2) (hc0_2 : l0_2.length <= c0_2) (h : impl_unitsOf.f k a0_0 a0_1 l0_2 = some r) :
 Calls Try.prog 61 #[.agg #[.int .i64 a0_0, .int .i64 a0_1, .slice A0_2 l0_2.length c0_2]] w fun e w' => ∃ v0_ : Value, e = .returned (v0_) /\ Kd.S (Kd.slice 3 (Kd.int .i64)) 38 w' w.heap.size (fun _ => True) v0_ r /\ Below w.heap.size w w' := by
 have hu30 := Try.underlying30
 have hu83 := Try.underlying83
 have HR0_2 := Aside0.mk hr0_2
 have HC0_2 := Aside0.mk hc0_2
 clear hr0_2 hc0_2
 have HB := Aside0.mk (Below.refl w.heap.size w)
 have H := h
 clear h
 unfold impl_unitsOf.f at H
 replace H := bindA H; obtain ⟨t406, A2, H⟩ := H
 generalize hy410 : ((([] : List (List Int))) : List (List Int)) = y410 at H
 have Ny410 := Aside0.mk hy410.symm; clear hy410
 have H' := Aside0.mk H
 clear H
 go_enter Try.func61, Try.ntmps61
 go_wp2_with (first | ((with_reducible refine gate_dst (N := 1) rfl ?_); refine boxE (cs := #[.int .i64 a0_0, .int .i64 a0_1, .slice A0_2 l0_2.length c0_2]) (t := 30) ?_; intro gb405 hg w3 hbox hb; refine E4b HB.1 hg hbox hb ?_; clear HB; intro HB BK405 GW405 GE405; clear hb hbox hg; obtain ⟨hcz4_0, hcz4_1, hcz4_2, hfz4_0, hfz4_1, hfz4_2⟩ := cz3 BK405.1) | ((with_reducible refine gate_callee (f := 74) rfl ?_); refine goesM (N := (some 11)) #[.agg #[.int .i64 a0_0, .int .i64 a0_1, .slice A0_2 l0_2.length c0_2]] Try.func74 ?_; (with_reducible refine (impl_groupNumbers.calls k a0_0 a0_1 _ _ l0_2 t406 _ ?side1 ?side2 A2.1).mono ?_); (case side1 => exact CB (C_below HR0_2.1 HB.1)); (case side2 => exact HC0_2.1); rintro e w5 ⟨v407, rfl, ho0, hb⟩; refine ⟨_, rfl, ?_⟩; refine E3 (R_lower ho0 (bZ HB.1)) (bB BK405.1 hb) (bS HB.1 hb) ?_; clear BK405 HB; intro HO408 BK405 HB; (try clear hb); (try clear ho0)) | ((with_reducible refine gate_dst (N := 12) rfl ?_); refine map_event ?hg (N := 12) ?hd ?hr ?_; (case hd => rfl); (case hg => rfl); (case hr => first | (go_simp; done) | (go_simp; rfl) | rfl); intro gb409 hg w6 hbox hb; have n0_ := Aside0.mk (rB HO408.1 hb); have n1_ := Aside0.mk (bB BK405.1 hb); have n2_ := Aside0.mk (bS HB.1 hb); have n3_ := Aside0.mk (hbox); have n4_ := Aside0.mk (gX HB.1 hg); have n5_ := Aside0.mk (gX HB.1 hg); have n6_ := Aside0.mk (nB BK405.1 hg); have n7_ := Aside0.mk (nC BK405.1 hg); clear HO408; clear BK405; clear HB; have HO408 := n0_; have BK405 := n1_; have HB := n2_; have HM409 : Aside0 (MapO Try.prog 3 (.map #[] 0) []) := ⟨mapO_made _ _⟩; have BK409 := n3_; have GW409 := n4_; have GE409 := n5_; have NB405_409 := n6_; have NB409_405 := n7_; clear n0_ n1_ n2_ n3_ n4_ n5_ n6_ n7_; clear hb hbox hg; have hnb7 := NB405_409.1; have hnc7 := NB409_405.1; obtain ⟨hcz8_0, hcz8_1, hcz8_2, hfz8_0, hfz8_1, hfz8_2⟩ := cz3 BK405.1) | ((with_reducible refine gate_dst (N := 13) rfl ?_); refine S_lit (Kd.slice 3 (Kd.int .i64)) _ 38 ?hg (N := 13) ?hd (xs := ([] : List (List Int))) (inner := []) (ok := fun _ => True) (okp := fun _ => True) ?hr ?hp (fun _ hk => hk) trivial (Below.refl _ _) (Nat.le_refl _) (by simp) ?_; (case hd => rfl); (case hg => rfl); (case hr => first | (go_simp; done) | (go_simp; rfl)); (case hp => exact (Reps.none _ _)); intro v411 w10 ho11 hb hg_ hnew_; clear hg_ hnew_; (first | rw [<- Ny410.1] at ho11 | (simp only [Int.reduceToNat] at ho11; rw [<- Ny410.1] at ho11)); refine E5 (rB HO408.1 hb) (S_lower (S_new' ho11 (R_lt (PR HO408.1))) (bZ HB.1)) (bB BK405.1 hb) (bB BK409.1 hb) (bS HB.1 hb) ?_; clear HO408 BK405 BK409 HB; intro HO408 HO412 BK405 BK409 HB; clear hb ho11; obtain ⟨hcz12_0, hcz12_1, hcz12_2, hfz12_0, hfz12_1, hfz12_2⟩ := cz3 BK405.1))
 go_loopg [5, 17] k (fun kq v5 v17 w' => ∃ (x5_1 : List (List Int)) (x17_1 : Int) (xm_1 : List (Int × Int)) (om_1 : Obj), v17 = .int .i64 x17_1 /\ Aside0 (impl_unitsOf.l0 kq t406 x5_1 l0_2 (l0_2.length : Int) x17_1 xm_1 = some r) /\ Aside0 (kq <= k) /\ Aside0 (Kd.R (Kd.int .i64) 3 w' w.heap.size (fun _ => True) v407 t406) /\ Aside0 (Kd.S (Kd.slice 3 (Kd.int .i64)) 38 w' w.heap.size (fun k_ => some k_ ≠ (v407 : Value).ownBlock) v5 x5_1) /\ Aside0 (w'.heap[gb405]? = some (.cells #[.int .i64 a0_0, .int .i64 a0_1, (.slice A0_2 l0_2.length c0_2)] 30 (0, 0))) /\ Aside0 (w'.heap[gb409]? = some om_1) /\ Aside0 (MapO Try.prog 3 om_1 xm_1) /\ Aside0 (Below w.heap.size w w'))
 case atStart => exact ⟨(y410), (0), ([]), (.map #[] 0), RG, H', ⟨Nat.le_refl _⟩, ⟨PR HO408.1⟩, ⟨SPE (S_mono HO412.1 (fun _ hk => hk.2))⟩, ⟨PB BK405.1⟩, ⟨PB BK409.1⟩, HM409, ⟨BL HB.1⟩⟩
 clear H'
 clear hcz12_0 hcz12_1 hcz12_2 hcz4_0 hcz4_1 hcz4_2 hcz8_0 hcz8_1 hcz8_2 hfz12_0 hfz12_1 hfz12_2 hfz4_0 hfz4_1 hfz4_2 hfz8_0 hfz8_1 hfz8_2
 obtain ⟨x5_1, x17_1, xm_1, om_1, rfl, HA, HK1, HO_3, HO_5, BK405, BK409, HM409, HB⟩ := hrel
 cases gk with
 | zero => exact absurd HA.1 (by simp [impl_unitsOf.l0])
 | succ k1 => ?_
 have H := HA.1
 clear HA
 simp only [impl_unitsOf.l0] at H
 replace H := ifB H; rcases H with ⟨c13b0, H⟩ | ⟨c13b0, H⟩
 · replace H := ifN H; obtain ⟨c14b0, H⟩ := H
   replace H := ifN H; obtain ⟨c15b0, H⟩ := H
   replace H := ifQ H; rcases H with ⟨c16, H⟩ | ⟨c16, H⟩
   · have c16b0 := beq_iff_eq.mpr c16
     have c16b1 := bne_eq_false_iff_eq.mpr c16
     clear c16
     generalize hy415 : ((([x17_1] : List Int)) : List Int) = y415 at H
     have Ny415 := Aside0.mk hy415.symm; clear hy415
     replace H := ifP H; obtain ⟨c17, H⟩ := H
     have LMc17 := Aside0.mk c17
     clear c17
     generalize hy418 : ((x5_1 ++ [y415]) : List (List Int)) = y418 at H
     have Ny418 := Aside0.mk hy418.symm; clear hy418
     have H' := Aside0.mk H
     clear H
     have p413 : 0 <= (x17_1 : Int) := OD
     have q413 : x17_1 < (l0_2.length : Int) := OD
     obtain ⟨ad413, e413, hx413_0, hx413_1⟩ := at_T83 HR0_2.1 x17_1 p413 q413
     cases e413
     replace hx413_0 := (HB.1.cell (World.block_lt_of_cell? w _ hx413_0)).trans hx413_0
     replace hx413_1 := (HB.1.cell (World.block_lt_of_cell? w _ hx413_1)).trans hx413_1
     replace p413 := eq_true p413
     replace q413 := eq_true q413
     go_wp2_with (first | ((with_reducible refine gate_dst (N := 7) rfl ?_); refine boxE (cs := #[.int .i64 0, .int .i64 0]) (t := 83) ?_; intro gb414 hg w18 hbox hb; refine E12 (rB HO_3.1 hb) (sB HO_5.1 hb) (bB BK405.1 hb) (bB BK409.1 hb) (bS HB.1 hb) (hbox) (gX HB.1 hg) (gX HB.1 hg) (nB BK405.1 hg) (nC BK405.1 hg) (nB BK409.1 hg) (nC BK409.1 hg) ?_; clear HO_3 HO_5 BK405 BK409 HB; intro HO_3 HO_5 BK405 BK409 HB BK414 GW414 GE414 NB405_414 NB414_405 NB409_414 NB414_409; clear hb hbox hg; have hnb19 := NB414_405.1; have hnc19 := NB405_414.1; have hnb20 := NB414_409.1; have hnc20 := NB409_414.1; obtain ⟨hcz21_0, hcz21_1, hfz21_0, hfz21_1⟩ := cz2 BK414.1) | ((with_reducible refine gate_dst (N := 39) rfl ?_); refine look_event (b := gb409) (om := om_1) (mm := xm_1) rfl (.tmp 34) (.tmp 38) 92 3 rfl Try.underlying92 Try.underlying3 ?hz (by first | exact BK409.1 | (refine obj_far ?_ NB409_414.1 _; refine obj_far ?_ NB409_414.1 _; exact BK409.1)) HM409.1 ?hm (rd t406 x17_1) ?hx HKY.1 ?_; (case hz => exact impl_unitsOf.zero3 _); (case hm => rfl); (case hx => first | rfl | (go_simp; done) | (go_simp; rfl))) | ((with_reducible refine gate_dst (N := 28) rfl ?_); refine R_lit (Kd.int .i64) _ 3 ?hg (N := 28) ?hd (xs := ([x17_1] : List Int)) (inner := [.int .i64 x17_1]) (ok := fun _ => True) (okp := fun _ => True) ?hr ?hp (fun _ hk => hk) trivial (Below.refl _ _) (Nat.le_refl _) (by simp) ?_; (case hd => rfl); (case hg => rfl); (case hr => first | (go_simp; done) | (go_simp; rfl)); (case hp => exact (Reps.one (show Kd.M (Kd.int .i64) _ _ _ x17_1 [.int .i64 x17_1] from rfl) (Reps.none _ _))); intro v416 w22 ho23 hb hg_ hnew_; clear hg_ hnew_; (first | rw [<- Ny415.1] at ho23 | (simp only [Int.reduceToNat] at ho23; rw [<- Ny415.1] at ho23)); refine E7 (R_elder' (by (with_reducible repeat (first | apply R_alloc | apply R_drewN | apply R_drew)); exact (R_mono (RQ gb414 1 (RQ gb414 0 (R_types HO_3.1 BK414.1 (by decide)) _) _) (fun _ h_ => h_.1))) (R_base ho23) hb) (S_elder' (by (with_reducible repeat (first | apply S_alloc | apply S_drewN | apply S_drew)); exact (S_mono (SQ gb414 1 (SQ gb414 0 (S_types HO_5.1 BK414.1 (by decide)) _) _) (fun _ h_ => h_.1))) (R_base ho23) hb) (R_lower (R_new' ho23 (R_lt (by (with_reducible repeat (first | apply R_alloc | apply R_drewN | apply R_drew)); exact (R_mono (RQ gb414 1 (RQ gb414 0 (R_types HO_3.1 BK414.1 (by decide)) _) _) (fun _ h_ => h_.1))))) (bZ HB.1)) (blk_below (g := gb405) (o := .cells #[.int .i64 a0_0, .int .i64 a0_1, .slice (some ad413) l0_2.length c0_2] 30 (0, 0)) (PF1 NB405_414.1 BK405.1) hb) (blk_below (g := gb409) (o := om_1) (by (with_reducible repeat (first | refine blk_drewN ?_ _ | refine blk_drew ?_ | refine blk_alloc ?_ _)); refine obj_far ?_ NB409_414.1 _; (with_reducible repeat (first | refine blk_drewN ?_ _ | refine blk_drew ?_ | refine blk_alloc ?_ _)); refine obj_far ?_ NB409_414.1 _; (with_reducible repeat (first | refine blk_drewN ?_ _ | refine blk_drew ?_ | refine blk_alloc ?_ _)); exact BK409.1) hb) (blk_below (g := gb414) (o := .cells #[.int .i64 ((rd_T83 l0_2 x17_1).f0), .int .i64 ((rd_T83 l0_2 x17_1).f1)] 83 (0, 0)) (PF0 BK414.1) hb) (bS HB.1 hb) ?_; clear HO_3 HO_5 BK405 BK409 BK414 HB; intro HO_3 HO_5 HO417 BK405 BK409 BK414 HB; clear hb ho23; obtain ⟨Ao25, co25, eo25⟩ := R_slice HO417.1; subst eo25) | ((with_reducible refine gate_builtin (b := .append) (xs := #[.tmp 26, .tmp 29]) rfl ?_); at_builtin; refine S_append (Kd.slice 3 (Kd.int .i64)) (w0 := w) w.heap.size rfl (.tmp 26) (.tmp 29) 60 38 (.slice none 0 0) 24 rfl Try.underlying60 info38 rfl (by decide) (by omega) u5 x5_1 y415 [.slice Ao25 y415.length co25] (fun k_ => some k_ ≠ (v407 : Value).ownBlock) (fun k_ => some k_ = (.slice Ao25 y415.length co25 : Value).ownBlock) rfl rfl ?aP (fun k_ hk_ => ((R_mono (ok' := fun k_ => ((fun k_ => some k_ ≠ (v407 : Value).ownBlock)) k_ /\ some k_ ≠ (u5 : Value).ownBlock) (R_apart' (HO417.1) (S_typed HO_5.1) (by decide)) (fun k_ hk => ⟨hk.1.2, hk.2⟩))).1 k_ hk_.symm) ?aF ?aO ?aB ?aS ?aL ?_; (case aP => exact M_row (R_mono (R_tight rfl (R_mono (ok' := fun k_ => ((fun k_ => some k_ ≠ (v407 : Value).ownBlock)) k_ /\ some k_ ≠ (u5 : Value).ownBlock) (R_apart' (HO417.1) (S_typed HO_5.1) (by decide)) (fun k_ hk => ⟨hk.1.2, hk.2⟩))) (fun _ h_ => h_))); (case aB => exact (BL HB.1)); (case aF => exact (fun k_ hk => Kd.fresh' (R_lt (PR HO_3.1)) k_ hk)); (case aO => exact (SPE (S_mono HO_5.1 (fun k_ hk => ⟨hk.1, fun e_ => hk.2 e_⟩)))); (case aS => exact (bZ HB.1)); (case aL => have := LMc17.1; omega); intro v419 w24 ho hb hg hat; rw [<- Ny418.1] at ho; refine E6 (R_over' (PR HO_3.1) (S_typed (PS HO_5.1)) (by decide) hg) (bG BK405.1 hg (S_ne HO_5.1 BK405.1 (by decide))) (bG BK409.1 hg (map_ne (S_R HO_5.1) BK409.1 HM409.1)) (bG BK414.1 hg (S_ne HO_5.1 BK414.1 (by decide))) (hb) (ho) ?_; clear HO_3 BK405 BK409 BK414 HB HO_5 HO417; intro HO_3 BK405 BK409 BK414 HB HO420; clear ho hb hg hat))
     go_roundg k1
     case measure => have := HK1.1; omega
     case rel => exact ⟨(y418), (wrap64 (x17_1 + 1)), (xm_1), (om_1), RG, H', ⟨by have := HK1.1; omega⟩, ⟨RPE (R_mono HO_3.1 (fun _ hk => trivial))⟩, ⟨PS HO420.1⟩, ⟨PB BK405.1⟩, ⟨PB BK409.1⟩, HM409, ⟨BL HB.1⟩⟩
   have c16b0 := beq_eq_false_iff_ne.mpr c16
   have c16b1 := bne_iff_ne.mpr c16
   replace H := ifQ H; rcases H with ⟨c26, H⟩ | ⟨c26, H⟩
   · have c26b0 := beq_iff_eq.mpr c26
     have c26b1 := bne_eq_false_iff_eq.mpr c26
     clear c26
     replace H := ifN H; obtain ⟨c27b0, H⟩ := H
     have c_k : wrap64 (rd t406 x17_1) = (rd t406 x17_1) := by
      apply Classical.byContradiction; intro h_; rw [if_neg h_] at H; exact absurd H (by simp)
     rw [if_pos c_k] at H
     have HKY := Aside0.mk c_k
     clear c_k
     replace H := ifQ H; rcases H with ⟨c28, H⟩ | ⟨c28, H⟩
     · have c28b0 : mhas xm_1 (rd t406 x17_1) = true := c28
       have c28b1 : (!mhas xm_1 (rd t406 x17_1)) = false := by rw [c28]; rfl
       clear c28
       replace H := ifN H; obtain ⟨c29b0, H⟩ := H
       replace H := ifN H; obtain ⟨c30b0, H⟩ := H
       replace H := ifP H; obtain ⟨c31, H⟩ := H
       have LMc31 := Aside0.mk c31
       clear c31
       generalize hy423 : (((rd_L3 x5_1 (mget xm_1 (rd t406 x17_1))) ++ [x17_1]) : List Int) = y423 at H
       have Ny423 := Aside0.mk hy423.symm; clear hy423
       generalize hy426 : ((x5_1.set ((mget xm_1 (rd t406 x17_1)) : Int).toNat y423) : List (List Int)) = y426 at H
       have Ny426 := Aside0.mk hy426.symm; clear hy426
       have H' := Aside0.mk H
       clear H
       have p413 : 0 <= (x17_1 : Int) := OD
       have q413 : x17_1 < (l0_2.length : Int) := OD
       obtain ⟨ad413, e413, hx413_0, hx413_1⟩ := at_T83 HR0_2.1 x17_1 p413 q413
       cases e413
       replace hx413_0 := (HB.1.cell (World.block_lt_of_cell? w _ hx413_0)).trans hx413_0
       replace hx413_1 := (HB.1.cell (World.block_lt_of_cell? w _ hx413_1)).trans hx413_1
       replace p413 := eq_true p413
       replace q413 := eq_true q413
       go_wp2_with (first | ((with_reducible refine gate_dst (N := 7) rfl ?_); refine boxE (cs := #[.int .i64 0, .int .i64 0]) (t := 83) ?_; intro gb414 hg w33 hbox hb; refine E12 (rB HO_3.1 hb) (sB HO_5.1 hb) (bB BK405.1 hb) (bB BK409.1 hb) (bS HB.1 hb) (hbox) (gX HB.1 hg) (gX HB.1 hg) (nB BK405.1 hg) (nC BK405.1 hg) (nB BK409.1 hg) (nC BK409.1 hg) ?_; clear HO_3 HO_5 BK405 BK409 HB; intro HO_3 HO_5 BK405 BK409 HB BK414 GW414 GE414 NB405_414 NB414_405 NB409_414 NB414_409; clear hb hbox hg; have hnb34 := NB414_405.1; have hnc34 := NB405_414.1; have hnb35 := NB414_409.1; have hnc35 := NB409_414.1; obtain ⟨hcz36_0, hcz36_1, hfz36_0, hfz36_1⟩ := cz2 BK414.1) | ((with_reducible refine gate_dst (N := 39) rfl ?_); refine look_event (b := gb409) (om := om_1) (mm := xm_1) rfl (.tmp 34) (.tmp 38) 92 3 rfl Try.underlying92 Try.underlying3 ?hz (by first | exact BK409.1 | (refine obj_far ?_ NB409_414.1 _; refine obj_far ?_ NB409_414.1 _; exact BK409.1)) HM409.1 ?hm (rd t406 x17_1) ?hx HKY.1 ?_; (case hz => exact impl_unitsOf.zero3 _); (case hm => rfl); (case hx => first | rfl | (go_simp; done) | (go_simp; rfl))) | ((with_reducible refine gate_store (t := 83) (p := 7) rfl ?_); refine storeE (t := 83) (p := 7) (w1 := ((w33.setCell ⟨gb414, 0, none⟩ (.int .i64 ((rd_T83 l0_2 x17_1).f0))).setCell ⟨gb414, 1, none⟩ (.int .i64 ((rd_T83 l0_2 x17_1).f1)))) ?_; intro w37 hw; have n0_ : Aside0 (Kd.R (Kd.int .i64) 3 w37 w.heap.size (fun _ => True) v407 t406) := ⟨(by rw [hw]; exact (by (with_reducible repeat (first | apply R_alloc | apply R_drewN | apply R_drew)); exact R_mono (RQ gb414 1 (RQ gb414 0 (R_types HO_3.1 BK414.1 (by decide)) _) _) (fun _ hk => trivial)))⟩; have n1_ : Aside0 (Kd.S (Kd.slice 3 (Kd.int .i64)) 38 w37 w.heap.size (fun k_ => some k_ ≠ (v407 : Value).ownBlock) u5 x5_1) := ⟨(by rw [hw]; exact (by (with_reducible repeat (first | apply S_alloc | apply S_drewN | apply S_drew)); exact S_mono (SQ gb414 1 (SQ gb414 0 (S_types HO_5.1 BK414.1 (by decide)) _) _) (fun _ hk => hk.1)))⟩; have n2_ : Aside0 (w37.heap[gb405]? = some (.cells #[.int .i64 a0_0, .int .i64 a0_1, .slice (some ad413) l0_2.length c0_2] 30 (0, 0))) := ⟨(by rw [hw]; exact (PF1 NB405_414.1 BK405.1))⟩; have n3_ : Aside0 (w37.heap[gb409]? = some om_1) := ⟨(by rw [hw]; exact (by (with_reducible repeat (first | refine blk_drewN ?_ _ | refine blk_drew ?_ | refine blk_alloc ?_ _)); refine obj_far ?_ NB409_414.1 _; (with_reducible repeat (first | refine blk_drewN ?_ _ | refine blk_drew ?_ | refine blk_alloc ?_ _)); refine obj_far ?_ NB409_414.1 _; (with_reducible repeat (first | refine blk_drewN ?_ _ | refine blk_drew ?_ | refine blk_alloc ?_ _)); exact BK409.1))⟩; have n4_ : Aside0 (w37.heap[gb414]? = some (.cells #[.int .i64 ((rd_T83 l0_2 x17_1).f0), .int .i64 ((rd_T83 l0_2 x17_1).f1)] 83 (0, 0))) := ⟨(by rw [hw]; exact (PF0 BK414.1))⟩; have n5_ : Aside0 (Below w.heap.size w w37) := ⟨(by rw [hw]; exact (BL HB.1))⟩; clear hw; clear HO_3; clear HO_5; clear BK405; clear BK409; clear BK414; clear HB; have HO_3 := n0_; have HO_5 := n1_; have BK405 := n2_; have BK409 := n3_; have BK414 := n4_; have HB := n5_; clear n0_ n1_ n2_ n3_ n4_ n5_; obtain ⟨hcz38_0, hcz38_1, hfz38_0, hfz38_1⟩ := cz2 BK414.1; obtain ⟨Ao39, co39, eo39⟩ := R_slice HO_3.1; subst eo39; have p421 : 0 <= (x17_1 : Int) := OD; have q421 : x17_1 < (t406.length : Int) := OD; obtain ⟨ad421, e421, hx421_0⟩ := Kd.at_int (R_reads' HO_3.1).2.2 x17_1 p421 q421; cases e421; replace p421 := eq_true p421; replace q421 := eq_true q421; have hnb40 := NB409_405.1; have hnc40 := NB405_409.1; obtain ⟨Ao42, co42, eo42⟩ := S_slice HO_5.1; subst eo42; have p422 : 0 <= ((mget xm_1 (rd t406 x17_1)) : Int) := OD; have q422 : (mget xm_1 (rd t406 x17_1)) < (x5_1.length : Int) := OD; obtain ⟨ad422, A422_0, c422_0, e422, hx422_0, hl422_0, hi422_0⟩ := at_L3 (S_reads' HO_5.1).2.2 (mget xm_1 (rd t406 x17_1)) p422 q422; cases e422; obtain ⟨ce422, hce422, hMe422, hcc422⟩ := S_get HO_5.1 [] (mget xm_1 (rd t406 x17_1)) p422 (by first | exact q422 | exact OD | (have e_ := (S_reads' HO_5.1).1; omega)); obtain ⟨ve422_0, rfl, ge422_0⟩ := hMe422; have hv422_0 := hcc422 0 _ rfl; rw [Nat.add_zero, show ((Kd.slice 3 (Kd.int .i64))).sz = 1 from rfl, Nat.mul_one] at hv422_0; replace hv422_0 := Option.some.inj (hv422_0.symm.trans hx422_0); rw [hv422_0] at ge422_0; have HL422_0 := Aside0.mk (show Kd.R (Kd.int .i64) 3 _ _ _ _ (rd_L3 x5_1 (mget xm_1 (rd t406 x17_1))) from ge422_0); clear hv422_0 ge422_0; have HX422_0 := Aside0.mk hx422_0; clear hcc422 hce422; have HR422_0 := Aside0.mk hi422_0; have HC422_0 := Aside0.mk hl422_0; clear hi422_0 hl422_0; replace p422 := eq_true p422; replace q422 := eq_true q422; obtain ⟨go43, co43, eo43, gb43, gl43, cl43, HG43⟩ := S_form HO_5.1 (by have h_ : ((mget xm_1 (rd t406 x17_1)) : Int) < ((x5_1.length : Int) : Int) := OD; have h2_ : 0 <= ((mget xm_1 (rd t406 x17_1)) : Int) := (OD); omega); (first | cases eo43 | (injection eo43 with ea_ en_ ec_; (first | subst ea_ | (injection ea_ with ea_; subst ea_)); subst ec_; clear en_)); have GB43 := Aside0.mk gb43; have GG43 := Aside0.mk HG43; clear gb43 gl43 HG43; (first | simp only [add_plain] at hx422_0 | skip); obtain ⟨oki43, ce43, hcl43, hM43, hcc43, _, _, hH43⟩ := S_elem HO_5.1 [] ((mget xm_1 (rd t406 x17_1)) : Int) (OD) (by have h_ : ((mget xm_1 (rd t406 x17_1)) : Int) < ((x5_1.length : Int) : Int) := OD; first | exact h_ | (have e_ := (S_reads' HO_5.1).1; omega) | simpa using h_); obtain ⟨ve43_0, rfl, ge43_0⟩ := hM43; have hv43 := hcc43 0 _ rfl; have hX43 := HX422_0.1; (try simp only [add_plain] at hX43); (try simp only [Nat.add_zero] at hv43); (try rw [show ((Kd.slice 3 (Kd.int .i64))).sz = 1 from rfl, Nat.mul_one] at hv43); replace hv43 := Option.some.inj (hv43.symm.trans hX43); subst hv43; clear hX43 hcc43 hcl43; have UU43 := Aside0.mk (show Kd.R (Kd.int .i64) 3 _ w.heap.size oki43 (.slice A422_0 (rd_L3 x5_1 (mget xm_1 (rd t406 x17_1))).length c422_0) (rd_L3 x5_1 (mget xm_1 (rd t406 x17_1))) from ge43_0); have HH43 := Aside0.mk hH43; have HN43 := Aside0.mk (S_reads' HO_5.1).1; clear hH43 ge43_0) | ((with_reducible refine gate_builtin (b := .append) (xs := #[.tmp 60, .tmp 62]) rfl ?_); at_builtin; refine R_append (Kd.int .i64) (w0 := w) w.heap.size rfl (.tmp 60) (.tmp 62) 38 3 (.int .i64 0) 8 rfl Try.underlying38 info3 rfl (by decide) (by omega) (.slice A422_0 (rd_L3 x5_1 (mget xm_1 (rd t406 x17_1))).length c422_0) (rd_L3 x5_1 (mget xm_1 (rd t406 x17_1))) x17_1 [.int .i64 x17_1] (fun k_ => oki43 k_ ∨ ((fun k_ => some k_ ≠ (.slice (some ad421) t406.length co39 : Value).ownBlock)) k_ /\ w37.heap.size <= k_) (fun _ => False) rfl rfl ?aP (fun _ hk => hk.elim) ?aF ?aO ?aB ?aS ?aL ?_; (case aP => exact rfl); (case aB => exact (BL HB.1)); (case aF => exact (fun k_ hk => .inr ⟨Kd.fresh' (R_lt (PR HO_3.1)) k_ hk, hk⟩)); (case aO => exact (RPE (R_mono UU43.1 (fun _ hk => .inl hk)))); (case aS => exact (bZ HB.1)); (case aL => have := LMc31.1; omega); intro v424 w44 ho hb hg hat; rw [<- Ny423.1] at ho; refine E7 (R_grown2 (PR HO_3.1) rfl hg (fun k_ e_ => (HL422_0.1.1 k_ e_).1)) (bG BK405.1 hg (R_ne HL422_0.1 BK405.1 (by decide))) (bG BK409.1 hg (map_ne HL422_0.1 BK409.1 HM409.1)) (bG BK414.1 hg (R_ne HL422_0.1 BK414.1 (by decide))) (hb) (H_grown (H_widen (by repeat (first | exact HH43.1 | refine H_alloc ?_ _ | refine H_drewN ?_ _ | refine H_drew ?_))) hg (fun k_ e_ => .inl (UU43.1.1 k_ e_))) (ho) ?_; clear HO_3 BK405 BK409 BK414 HB HH43 HO_5 UU43 HL422_0; intro HO_3 BK405 BK409 BK414 HB HH43 HO425; clear ho hb hg hat; have p32 : 0 <= ((mget xm_1 (rd t406 x17_1)) : Int) := OD; have q32 : ((mget xm_1 (rd t406 x17_1)) : Int) < ((x5_1.length : Int) : Int) := OD; replace p32 := eq_true p32; replace q32 := eq_true q32; obtain ⟨Ao47, co47, eo47⟩ := R_slice HO425.1; subst eo47; obtain ⟨_, _, hraw45, _, _, hcc45, _⟩ := H_raw HH43.1 (OD) (by have h_ : ((mget xm_1 (rd t406 x17_1)) : Int) < ((x5_1.length : Int) : Int) := OD; first | exact h_ | (have e_ := (HN43.1); omega) | simpa using h_); obtain ⟨_, hfr45⟩ := H_at HH43.1 (OD) (by have h_ : ((mget xm_1 (rd t406 x17_1)) : Int) < ((x5_1.length : Int) : Int) := OD; first | exact h_ | (have e_ := (HN43.1); omega) | simpa using h_); have hx45_0 := hcc45 0 _ rfl; have hf45_0 := hfr45 0; (try simp only [Nat.add_zero] at hx45_0 hf45_0); (try rw [show ((Kd.slice 3 (Kd.int .i64))).sz = 1 from rfl, Nat.mul_one] at hx45_0); (try rw [show ((Kd.slice 3 (Kd.int .i64))).sz = 1 from rfl, Nat.mul_one] at hf45_0); (try simp only [Go.IntWalk.toNatUp] at hx45_0 hf45_0); have HP45 := S_seg0 HH43.1 (OD) (by have h_ : ((mget xm_1 (rd t406 x17_1)) : Int) < ((x5_1.length : Int) : Int) := OD; first | exact h_ | (have e_ := (HN43.1); omega) | simpa using h_) (seg := [.slice Ao47 y423.length co47]) (j := 0) (show 1 <= 1 from by decide) (x' := y423) (M_row HO425.1) (fun _ hk => hk); (try simp only [show ((Kd.slice 3 (Kd.int .i64))).sz = 1 from rfl, Nat.mul_one, Nat.add_zero] at HP45); clear hcc45 hfr45) | ((with_reducible refine gate_store (t := 38) (p := 64) rfl ?_); refine storeE (t := 38) (p := 64) (w1 := (w44.setCell ⟨go43, ((mget xm_1 (rd t406 x17_1)) : Int).toNat, none⟩ (.slice Ao47 y423.length co47))) ?_; intro w46 hw; have hg : w44.grownBy w46 (some go43) := (by rw [hw]; exact HP45.2); have hp_ : Kd.S (Kd.slice 3 (Kd.int .i64)) 38 w46 w.heap.size (fun k_ => some k_ ≠ (.slice (some ad421) t406.length co39 : Value).ownBlock) (.slice (some ⟨go43, 0, none⟩) x5_1.length co42) y426 := (by rw [hw, Ny426.1]; exact HP45.1); clear HP45; refine E6 (R_over' (v := (.slice (some ⟨go43, 0, none⟩) x5_1.length co42)) (PR HO_3.1) (R_typed hraw45) (by decide) hg) (bG BK405.1 hg (R_ne hraw45 BK405.1 (by decide))) (bG BK409.1 hg (map_ne hraw45 BK409.1 HM409.1)) (bG BK414.1 hg (R_ne hraw45 BK414.1 (by decide))) ((by rw [hw]; exact below_set HB.1 GB43.1 : Below w.heap.size w w46)) (hp_) ?_; clear HO_3 BK405 BK409 BK414 HB HO425 HH43; intro HO_3 BK405 BK409 BK414 HB HO_5; clear hg hw hp_ hraw45))
       go_roundg k1
       case measure => have := HK1.1; omega
       case rel => exact ⟨(y426), (wrap64 (x17_1 + 1)), (xm_1), (om_1), RG, H', ⟨by have := HK1.1; omega⟩, ⟨PR HO_3.1⟩, ⟨PS HO_5.1⟩, ⟨PB BK405.1⟩, ⟨PB BK409.1⟩, HM409, ⟨BL HB.1⟩⟩
     have c28b0 : mhas xm_1 (rd t406 x17_1) = false := by simpa using c28
     have c28b1 : (!mhas xm_1 (rd t406 x17_1)) = true := by rw [c28b0]; rfl
     have c_m : xm_1.length < 17592186044416 := by
      apply Classical.byContradiction; intro h_; rw [if_neg h_] at H; exact absurd H (by simp)
     rw [if_pos c_m] at H
     have HML := Aside0.mk c_m
     clear c_m
     replace H := ifP H; obtain ⟨c48, H⟩ := H
     have LMc48 := Aside0.mk c48
     clear c48
     replace H := nameB H; obtain ⟨y429, Ny429, H⟩ := H
     replace H := ifP H; obtain ⟨c49, H⟩ := H
     have c49b0 := decide_eq_true c49
     have c49b1 : decide (0 <= x5_1.length) = true := decide_eq_true (by omega)
     clear c49
     replace H := ifP H; obtain ⟨c50, H⟩ := H
     have c50b0 := decide_eq_true c50
     have c50b1 : decide (x5_1.length < y429.length) = true := decide_eq_true (Int.ofNat_lt.mp c50)
     clear c50
     replace H := ifP H; obtain ⟨c51, H⟩ := H
     have LMc51 := Aside0.mk c51
     clear c51
     generalize hy433 : (((rd_L3 y429 (x5_1.length : Int)) ++ [x17_1]) : List Int) = y433 at H
     have Ny433 := Aside0.mk hy433.symm; clear hy433
     generalize hy436 : ((y429.set ((x5_1.length : Int) : Int).toNat y433) : List (List Int)) = y436 at H
     have Ny436 := Aside0.mk hy436.symm; clear hy436
     have H' := Aside0.mk H
     clear H
     have p413 : 0 <= (x17_1 : Int) := OD
     have q413 : x17_1 < (l0_2.length : Int) := OD
     obtain ⟨ad413, e413, hx413_0, hx413_1⟩ := at_T83 HR0_2.1 x17_1 p413 q413
     cases e413
     replace hx413_0 := (HB.1.cell (World.block_lt_of_cell? w _ hx413_0)).trans hx413_0
     replace hx413_1 := (HB.1.cell (World.block_lt_of_cell? w _ hx413_1)).trans hx413_1
     replace p413 := eq_true p413
     replace q413 := eq_true q413
     go_wp2_with (first | ((with_reducible refine gate_dst (N := 7) rfl ?_); refine boxE (cs := #[.int .i64 0, .int .i64 0]) (t := 83) ?_; intro gb414 hg w53 hbox hb; refine E12 (rB HO_3.1 hb) (sB HO_5.1 hb) (bB BK405.1 hb) (bB BK409.1 hb) (bS HB.1 hb) (hbox) (gX HB.1 hg) (gX HB.1 hg) (nB BK405.1 hg) (nC BK405.1 hg) (nB BK409.1 hg) (nC BK409.1 hg) ?_; clear HO_3 HO_5 BK405 BK409 HB; intro HO_3 HO_5 BK405 BK409 HB BK414 GW414 GE414 NB405_414 NB414_405 NB409_414 NB414_409; clear hb hbox hg; have hnb54 := NB414_405.1; have hnc54 := NB405_414.1; have hnb55 := NB414_409.1; have hnc55 := NB409_414.1; obtain ⟨hcz56_0, hcz56_1, hfz56_0, hfz56_1⟩ := cz2 BK414.1; obtain ⟨Ao57, co57, eo57⟩ := R_slice HO_3.1; subst eo57; have p421 : 0 <= (x17_1 : Int) := OD; have q421 : x17_1 < (t406.length : Int) := OD; obtain ⟨ad421, e421, hx421_0⟩ := Kd.at_int (R_reads' HO_3.1).2.2 x17_1 p421 q421; cases e421; have hn421_0 : ad421.block ≠ gb414 := Kd.own_blk (R_ne HO_3.1 BK414.1 (by decide)); have hn421_1 : ad421.block ≠ gb414 := Kd.own_blk (R_ne HO_3.1 BK414.1 (by decide)); replace hx421_0 := (cell_far (p := ⟨gb414, 0, none⟩) (by first | (rw [add_block]; exact hn421_0) | (show (Addr.add _ _).block ≠ _; rw [add_block]; exact hn421_0) | exact hn421_0) (.int .i64 ((rd_T83 l0_2 x17_1).f0))).trans hx421_0; replace hx421_0 := (cell_far (p := ⟨gb414, 1, none⟩) (by first | (rw [add_block]; exact hn421_1) | (show (Addr.add _ _).block ≠ _; rw [add_block]; exact hn421_1) | exact hn421_1) (.int .i64 ((rd_T83 l0_2 x17_1).f1))).trans hx421_0; clear hn421_0; clear hn421_1; replace p421 := eq_true p421; replace q421 := eq_true q421; have hnb58 := NB409_405.1; have hnc58 := NB405_409.1; obtain ⟨Ao60, co60, eo60⟩ := S_slice HO_5.1; subst eo60; have p427 : 0 <= (x17_1 : Int) := OD; have q427 : x17_1 < (t406.length : Int) := OD; obtain ⟨ad427, e427, hx427_0⟩ := Kd.at_int (R_reads' HO_3.1).2.2 x17_1 p427 q427; obtain rfl : ad421 = ad427 := (by injection e427); have hn427_0 : ad421.block ≠ gb414 := Kd.own_blk (R_ne HO_3.1 BK414.1 (by decide)); have hn427_1 : ad421.block ≠ gb414 := Kd.own_blk (R_ne HO_3.1 BK414.1 (by decide)); replace hx427_0 := (cell_far (p := ⟨gb414, 0, none⟩) (by first | (rw [add_block]; exact hn427_0) | (show (Addr.add _ _).block ≠ _; rw [add_block]; exact hn427_0) | exact hn427_0) (.int .i64 ((rd_T83 l0_2 x17_1).f0))).trans hx427_0; replace hx427_0 := (cell_far (p := ⟨gb414, 1, none⟩) (by first | (rw [add_block]; exact hn427_1) | (show (Addr.add _ _).block ≠ _; rw [add_block]; exact hn427_1) | exact hn427_1) (.int .i64 ((rd_T83 l0_2 x17_1).f1))).trans hx427_0; clear hn427_0; clear hn427_1; replace p427 := eq_true p427; replace q427 := eq_true q427) | ((with_reducible refine gate_dst (N := 39) rfl ?_); refine look_event (b := gb409) (om := om_1) (mm := xm_1) rfl (.tmp 34) (.tmp 38) 92 3 rfl Try.underlying92 Try.underlying3 ?hz (by first | exact BK409.1 | (refine obj_far ?_ NB409_414.1 _; refine obj_far ?_ NB409_414.1 _; exact BK409.1)) HM409.1 ?hm (rd t406 x17_1) ?hx HKY.1 ?_; (case hz => exact impl_unitsOf.zero3 _); (case hm => rfl); (case hx => first | rfl | (go_simp; done) | (go_simp; rfl))) | ((with_reducible refine gate_put (T := 92) (m := .tmp 46) (x := .tmp 50) (v := .tmp 51) rfl ?_); refine put_event (b := gb409) (om := om_1) (mm := xm_1) rfl (.tmp 46) (.tmp 50) (.tmp 51) 92 3 rfl rfl Try.underlying92 Try.underlying3 (by (with_reducible repeat (first | refine blk_drewN ?_ _ | refine blk_drew ?_ | refine blk_alloc ?_ _)); refine obj_far ?_ NB409_414.1 _; (with_reducible repeat (first | refine blk_drewN ?_ _ | refine blk_drew ?_ | refine blk_alloc ?_ _)); refine obj_far ?_ NB409_414.1 _; (with_reducible repeat (first | refine blk_drewN ?_ _ | refine blk_drew ?_ | refine blk_alloc ?_ _)); exact BK409.1) HM409.1 HML.1 ?hm (rd t406 x17_1) (x5_1.length : Int) ?hx ?hv HKY.1 ?hw ?_; (case hm => rfl); (case hx => first | rfl | (go_simp; done) | (go_simp; rfl)); (case hv => first | rfl | (go_simp; done) | (go_simp; rfl)); (case hw => (have := LMc48.1; exact wrap64_nat (by omega))); intro w61 om2_ hbm hM2_ hg; have n0_ := Aside0.mk (R_put (g := gb409) (om := om_1) (by (with_reducible repeat (first | apply R_alloc | apply R_drewN | apply R_drew)); exact (R_mono (RQ gb414 1 (RQ gb414 0 (R_types HO_3.1 BK414.1 (by decide)) _) _) (fun _ h_ => h_.1))) (by (with_reducible repeat (first | refine blk_drewN ?_ _ | refine blk_drew ?_ | refine blk_alloc ?_ _)); refine obj_far ?_ NB409_414.1 _; (with_reducible repeat (first | refine blk_drewN ?_ _ | refine blk_drew ?_ | refine blk_alloc ?_ _)); refine obj_far ?_ NB409_414.1 _; (with_reducible repeat (first | refine blk_drewN ?_ _ | refine blk_drew ?_ | refine blk_alloc ?_ _)); exact BK409.1) HM409.1 hg); have n1_ := Aside0.mk (S_put (g := gb409) (om := om_1) (by (with_reducible repeat (first | apply S_alloc | apply S_drewN | apply S_drew)); exact (S_mono (SQ gb414 1 (SQ gb414 0 (S_types HO_5.1 BK414.1 (by decide)) _) _) (fun _ h_ => h_.1))) (by (with_reducible repeat (first | refine blk_drewN ?_ _ | refine blk_drew ?_ | refine blk_alloc ?_ _)); refine obj_far ?_ NB409_414.1 _; (with_reducible repeat (first | refine blk_drewN ?_ _ | refine blk_drew ?_ | refine blk_alloc ?_ _)); refine obj_far ?_ NB409_414.1 _; (with_reducible repeat (first | refine blk_drewN ?_ _ | refine blk_drew ?_ | refine blk_alloc ?_ _)); exact BK409.1) HM409.1 hg); have n2_ := Aside0.mk (blk_grown (g := gb405) (o := .cells #[.int .i64 a0_0, .int .i64 a0_1, .slice (some ad413) l0_2.length c0_2] 30 (0, 0)) (PF1 NB405_414.1 BK405.1) hg (fun e_ => NB405_409.1 (Option.some.inj e_))); have n3_ := Aside0.mk (hbm); have n4_ := Aside0.mk (blk_grown (g := gb414) (o := .cells #[.int .i64 ((rd_T83 l0_2 x17_1).f0), .int .i64 ((rd_T83 l0_2 x17_1).f1)] 83 (0, 0)) (PF0 BK414.1) hg (fun e_ => NB414_409.1 (Option.some.inj e_))); have n5_ := Aside0.mk (pw_below_grown (BL HB.1) _ (bZ HB.1) hg (fun k_ e_ => by cases e_; exact GE409.1)); clear HO_3; clear HO_5; clear BK405; clear BK409; clear BK414; clear HB; clear HM409; have HO_3 := n0_; have HO_5 := n1_; have BK405 := n2_; have BK409 := n3_; have BK414 := n4_; have HB := n5_; have HM409 := Aside0.mk hM2_; clear n0_ n1_ n2_ n3_ n4_ n5_; clear hbm hM2_ hg) | ((with_reducible refine gate_builtin (b := .append) (xs := #[.tmp 52, .tmp 53]) rfl ?_); at_builtin; refine S_append (Kd.slice 3 (Kd.int .i64)) (w0 := w) w.heap.size rfl (.tmp 52) (.tmp 53) 60 38 (.slice none 0 0) 24 rfl Try.underlying60 info38 rfl (by decide) (by omega) (.slice Ao60 x5_1.length co60) x5_1 [] [.slice none 0 0] (fun k_ => some k_ ≠ (.slice (some ad421) t406.length co57 : Value).ownBlock) (fun _ => False) rfl rfl ?aP (fun _ hk => hk.elim) ?aF ?aO ?aB ?aS ?aL ?_; (case aP => exact ⟨_, rfl, R_nil _ _ _ _ _⟩); (case aB => exact (BL HB.1)); (case aF => exact (fun k_ hk => Kd.fresh' (R_lt (PR HO_3.1)) k_ hk)); (case aO => exact (SPE (S_mono HO_5.1 (fun k_ hk => ⟨hk, fun e_ => e_⟩)))); (case aS => exact (bZ HB.1)); (case aL => have := LMc48.1; omega); intro v430 w62 ho hb hg hat; rw [<- Ny429.1] at ho; have n0_ := Aside0.mk (R_over' (PR HO_3.1) (S_typed (PS HO_5.1)) (by decide) hg); have n1_ := Aside0.mk (bG BK405.1 hg (S_ne HO_5.1 BK405.1 (by decide))); have n2_ := Aside0.mk (bG BK409.1 hg (map_ne (S_R HO_5.1) BK409.1 HM409.1)); have n3_ := Aside0.mk (bG BK414.1 hg (S_ne HO_5.1 BK414.1 (by decide))); have n5_ := Aside0.mk (hb); have n6_ := Aside0.mk (ho); clear HO_3; clear BK405; clear BK409; clear BK414; clear HB; clear HO_5; have HO_3 := n0_; have BK405 := n1_; have BK409 := n2_; have BK414 := n3_; have HB := n5_; have HO431 := n6_; clear n0_ n1_ n2_ n3_ n5_ n6_; clear ho hb hg hat; obtain ⟨Ao63, co63, eo63⟩ := S_slice HO431.1; subst eo63; have p432 : 0 <= ((x5_1.length : Int) : Int) := OD; have q432 : (x5_1.length : Int) < (y429.length : Int) := OD; obtain ⟨ad432, A432_0, c432_0, e432, hx432_0, hl432_0, hi432_0⟩ := at_L3 (S_reads' HO431.1).2.2 (x5_1.length : Int) p432 q432; cases e432; obtain ⟨ce432, hce432, hMe432, hcc432⟩ := S_get HO431.1 [] (x5_1.length : Int) p432 (by first | exact q432 | exact OD | (have e_ := (S_reads' HO431.1).1; omega)); obtain ⟨ve432_0, rfl, ge432_0⟩ := hMe432; have hv432_0 := hcc432 0 _ rfl; rw [Nat.add_zero, show ((Kd.slice 3 (Kd.int .i64))).sz = 1 from rfl, Nat.mul_one] at hv432_0; replace hv432_0 := Option.some.inj (hv432_0.symm.trans hx432_0); rw [hv432_0] at ge432_0; have HL432_0 := Aside0.mk (show Kd.R (Kd.int .i64) 3 _ _ _ _ (rd_L3 y429 (x5_1.length : Int)) from ge432_0); clear hv432_0 ge432_0; have HX432_0 := Aside0.mk hx432_0; clear hcc432 hce432; have HR432_0 := Aside0.mk hi432_0; have HC432_0 := Aside0.mk hl432_0; clear hi432_0 hl432_0; (try simp only [Go.IntWalk.toNatUp] at hx432_0); replace p432 := eq_true p432; replace q432 := eq_true q432; obtain ⟨go64, co64, eo64, gb64, gl64, cl64, HG64⟩ := S_form HO431.1 (by have h_ : ((x5_1.length : Int) : Int) < ((y429.length : Int) : Int) := OD; have h2_ : 0 <= ((x5_1.length : Int) : Int) := (OD); omega); (first | cases eo64 | (injection eo64 with ea_ en_ ec_; (first | subst ea_ | (injection ea_ with ea_; subst ea_)); subst ec_; clear en_)); have GB64 := Aside0.mk gb64; have GG64 := Aside0.mk HG64; clear gb64 gl64 HG64; (first | simp only [add_plain] at hx432_0 | skip); obtain ⟨oki64, ce64, hcl64, hM64, hcc64, _, _, hH64⟩ := S_elem HO431.1 [] ((x5_1.length : Int) : Int) (OD) (by have h_ : ((x5_1.length : Int) : Int) < ((y429.length : Int) : Int) := OD; first | exact h_ | (have e_ := (S_reads' HO431.1).1; omega) | simpa using h_); obtain ⟨ve64_0, rfl, ge64_0⟩ := hM64; have hv64 := hcc64 0 _ rfl; have hX64 := HX432_0.1; (try simp only [add_plain] at hX64); (try simp only [Nat.add_zero] at hv64); (try rw [show ((Kd.slice 3 (Kd.int .i64))).sz = 1 from rfl, Nat.mul_one] at hv64); replace hv64 := Option.some.inj (hv64.symm.trans hX64); subst hv64; clear hX64 hcc64 hcl64; have UU64 := Aside0.mk (show Kd.R (Kd.int .i64) 3 _ w.heap.size oki64 (.slice A432_0 (rd_L3 y429 (x5_1.length : Int)).length c432_0) (rd_L3 y429 (x5_1.length : Int)) from ge64_0); have HH64 := Aside0.mk hH64; have HN64 := Aside0.mk (S_reads' HO431.1).1; clear hH64 ge64_0) | ((with_reducible refine gate_builtin (b := .append) (xs := #[.tmp 60, .tmp 62]) rfl ?_); at_builtin; refine R_append (Kd.int .i64) (w0 := w) w.heap.size rfl (.tmp 60) (.tmp 62) 38 3 (.int .i64 0) 8 rfl Try.underlying38 info3 rfl (by decide) (by omega) (.slice A432_0 (rd_L3 y429 (x5_1.length : Int)).length c432_0) (rd_L3 y429 (x5_1.length : Int)) x17_1 [.int .i64 x17_1] (fun k_ => oki64 k_ ∨ ((fun k_ => some k_ ≠ (.slice (some ad421) t406.length co57 : Value).ownBlock)) k_ /\ w62.heap.size <= k_) (fun _ => False) rfl rfl ?aP (fun _ hk => hk.elim) ?aF ?aO ?aB ?aS ?aL ?_; (case aP => exact rfl); (case aB => exact (BL HB.1)); (case aF => exact (fun k_ hk => .inr ⟨Kd.fresh' (R_lt (PR HO_3.1)) k_ hk, hk⟩)); (case aO => exact (RPE (R_mono UU64.1 (fun _ hk => .inl hk)))); (case aS => exact (bZ HB.1)); (case aL => have := LMc51.1; omega); intro v434 w65 ho hb hg hat; rw [<- Ny433.1] at ho; have n0_ := Aside0.mk (R_grown2 (PR HO_3.1) rfl hg (fun k_ e_ => (HL432_0.1.1 k_ e_).1)); have n1_ := Aside0.mk (bG BK405.1 hg (R_ne HL432_0.1 BK405.1 (by decide))); have n2_ := Aside0.mk (bG BK409.1 hg (map_ne HL432_0.1 BK409.1 HM409.1)); have n3_ := Aside0.mk (bG BK414.1 hg (R_ne HL432_0.1 BK414.1 (by decide))); have n5_ := Aside0.mk (hb); have n6_ := Aside0.mk (H_grown (H_widen (by repeat (first | exact HH64.1 | refine H_alloc ?_ _ | refine H_drewN ?_ _ | refine H_drew ?_))) hg (fun k_ e_ => .inl (UU64.1.1 k_ e_))); have n7_ := Aside0.mk (ho); clear HO_3; clear BK405; clear BK409; clear BK414; clear HB; clear HH64; clear HO431; clear UU64; clear HL432_0; have HO_3 := n0_; have BK405 := n1_; have BK409 := n2_; have BK414 := n3_; have HB := n5_; have HH64 := n6_; have HO435 := n7_; clear n0_ n1_ n2_ n3_ n5_ n6_ n7_; clear ho hb hg hat; have p52 : 0 <= ((x5_1.length : Int) : Int) := OD; have q52 : ((x5_1.length : Int) : Int) < ((y429.length : Int) : Int) := OD; replace p52 := eq_true p52; replace q52 := eq_true q52; obtain ⟨Ao68, co68, eo68⟩ := R_slice HO435.1; subst eo68; obtain ⟨_, _, hraw66, _, _, hcc66, _⟩ := H_raw HH64.1 (OD) (by have h_ : ((x5_1.length : Int) : Int) < ((y429.length : Int) : Int) := OD; first | exact h_ | (have e_ := (HN64.1); omega) | simpa using h_); obtain ⟨_, hfr66⟩ := H_at HH64.1 (OD) (by have h_ : ((x5_1.length : Int) : Int) < ((y429.length : Int) : Int) := OD; first | exact h_ | (have e_ := (HN64.1); omega) | simpa using h_); have hx66_0 := hcc66 0 _ rfl; have hf66_0 := hfr66 0; (try simp only [Nat.add_zero] at hx66_0 hf66_0); (try rw [show ((Kd.slice 3 (Kd.int .i64))).sz = 1 from rfl, Nat.mul_one] at hx66_0); (try rw [show ((Kd.slice 3 (Kd.int .i64))).sz = 1 from rfl, Nat.mul_one] at hf66_0); (try simp only [Go.IntWalk.toNatUp] at hx66_0 hf66_0); have HP66 := S_seg0 HH64.1 (OD) (by have h_ : ((x5_1.length : Int) : Int) < ((y429.length : Int) : Int) := OD; first | exact h_ | (have e_ := (HN64.1); omega) | simpa using h_) (seg := [.slice Ao68 y433.length co68]) (j := 0) (show 1 <= 1 from by decide) (x' := y433) (M_row HO435.1) (fun _ hk => hk); (try simp only [show ((Kd.slice 3 (Kd.int .i64))).sz = 1 from rfl, Nat.mul_one, Nat.add_zero] at HP66); clear hcc66 hfr66) | ((with_reducible refine gate_store (t := 38) (p := 64) rfl ?_); refine storeE (t := 38) (p := 64) (w1 := (w65.setCell ⟨go64, ((x5_1.length : Int) : Int).toNat, none⟩ (.slice Ao68 y433.length co68))) ?_; intro w67 hw; have hg : w65.grownBy w67 (some go64) := (by rw [hw]; exact HP66.2); have hp_ : Kd.S (Kd.slice 3 (Kd.int .i64)) 38 w67 w.heap.size (fun k_ => some k_ ≠ (.slice (some ad421) t406.length co57 : Value).ownBlock) (.slice (some ⟨go64, 0, none⟩) y429.length co63) y436 := (by rw [hw, Ny436.1]; exact HP66.1); clear HP66; have n0_ := Aside0.mk (R_over' (v := (.slice (some ⟨go64, 0, none⟩) y429.length co63)) (PR HO_3.1) (R_typed hraw66) (by decide) hg); have n1_ := Aside0.mk (bG BK405.1 hg (R_ne hraw66 BK405.1 (by decide))); have n2_ := Aside0.mk (bG BK409.1 hg (map_ne hraw66 BK409.1 HM409.1)); have n3_ := Aside0.mk (bG BK414.1 hg (R_ne hraw66 BK414.1 (by decide))); have n5_ := Aside0.mk ((by rw [hw]; exact below_set HB.1 GB64.1 : Below w.heap.size w w67)); have n6_ := Aside0.mk (hp_); clear HO_3; clear BK405; clear BK409; clear BK414; clear HB; clear HO435; clear HH64; have HO_3 := n0_; have BK405 := n1_; have BK409 := n2_; have BK414 := n3_; have HB := n5_; have HO431 := n6_; clear n0_ n1_ n2_ n3_ n5_ n6_; clear hg hw hp_ hraw66))
     go_roundg k1
     case measure => have := HK1.1; omega
     case rel => exact ⟨(y436), (wrap64 (x17_1 + 1)), (((rd t406 x17_1), (x5_1.length : Int)) :: xm_1), (_), RG, H', ⟨by have := HK1.1; omega⟩, ⟨PR HO_3.1⟩, ⟨PS HO431.1⟩, ⟨PB BK405.1⟩, ⟨PB BK409.1⟩, HM409, ⟨BL HB.1⟩⟩
   have c26b0 := beq_eq_false_iff_ne.mpr c26
   have c26b1 := bne_iff_ne.mpr c26
   have H' := Aside0.mk H
   clear H
   have p413 : 0 <= (x17_1 : Int) := OD
   have q413 : x17_1 < (l0_2.length : Int) := OD
   obtain ⟨ad413, e413, hx413_0, hx413_1⟩ := at_T83 HR0_2.1 x17_1 p413 q413
   cases e413
   replace hx413_0 := (HB.1.cell (World.block_lt_of_cell? w _ hx413_0)).trans hx413_0
   replace hx413_1 := (HB.1.cell (World.block_lt_of_cell? w _ hx413_1)).trans hx413_1
   replace p413 := eq_true p413
   replace q413 := eq_true q413
   go_wp2_with (first | ((with_reducible refine gate_dst (N := 7) rfl ?_); refine boxE (cs := #[.int .i64 0, .int .i64 0]) (t := 83) ?_; intro gb414 hg w69 hbox hb; refine E12 (rB HO_3.1 hb) (sB HO_5.1 hb) (bB BK405.1 hb) (bB BK409.1 hb) (bS HB.1 hb) (hbox) (gX HB.1 hg) (gX HB.1 hg) (nB BK405.1 hg) (nC BK405.1 hg) (nB BK409.1 hg) (nC BK409.1 hg) ?_; clear HO_3 HO_5 BK405 BK409 HB; intro HO_3 HO_5 BK405 BK409 HB BK414 GW414 GE414 NB405_414 NB414_405 NB409_414 NB414_409; clear hb hbox hg; have hnb70 := NB414_405.1; have hnc70 := NB405_414.1; have hnb71 := NB414_409.1; have hnc71 := NB409_414.1; obtain ⟨hcz72_0, hcz72_1, hfz72_0, hfz72_1⟩ := cz2 BK414.1) | ((with_reducible refine gate_dst (N := 39) rfl ?_); refine look_event (b := gb409) (om := om_1) (mm := xm_1) rfl (.tmp 34) (.tmp 38) 92 3 rfl Try.underlying92 Try.underlying3 ?hz (by first | exact BK409.1 | (refine obj_far ?_ NB409_414.1 _; refine obj_far ?_ NB409_414.1 _; exact BK409.1)) HM409.1 ?hm (rd t406 x17_1) ?hx HKY.1 ?_; (case hz => exact impl_unitsOf.zero3 _); (case hm => rfl); (case hx => first | rfl | (go_simp; done) | (go_simp; rfl))))
   go_roundg k1
   case measure => have := HK1.1; omega
   case rel => exact ⟨(x5_1), (wrap64 (x17_1 + 1)), (xm_1), (om_1), RG, H', ⟨by have := HK1.1; omega⟩, ⟨by (with_reducible repeat (first | apply R_alloc | apply R_drewN | apply R_drew)); exact R_mono (RQ gb414 1 (RQ gb414 0 (R_types HO_3.1 BK414.1 (by decide)) _) _) (fun _ hk => trivial)⟩, ⟨by (with_reducible repeat (first | apply S_alloc | apply S_drewN | apply S_drew)); exact S_mono (SQ gb414 1 (SQ gb414 0 (S_types HO_5.1 BK414.1 (by decide)) _) _) (fun _ hk => hk.1)⟩, ⟨by (with_reducible repeat (first | refine blk_drewN ?_ _ | refine blk_drew ?_ | refine blk_alloc ?_ _)); refine blk_far ?_ NB405_414.1 _; (with_reducible repeat (first | refine blk_drewN ?_ _ | refine blk_drew ?_ | refine blk_alloc ?_ _)); refine blk_far ?_ NB405_414.1 _; (with_reducible repeat (first | refine blk_drewN ?_ _ | refine blk_drew ?_ | refine blk_alloc ?_ _)); exact BK405.1⟩, ⟨by (with_reducible repeat (first | refine blk_drewN ?_ _ | refine blk_drew ?_ | refine blk_alloc ?_ _)); refine obj_far ?_ NB409_414.1 _; (with_reducible repeat (first | refine blk_drewN ?_ _ | refine blk_drew ?_ | refine blk_alloc ?_ _)); refine obj_far ?_ NB409_414.1 _; (with_reducible repeat (first | refine blk_drewN ?_ _ | refine blk_drew ?_ | refine blk_alloc ?_ _)); exact BK409.1⟩, HM409, ⟨BL HB.1⟩⟩
 obtain rfl := Option.some.inj H
 go_wp2
 go_ret
 exact ⟨_, RF, SPE (S_mono HO_5.1 (fun _ hk => trivial)), BL HB.1⟩
def impl_IsCell.f (a0_0 : Int) (a0_1 : Int) : Option (Bool) := if a0_0 < 0 then (some false) else (if a0_0 > 7 then (some false) else (if a0_1 < 0 then (some false) else (if a0_1 > 1 then (some false) else (if a0_1 = 0 then (some true) else (if a0_0 = 3 then (some true) else (some (a0_0 == 6)))))))
theorem impl_IsCell.calls (a0_0 : Int) (a0_1 : Int) (r : Bool) (w : World) (h : impl_IsCell.f a0_0 a0_1 = some r) :
 Calls Try.prog 99 #[.agg #[.int .i64 a0_0, .int .i64 a0_1]] w fun e w' => e = .returned (.bool r) /\ Below w.heap.size w w' := by
 have hu83 := Try.underlying83
 have HB := Aside0.mk (Below.refl w.heap.size w)
 have H := h
 clear h
 unfold impl_IsCell.f at H
 replace H := ifB H; rcases H with ⟨c2b0, H⟩ | ⟨c2b0, H⟩
 · obtain rfl := Option.some.inj H
   go_enter Try.func99, Try.ntmps99
   go_wp2_with (first | ((with_reducible refine gate_dst (N := 1) rfl ?_); refine boxE (cs := #[.int .i64 a0_0, .int .i64 a0_1]) (t := 83) ?_; intro gb437 hg w3 hbox hb; refine E4b HB.1 hg hbox hb ?_; clear HB; intro HB BK437 GW437 GE437; clear hb hbox hg; obtain ⟨hcz4_0, hcz4_1, hfz4_0, hfz4_1⟩ := cz2 BK437.1))
   go_ret
   exact ⟨RF, BL HB.1⟩
 replace H := ifQ H; rcases H with ⟨c5, H⟩ | ⟨c5, H⟩
 · have c5b0 : decide (7 < a0_0) = true := decide_eq_true c5
   clear c5
   obtain rfl := Option.some.inj H
   go_enter Try.func99, Try.ntmps99
   go_wp2_with (first | ((with_reducible refine gate_dst (N := 1) rfl ?_); refine boxE (cs := #[.int .i64 a0_0, .int .i64 a0_1]) (t := 83) ?_; intro gb437 hg w6 hbox hb; refine E4b HB.1 hg hbox hb ?_; clear HB; intro HB BK437 GW437 GE437; clear hb hbox hg; obtain ⟨hcz7_0, hcz7_1, hfz7_0, hfz7_1⟩ := cz2 BK437.1))
   go_ret
   exact ⟨RF, BL HB.1⟩
 have c5b0 : decide (7 < a0_0) = false := decide_eq_false c5
 clear c5
 replace H := ifB H; rcases H with ⟨c8b0, H⟩ | ⟨c8b0, H⟩
 · obtain rfl := Option.some.inj H
   go_enter Try.func99, Try.ntmps99
   go_wp2_with (first | ((with_reducible refine gate_dst (N := 1) rfl ?_); refine boxE (cs := #[.int .i64 a0_0, .int .i64 a0_1]) (t := 83) ?_; intro gb437 hg w9 hbox hb; refine E4b HB.1 hg hbox hb ?_; clear HB; intro HB BK437 GW437 GE437; clear hb hbox hg; obtain ⟨hcz10_0, hcz10_1, hfz10_0, hfz10_1⟩ := cz2 BK437.1))
   go_ret
   exact ⟨RF, BL HB.1⟩
 replace H := ifQ H; rcases H with ⟨c11, H⟩ | ⟨c11, H⟩
 · have c11b0 : decide (1 < a0_1) = true := decide_eq_true c11
   clear c11
   obtain rfl := Option.some.inj H
   go_enter Try.func99, Try.ntmps99
   go_wp2_with (first | ((with_reducible refine gate_dst (N := 1) rfl ?_); refine boxE (cs := #[.int .i64 a0_0, .int .i64 a0_1]) (t := 83) ?_; intro gb437 hg w12 hbox hb; refine E4b HB.1 hg hbox hb ?_; clear HB; intro HB BK437 GW437 GE437; clear hb hbox hg; obtain ⟨hcz13_0, hcz13_1, hfz13_0, hfz13_1⟩ := cz2 BK437.1))
   go_ret
   exact ⟨RF, BL HB.1⟩
 have c11b0 : decide (1 < a0_1) = false := decide_eq_false c11
 clear c11
 replace H := ifQ H; rcases H with ⟨c14, H⟩ | ⟨c14, H⟩
 · have c14b0 := beq_iff_eq.mpr c14
   have c14b1 := bne_eq_false_iff_eq.mpr c14
   clear c14
   obtain rfl := Option.some.inj H
   go_enter Try.func99, Try.ntmps99
   go_wp2_with (first | ((with_reducible refine gate_dst (N := 1) rfl ?_); refine boxE (cs := #[.int .i64 a0_0, .int .i64 a0_1]) (t := 83) ?_; intro gb437 hg w15 hbox hb; refine E4b HB.1 hg hbox hb ?_; clear HB; intro HB BK437 GW437 GE437; clear hb hbox hg; obtain ⟨hcz16_0, hcz16_1, hfz16_0, hfz16_1⟩ := cz2 BK437.1))
   go_ret
   exact ⟨RF, BL HB.1⟩
 have c14b0 := beq_eq_false_iff_ne.mpr c14
 have c14b1 := bne_iff_ne.mpr c14
 replace H := ifQ H; rcases H with ⟨c17, H⟩ | ⟨c17, H⟩
 · have c17b0 := beq_iff_eq.mpr c17
   have c17b1 := bne_eq_false_iff_eq.mpr c17
   clear c17
   obtain rfl := Option.some.inj H
   go_enter Try.func99, Try.ntmps99
   go_wp2_with (first | ((with_reducible refine gate_dst (N := 1) rfl ?_); refine boxE (cs := #[.int .i64 a0_0, .int .i64 a0_1]) (t := 83) ?_; intro gb437 hg w18 hbox hb; refine E4b HB.1 hg hbox hb ?_; clear HB; intro HB BK437 GW437 GE437; clear hb hbox hg; obtain ⟨hcz19_0, hcz19_1, hfz19_0, hfz19_1⟩ := cz2 BK437.1))
   go_ret
   exact ⟨RF, BL HB.1⟩
 have c17b0 := beq_eq_false_iff_ne.mpr c17
 have c17b1 := bne_iff_ne.mpr c17
 obtain rfl := Option.some.inj H
 go_enter Try.func99, Try.ntmps99
 go_wp2_with (first | ((with_reducible refine gate_dst (N := 1) rfl ?_); refine boxE (cs := #[.int .i64 a0_0, .int .i64 a0_1]) (t := 83) ?_; intro gb437 hg w20 hbox hb; refine E4b HB.1 hg hbox hb ?_; clear HB; intro HB BK437 GW437 GE437; clear hb hbox hg; obtain ⟨hcz21_0, hcz21_1, hfz21_0, hfz21_1⟩ := cz2 BK437.1))
 go_ret
 exact ⟨RF, BL HB.1⟩
def impl_validCells.l0 : Nat -> List (S83) -> Int -> Int -> Option (Bool)
 | 0, _, _, _ => none
 | k + 1, x8, x9, x10 => if x10 < x9 then (if 0 <= x10 then (if x10 < (x8.length : Int) then ((impl_IsCell.f ((rd_T83 x8 x10).f0) ((rd_T83 x8 x10).f1)).bind fun t440 => (if t440 = true then (impl_validCells.l0 k x8 x9 (wrap64 (x10 + 1))) else (some false))) else (none)) else (none)) else (some true)
def impl_validCells.f (k : Nat) (l0 : List (S83)) : Option (Bool) := if (l0.length : Int) > 90 then (some false) else (impl_validCells.l0 k l0 (l0.length : Int) 0)
theorem impl_validCells.mono_l : ∀ k, (∀ y0 y1 y2, LeO (impl_validCells.l0 k y0 y1 y2) (impl_validCells.l0 (k + 1) y0 y1 y2))
 | 0 => fun _ _ _ r h => by simp [impl_validCells.l0] at h
 | k + 1 => by
  have ih0 := impl_validCells.mono_l k
  intros
  first | unfold impl_validCells.l0
  exact LM1 ih0
theorem impl_validCells.mono : ∀ a0 k, LeO (impl_validCells.f k a0) (impl_validCells.f (k + 1) a0) := by
 intro a0 k
 have ih0 := impl_validCells.mono_l k
 unfold impl_validCells.f
 exact LM1 ih0
theorem impl_validCells.calls (k : Nat) (A0 : Option Addr) (c0 : Nat) (l0 : List (S83)) (r : Bool) (w : World) (hr0 : Kd.C k83 w A0 l0.length l0) (hc0 : l0.length <= c0) (h : impl_validCells.f k l0 = some r) :
 Calls Try.prog 86 #[.slice A0 l0.length c0] w fun e w' => e = .returned (.bool r) /\ Below w.heap.size w w' := by
 have hu83 := Try.underlying83
 have HR0 := Aside0.mk hr0
 have HC0 := Aside0.mk hc0
 clear hr0 hc0
 have HB := Aside0.mk (Below.refl w.heap.size w)
 have H := h
 clear h
 unfold impl_validCells.f at H
 replace H := ifQ H; rcases H with ⟨c2, H⟩ | ⟨c2, H⟩
 · have c2b0 : decide (90 < (l0.length : Int)) = true := decide_eq_true c2
   have c2b1 : decide (90 < l0.length) = true := decide_eq_true (by omega)
   clear c2
   obtain rfl := Option.some.inj H
   go_enter Try.func86, Try.ntmps86
   go_wp2
   go_ret
   exact ⟨RF, BL HB.1⟩
 have c2b0 : decide (90 < (l0.length : Int)) = false := decide_eq_false c2
 have c2b1 : decide (90 < l0.length) = false := decide_eq_false (by omega)
 clear c2
 have H' := Aside0.mk H
 clear H
 go_enter Try.func86, Try.ntmps86
 go_wp2
 go_loopg [10] k (fun kq v10 w' => ∃ (x10_1 : Int), v10 = .int .i64 x10_1 /\ Aside0 (impl_validCells.l0 kq l0 (l0.length : Int) x10_1 = some r) /\ Aside0 (kq <= k) /\ Aside0 (Below w.heap.size w w'))
 case atStart => exact ⟨(0), RG, H', ⟨Nat.le_refl _⟩, ⟨BL HB.1⟩⟩
 clear H'
 clear c2b0 c2b1
 obtain ⟨x10_1, rfl, HA, HK1, HB⟩ := hrel
 cases gk with
 | zero => exact absurd HA.1 (by simp [impl_validCells.l0])
 | succ k1 => ?_
 have H := HA.1
 clear HA
 simp only [impl_validCells.l0] at H
 replace H := ifB H; rcases H with ⟨c3b0, H⟩ | ⟨c3b0, H⟩
 · replace H := ifN H; obtain ⟨c4b0, H⟩ := H
   replace H := ifN H; obtain ⟨c5b0, H⟩ := H
   replace H := bindA H; obtain ⟨t440, A6, H⟩ := H
   replace H := ifX H; rcases H with ⟨rfl, H⟩ | ⟨rfl, H⟩
   · have H' := Aside0.mk H
     clear H
     have p438 : 0 <= (x10_1 : Int) := OD
     have q438 : x10_1 < (l0.length : Int) := OD
     obtain ⟨ad438, e438, hx438_0, hx438_1⟩ := at_T83 HR0.1 x10_1 p438 q438
     cases e438
     replace hx438_0 := (HB.1.cell (World.block_lt_of_cell? w _ hx438_0)).trans hx438_0
     replace hx438_1 := (HB.1.cell (World.block_lt_of_cell? w _ hx438_1)).trans hx438_1
     replace p438 := eq_true p438
     replace q438 := eq_true q438
     go_wp2_with (first | ((with_reducible refine gate_dst (N := 4) rfl ?_); refine boxE (cs := #[.int .i64 0, .int .i64 0]) (t := 83) ?_; intro gb439 hg w8 hbox hb; refine E4b HB.1 hg hbox hb ?_; clear HB; intro HB BK439 GW439 GE439; clear hb hbox hg; obtain ⟨hcz9_0, hcz9_1, hfz9_0, hfz9_1⟩ := cz2 BK439.1) | ((with_reducible refine gate_callee (f := 99) rfl ?_); refine goesM (N := (some 15)) #[.agg #[.int .i64 ((rd_T83 l0 x10_1).f0), .int .i64 ((rd_T83 l0 x10_1).f1)]] Try.func99 ?_; (with_reducible refine (impl_IsCell.calls ((rd_T83 l0 x10_1).f0) ((rd_T83 l0 x10_1).f1) true _ A6.1).mono ?_); rintro e w10 ⟨rfl, hb⟩; refine ⟨_, rfl, ?_⟩; refine E2 (blk_below (g := gb439) (o := .cells #[.int .i64 ((rd_T83 l0 x10_1).f0), .int .i64 ((rd_T83 l0 x10_1).f1)] 83 (0, 0)) (PF0 BK439.1) hb) (bS HB.1 hb) ?_; clear BK439 HB; intro BK439 HB; (try clear hb)))
     go_roundg k1
     case measure => have := HK1.1; omega
     case rel => exact ⟨(wrap64 (x10_1 + 1)), RG, H', ⟨by have := HK1.1; omega⟩, ⟨BL HB.1⟩⟩
   obtain rfl := Option.some.inj H
   have p438 : 0 <= (x10_1 : Int) := OD
   have q438 : x10_1 < (l0.length : Int) := OD
   obtain ⟨ad438, e438, hx438_0, hx438_1⟩ := at_T83 HR0.1 x10_1 p438 q438
   cases e438
   replace hx438_0 := (HB.1.cell (World.block_lt_of_cell? w _ hx438_0)).trans hx438_0
   replace hx438_1 := (HB.1.cell (World.block_lt_of_cell? w _ hx438_1)).trans hx438_1
   replace p438 := eq_true p438
   replace q438 := eq_true q438
   go_wp2_with (first | ((with_reducible refine gate_dst (N := 4) rfl ?_); refine boxE (cs := #[.int .i64 0, .int .i64 0]) (t := 83) ?_; intro gb439 hg w11 hbox hb; refine E4b HB.1 hg hbox hb ?_; clear HB; intro HB BK439 GW439 GE439; clear hb hbox hg; obtain ⟨hcz12_0, hcz12_1, hfz12_0, hfz12_1⟩ := cz2 BK439.1) | ((with_reducible refine gate_callee (f := 99) rfl ?_); refine goesM (N := (some 15)) #[.agg #[.int .i64 ((rd_T83 l0 x10_1).f0), .int .i64 ((rd_T83 l0 x10_1).f1)]] Try.func99 ?_; (with_reducible refine (impl_IsCell.calls ((rd_T83 l0 x10_1).f0) ((rd_T83 l0 x10_1).f1) false _ A6.1).mono ?_); rintro e w13 ⟨rfl, hb⟩; refine ⟨_, rfl, ?_⟩; refine E2 (blk_below (g := gb439) (o := .cells #[.int .i64 ((rd_T83 l0 x10_1).f0), .int .i64 ((rd_T83 l0 x10_1).f1)] 83 (0, 0)) (PF0 BK439.1) hb) (bS HB.1 hb) ?_; clear BK439 HB; intro BK439 HB; (try clear hb)))
   go_ret
   exact ⟨RF, BL HB.1⟩
 obtain rfl := Option.some.inj H
 go_wp2
 go_ret
 exact ⟨RF, BL HB.1⟩
def impl_IsBoard.f (k : Nat) (a0_0 : Int) (a0_1 : Int) (l0_2 : List (S83)) : Option (Bool) := if a0_0 ≥ 1 then (if a0_0 <= 10 then (if a0_1 ≥ 1 then (if a0_1 <= 9 then (if (l0_2.length : Int) = (wrap64 (a0_0 * a0_1)) then ((impl_validCells.f k l0_2).bind fun t442 => (some t442)) else (some false)) else (some false)) else (some false)) else (some false)) else (some false)
theorem impl_IsBoard.mono : ∀ a0 a1 a2 k, LeO (impl_IsBoard.f k a0 a1 a2) (impl_IsBoard.f (k + 1) a0 a1 a2) := by
 intro a0 a1 a2 k
 unfold impl_IsBoard.f
 repeat' first
  | (with_reducible exact impl_validCells.mono _ _)
  | (with_reducible exact LeO.refl _)
  | (with_reducible exact LeO.none _)
  | (with_reducible refine LeO.ite ?_ ?_)
  | (with_reducible refine LeO.bind ?_ (fun _ => ?_))
  | exact impl_validCells.mono _ _
  | exact LeO.none _
  | refine LeO.ite ?_ ?_
  | refine LeO.bind ?_ (fun _ => ?_)
theorem impl_IsBoard.calls (k : Nat) (a0_0 : Int) (a0_1 : Int) (A0_2 : Option Addr) (c0_2 : Nat) (l0_2 : List (S83)) (r : Bool) (w : World) (hr0_2 : Kd.C k83 w A0_2 l0_2.length l0_2) (hc0_2 : l0_2.length <= c0_2) (h : impl_IsBoard.f k a0_0 a0_1 l0_2 = some r) :
 Calls Try.prog 73 #[.agg #[.int .i64 a0_0, .int .i64 a0_1, .slice A0_2 l0_2.length c0_2]] w fun e w' => e = .returned (.bool r) /\ Below w.heap.size w w' := by
 have hu30 := Try.underlying30
 have HR0_2 := Aside0.mk hr0_2
 have HC0_2 := Aside0.mk hc0_2
 clear hr0_2 hc0_2
 have HB := Aside0.mk (Below.refl w.heap.size w)
 have H := h
 clear h
 unfold impl_IsBoard.f at H
 replace H := ifQ H; rcases H with ⟨c2, H⟩ | ⟨c2, H⟩
 · have c2b0 : decide (1 <= a0_0) = true := decide_eq_true c2
   clear c2
   replace H := ifB H; rcases H with ⟨c3b0, H⟩ | ⟨c3b0, H⟩
   · replace H := ifQ H; rcases H with ⟨c4, H⟩ | ⟨c4, H⟩
     · have c4b0 : decide (1 <= a0_1) = true := decide_eq_true c4
       clear c4
       replace H := ifB H; rcases H with ⟨c5b0, H⟩ | ⟨c5b0, H⟩
       · replace H := ifQ H; rcases H with ⟨c6, H⟩ | ⟨c6, H⟩
         · have c6b0 := beq_iff_eq.mpr c6
           have c6b1 := bne_eq_false_iff_eq.mpr c6
           clear c6
           replace H := bindA H; obtain ⟨t442, A7, H⟩ := H
           obtain rfl := Option.some.inj H
           go_enter Try.func73, Try.ntmps73
           go_wp2_with (first | ((with_reducible refine gate_dst (N := 1) rfl ?_); (try (refine gate_guard (by rfl) ?_; dsimp only)); refine boxE (cs := #[.int .i64 a0_0, .int .i64 a0_1, .slice A0_2 l0_2.length c0_2]) (t := 30) ?_; intro gb441 hg w8 hbox hb; refine E4b HB.1 hg hbox hb ?_; clear HB; intro HB BK441 GW441 GE441; clear hb hbox hg; obtain ⟨hcz9_0, hcz9_1, hcz9_2, hfz9_0, hfz9_1, hfz9_2⟩ := cz3 BK441.1) | (go_at_call 86; (with_reducible refine (impl_validCells.calls k _ _ l0_2 t442 _ ?side1 ?side2 A7.1).mono ?_); (case side1 => exact CB (C_below HR0_2.1 HB.1)); (case side2 => exact HC0_2.1); rintro e w10 ⟨rfl, hb⟩; refine E2 (bB BK441.1 hb) (bS HB.1 hb) ?_; clear BK441 HB; intro BK441 HB; (try clear hb)))
           go_ret
           exact ⟨RF, BL HB.1⟩
         have c6b0 := beq_eq_false_iff_ne.mpr c6
         have c6b1 := bne_iff_ne.mpr c6
         obtain rfl := Option.some.inj H
         go_enter Try.func73, Try.ntmps73
         go_wp2_with (first | ((with_reducible refine gate_dst (N := 1) rfl ?_); (try (refine gate_guard (by rfl) ?_; dsimp only)); refine boxE (cs := #[.int .i64 a0_0, .int .i64 a0_1, .slice A0_2 l0_2.length c0_2]) (t := 30) ?_; intro gb441 hg w11 hbox hb; refine E4b HB.1 hg hbox hb ?_; clear HB; intro HB BK441 GW441 GE441; clear hb hbox hg; obtain ⟨hcz12_0, hcz12_1, hcz12_2, hfz12_0, hfz12_1, hfz12_2⟩ := cz3 BK441.1))
         go_ret
         exact ⟨RF, BL HB.1⟩
       obtain rfl := Option.some.inj H
       go_enter Try.func73, Try.ntmps73
       go_wp2_with (first | ((with_reducible refine gate_dst (N := 1) rfl ?_); (try (refine gate_guard (by rfl) ?_; dsimp only)); refine boxE (cs := #[.int .i64 a0_0, .int .i64 a0_1, .slice A0_2 l0_2.length c0_2]) (t := 30) ?_; intro gb441 hg w13 hbox hb; refine E4b HB.1 hg hbox hb ?_; clear HB; intro HB BK441 GW441 GE441; clear hb hbox hg; obtain ⟨hcz14_0, hcz14_1, hcz14_2, hfz14_0, hfz14_1, hfz14_2⟩ := cz3 BK441.1))
       go_ret
       exact ⟨RF, BL HB.1⟩
     have c4b0 : decide (1 <= a0_1) = false := decide_eq_false c4
     clear c4
     obtain rfl := Option.some.inj H
     go_enter Try.func73, Try.ntmps73
     go_wp2_with (first | ((with_reducible refine gate_dst (N := 1) rfl ?_); (try (refine gate_guard (by rfl) ?_; dsimp only)); refine boxE (cs := #[.int .i64 a0_0, .int .i64 a0_1, .slice A0_2 l0_2.length c0_2]) (t := 30) ?_; intro gb441 hg w15 hbox hb; refine E4b HB.1 hg hbox hb ?_; clear HB; intro HB BK441 GW441 GE441; clear hb hbox hg; obtain ⟨hcz16_0, hcz16_1, hcz16_2, hfz16_0, hfz16_1, hfz16_2⟩ := cz3 BK441.1))
     go_ret
     exact ⟨RF, BL HB.1⟩
   obtain rfl := Option.some.inj H
   go_enter Try.func73, Try.ntmps73
   go_wp2_with (first | ((with_reducible refine gate_dst (N := 1) rfl ?_); (try (refine gate_guard (by rfl) ?_; dsimp only)); refine boxE (cs := #[.int .i64 a0_0, .int .i64 a0_1, .slice A0_2 l0_2.length c0_2]) (t := 30) ?_; intro gb441 hg w17 hbox hb; refine E4b HB.1 hg hbox hb ?_; clear HB; intro HB BK441 GW441 GE441; clear hb hbox hg; obtain ⟨hcz18_0, hcz18_1, hcz18_2, hfz18_0, hfz18_1, hfz18_2⟩ := cz3 BK441.1))
   go_ret
   exact ⟨RF, BL HB.1⟩
 have c2b0 : decide (1 <= a0_0) = false := decide_eq_false c2
 clear c2
 obtain rfl := Option.some.inj H
 go_enter Try.func73, Try.ntmps73
 go_wp2_with (first | ((with_reducible refine gate_dst (N := 1) rfl ?_); (try (refine gate_guard (by rfl) ?_; dsimp only)); refine boxE (cs := #[.int .i64 a0_0, .int .i64 a0_1, .slice A0_2 l0_2.length c0_2]) (t := 30) ?_; intro gb441 hg w19 hbox hb; refine E4b HB.1 hg hbox hb ?_; clear HB; intro HB BK441 GW441 GE441; clear hb hbox hg; obtain ⟨hcz20_0, hcz20_1, hcz20_2, hfz20_0, hfz20_1, hfz20_2⟩ := cz3 BK441.1))
 go_ret
 exact ⟨RF, BL HB.1⟩
def impl_fewUnits.f (k : Nat) (a0_0 : Int) (a0_1 : Int) (l0_2 : List (S83)) : Option (Bool) := (impl_IsBoard.f k a0_0 a0_1 l0_2).bind fun t444 => (if t444 = true then ((impl_unitsOf.f k a0_0 a0_1 l0_2).bind fun t445 => (some (decide ((t445.length : Int) <= 8)))) else (some false))
theorem impl_fewUnits.mono : ∀ a0 a1 a2 k, LeO (impl_fewUnits.f k a0 a1 a2) (impl_fewUnits.f (k + 1) a0 a1 a2) := by
 intro a0 a1 a2 k
 unfold impl_fewUnits.f
 repeat' first
  | (with_reducible exact impl_IsBoard.mono _ _ _ _)
  | (with_reducible exact impl_unitsOf.mono _ _ _ _)
  | (with_reducible exact LeO.refl _)
  | (with_reducible exact LeO.none _)
  | (with_reducible refine LeO.ite ?_ ?_)
  | (with_reducible refine LeO.bind ?_ (fun _ => ?_))
  | exact impl_IsBoard.mono _ _ _ _
  | exact impl_unitsOf.mono _ _ _ _
  | exact LeO.none _
  | refine LeO.ite ?_ ?_
  | refine LeO.bind ?_ (fun _ => ?_)
theorem impl_fewUnits.calls (k : Nat) (a0_0 : Int) (a0_1 : Int) (A0_2 : Option Addr) (c0_2 : Nat) (l0_2 : List (S83)) (r : Bool) (w : World) (hr0_2 : Kd.C k83 w A0_2 l0_2.length l0_2) (hc0_2 : l0_2.length <= c0_2) (h : impl_fewUnits.f k a0_0 a0_1 l0_2 = some r) :
 Calls Try.prog 46 #[.agg #[.int .i64 a0_0, .int .i64 a0_1, .slice A0_2 l0_2.length c0_2]] w fun e w' => e = .returned (.bool r) /\ Below w.heap.size w w' := by
 have hu30 := Try.underlying30
 have HR0_2 := Aside0.mk hr0_2
 have HC0_2 := Aside0.mk hc0_2
 clear hr0_2 hc0_2
 have HB := Aside0.mk (Below.refl w.heap.size w)
 have H := h
 clear h
 unfold impl_fewUnits.f at H
 replace H := bindA H; obtain ⟨t444, A2, H⟩ := H
 replace H := ifX H; rcases H with ⟨rfl, H⟩ | ⟨rfl, H⟩
 · replace H := bindA H; obtain ⟨t445, A4, H⟩ := H
   obtain rfl := Option.some.inj H
   go_enter Try.func46, Try.ntmps46
   go_wp2_with (first | ((with_reducible refine gate_dst (N := 1) rfl ?_); (try (refine gate_guard (by rfl) ?_; dsimp only)); refine boxE (cs := #[.int .i64 a0_0, .int .i64 a0_1, .slice A0_2 l0_2.length c0_2]) (t := 30) ?_; intro gb443 hg w5 hbox hb; refine E4b HB.1 hg hbox hb ?_; clear HB; intro HB BK443 GW443 GE443; clear hb hbox hg; obtain ⟨hcz6_0, hcz6_1, hcz6_2, hfz6_0, hfz6_1, hfz6_2⟩ := cz3 BK443.1) | ((with_reducible refine gate_callee (f := 73) rfl ?_); refine goesM (N := (some 4)) #[.agg #[.int .i64 a0_0, .int .i64 a0_1, .slice A0_2 l0_2.length c0_2]] Try.func73 ?_; (with_reducible refine (impl_IsBoard.calls k a0_0 a0_1 _ _ l0_2 true _ ?side1 ?side2 A2.1).mono ?_); (case side1 => exact CB (C_below HR0_2.1 HB.1)); (case side2 => exact HC0_2.1); rintro e w7 ⟨rfl, hb⟩; refine ⟨_, rfl, ?_⟩; refine E2 (bB BK443.1 hb) (bS HB.1 hb) ?_; clear BK443 HB; intro BK443 HB; (try clear hb); obtain ⟨hcz8_0, hcz8_1, hcz8_2, hfz8_0, hfz8_1, hfz8_2⟩ := cz3 BK443.1) | (go_at_call 61; (with_reducible refine (impl_unitsOf.calls k a0_0 a0_1 _ _ l0_2 t445 _ ?side1 ?side2 A4.1).mono ?_); (case side1 => exact CB (C_below HR0_2.1 HB.1)); (case side2 => exact HC0_2.1); rintro e w9 ⟨v446, rfl, ho0, hb⟩; refine E3 (S_lower ho0 (bZ HB.1)) (bB BK443.1 hb) (bS HB.1 hb) ?_; clear BK443 HB; intro HO447 BK443 HB; (try clear hb); (try clear ho0); obtain ⟨Ao10, co10, eo10⟩ := S_slice HO447.1; subst eo10))
   go_ret
   exact ⟨RF, BL HB.1⟩
 obtain rfl := Option.some.inj H
 go_enter Try.func46, Try.ntmps46
 go_wp2_with (first | ((with_reducible refine gate_dst (N := 1) rfl ?_); (try (refine gate_guard (by rfl) ?_; dsimp only)); refine boxE (cs := #[.int .i64 a0_0, .int .i64 a0_1, .slice A0_2 l0_2.length c0_2]) (t := 30) ?_; intro gb443 hg w11 hbox hb; refine E4b HB.1 hg hbox hb ?_; clear HB; intro HB BK443 GW443 GE443; clear hb hbox hg; obtain ⟨hcz12_0, hcz12_1, hcz12_2, hfz12_0, hfz12_1, hfz12_2⟩ := cz3 BK443.1) | ((with_reducible refine gate_callee (f := 73) rfl ?_); refine goesM (N := (some 4)) #[.agg #[.int .i64 a0_0, .int .i64 a0_1, .slice A0_2 l0_2.length c0_2]] Try.func73 ?_; (with_reducible refine (impl_IsBoard.calls k a0_0 a0_1 _ _ l0_2 false _ ?side1 ?side2 A2.1).mono ?_); (case side1 => exact CB (C_below HR0_2.1 HB.1)); (case side2 => exact HC0_2.1); rintro e w13 ⟨rfl, hb⟩; refine ⟨_, rfl, ?_⟩; refine E2 (bB BK443.1 hb) (bS HB.1 hb) ?_; clear BK443 HB; intro BK443 HB; (try clear hb)))
 go_ret
 exact ⟨RF, BL HB.1⟩
def impl_numberOf.l0 : Nat -> Int -> List Int -> Int -> Int -> Option (Int)
 | 0, _, _, _, _ => none
 | k + 1, x3, x6, x7, x8 => if x8 < x7 then (if 0 <= x8 then (if x8 < (x6.length : Int) then (impl_numberOf.l0 k (Go.bits .or .i64 x3 (shl .i64 (rd x6 x8) x8)) x6 x7 (wrap64 (x8 + 1))) else (none)) else (none)) else (some x3)
def impl_numberOf.f (k : Nat) (l0 : List Int) : Option (Int) := impl_numberOf.l0 k 0 l0 (l0.length : Int) 0
theorem impl_numberOf.mono_l : ∀ k, (∀ y0 y1 y2 y3, LeO (impl_numberOf.l0 k y0 y1 y2 y3) (impl_numberOf.l0 (k + 1) y0 y1 y2 y3))
 | 0 => fun _ _ _ _ r h => by simp [impl_numberOf.l0] at h
 | k + 1 => by
  have ih0 := impl_numberOf.mono_l k
  intros
  first | unfold impl_numberOf.l0
  exact LM1 ih0
theorem impl_numberOf.mono : ∀ a0 k, LeO (impl_numberOf.f k a0) (impl_numberOf.f (k + 1) a0) := by
 intro a0 k
 have ih0 := impl_numberOf.mono_l k
 unfold impl_numberOf.f
 exact LM1 ih0
theorem impl_numberOf.calls (k : Nat) (A0 : Option Addr) (c0 : Nat) (l0 : List Int) (r : Int) (w : World) (hr0 : Kd.C (Kd.int .i64) w A0 l0.length l0) (hc0 : l0.length <= c0) (h : impl_numberOf.f k l0 = some r) :
 Calls Try.prog 49 #[.slice A0 l0.length c0] w fun e w' => e = .returned (.int .i64 r) /\ Drawn0 w w' := by
 have HR0 := Aside0.mk hr0
 have HC0 := Aside0.mk hc0
 clear hr0 hc0
 have H := h
 clear h
 unfold impl_numberOf.f at H
 have H' := Aside0.mk H
 clear H
 go_enter Try.func49, Try.ntmps49
 go_wp2
 go_loopg [3, 8] k (fun kq v3 v8 w' => ∃ (x3_1 : Int) (x8_1 : Int), v3 = .int .i64 x3_1 /\ v8 = .int .i64 x8_1 /\ Aside0 (impl_numberOf.l0 kq x3_1 l0 (l0.length : Int) x8_1 = some r) /\ Aside0 (kq <= k) /\ Drawn0 w w')
 case atStart => exact ⟨(0), (0), RG, RG, H', ⟨Nat.le_refl _⟩, DR⟩
 clear H'
 obtain ⟨x3_1, x8_1, rfl, rfl, HA, HK1, ⟨m1, rfl⟩⟩ := hrel
 cases gk with
 | zero => exact absurd HA.1 (by simp [impl_numberOf.l0])
 | succ k1 => ?_
 have H := HA.1
 clear HA
 simp only [impl_numberOf.l0] at H
 replace H := ifB H; rcases H with ⟨c2b0, H⟩ | ⟨c2b0, H⟩
 · replace H := ifN H; obtain ⟨c3b0, H⟩ := H
   replace H := ifN H; obtain ⟨c4b0, H⟩ := H
   have c5b0 := eq_true (OD : 0 <= x8_1)
   obtain ⟨ji6, hji6⟩ : ∃ j_ : Int, (shl .i64 (rd l0 x8_1) x8_1) = j_ := ⟨_, rfl⟩
   replace H : (impl_numberOf.l0 k1 (Go.bits .or .i64 x3_1 (ji6)) l0 (l0.length : Int) (wrap64 (x8_1 + 1))) = some r := by first | (rw [hji6] at H; exact H) | (simp only [hji6] at H ⊢; exact H)
   have hji6_ : (IntKind.i64.wrap ((rd l0 x8_1) * 2 ^ min x8_1.toNat 64)) = ji6 := hji6
   have hji6z : x8_1 <= 64 -> (IntKind.i64.wrap ((rd l0 x8_1) * 2 ^ x8_1.toNat)) = ji6 := shl_small hji6
   have hji6y : (wrap64 ((rd l0 x8_1) * 2 ^ min x8_1.toNat 64)) = ji6 := (i64_w _).symm.trans hji6_
   have hji6x : x8_1 <= 64 -> (wrap64 ((rd l0 x8_1) * 2 ^ x8_1.toNat)) = ji6 := fun h_ => (i64_w _).symm.trans (hji6z h_)
   have H' := Aside0.mk H
   clear H
   have p450 : 0 <= (x8_1 : Int) := OD
   have q450 : x8_1 < (l0.length : Int) := OD
   obtain ⟨ad450, e450, hx450_0⟩ := Kd.at_int HR0.1 x8_1 p450 q450
   cases e450
   replace p450 := eq_true p450
   replace q450 := eq_true q450
   go_wp2
   go_roundg k1
   case measure => have := HK1.1; omega
   case rel => exact ⟨(Go.bits .or .i64 x3_1 (ji6)), (wrap64 (x8_1 + 1)), (by first | rfl | (simp; done) | (simp only [<- hji6] <;> (first | rfl | simp)) | (simp [*]; done)), RG, H', ⟨by have := HK1.1; omega⟩, DR⟩
 obtain rfl := Option.some.inj H
 go_wp2
 go_ret
 exact ⟨RG, DR⟩
def impl_copyBoard.f (a0_0 : Int) (a0_1 : Int) (l0_2 : List (S83)) : Option (Int × Int × (List (S83))) := (some (([] : List (S83)) : List (S83))).bind fun y453 => (if y453.length + l0_2.length < 8796093022208 then (some (a0_0, a0_1, (y453 ++ l0_2))) else (none))
def impl_copyBoard.T1 : Bool × List (List Nat × List Nat) := (true, [([], []), ([0], [0]), ([], []), ([2], [2]), ([], []), ([], []), ([5], [5]), ([4, 6], [4, 6]), ([1, 3, 7], [1, 3, 7]), ([8, 7, 0, 1, 2, 3, 4, 5, 6, 7, 8], [8])])
def impl_copyBoard.B1 : List Nat := [0, 1, 0, 4, 0, 0, 32, 112, 255, 511]
theorem impl_copyBoard.tab1 : rtab .any (opsOf Try.f75 1) = impl_copyBoard.T1 := by kernel_rfl
theorem impl_copyBoard.bits1 : waitsOk impl_copyBoard.T1.2 impl_copyBoard.B1 = true := by kernel_rfl
theorem impl_copyBoard.calls (a0_0 : Int) (a0_1 : Int) (A0_2 : Option Addr) (c0_2 : Nat) (l0_2 : List (S83)) (r1 : Int) (r2 : Int) (r3 : List (S83)) (w : World) (hr0_2 : Kd.C k83 w A0_2 l0_2.length l0_2) (hc0_2 : l0_2.length <= c0_2) (h : impl_copyBoard.f a0_0 a0_1 l0_2 = some (r1, r2, r3)) :
 Calls Try.prog 75 #[.agg #[.int .i64 a0_0, .int .i64 a0_1, .slice A0_2 l0_2.length c0_2]] w fun e w' => ∃ v2_ : Value, e = .returned (.agg #[.int .i64 r1, .int .i64 r2, v2_]) /\ Kd.R k83 83 w' w.heap.size (fun _ => True) v2_ r3 /\ Below w.heap.size w w' := by
 have hu30 := Try.underlying30
 have HR0_2 := Aside0.mk hr0_2
 have HC0_2 := Aside0.mk hc0_2
 clear hr0_2 hc0_2
 have HB := Aside0.mk (Below.refl w.heap.size w)
 have H := h
 clear h
 unfold impl_copyBoard.f at H
 replace H := nameB H; obtain ⟨y453, Ny453, H⟩ := H
 replace H := ifP H; obtain ⟨c2, H⟩ := H
 have LMc2 := Aside0.mk c2
 clear c2
 generalize hy456 : ((y453 ++ l0_2) : List (S83)) = y456 at H
 have Ny456 := Aside0.mk hy456.symm; clear hy456
 simp only [Option.some.injEq, Prod.mk.injEq] at H
 obtain ⟨rfl, rfl, rfl⟩ := H
 go_enter Try.func75, Try.ntmps75
 try go_wp2_with (first | ((with_reducible refine gate_dst (N := 1) rfl ?_); refine boxE (cs := #[.int .i64 a0_0, .int .i64 a0_1, .slice A0_2 l0_2.length c0_2]) (t := 30) ?_; intro gb451 hg w3 hbox hb; refine E4b HB.1 hg hbox hb ?_; clear HB; intro HB BK451 GW451 GE451; clear hb hbox hg) | ((with_reducible refine gate_dst (N := 2) rfl ?_); refine boxE (cs := #[.int .i64 0, .int .i64 0, .slice none 0 0]) (t := 30) ?_; intro gb452 hg w4 hbox hb; refine E7 (bB BK451.1 hb) (bS HB.1 hb) (hbox) (gX HB.1 hg) (gX HB.1 hg) (nB BK451.1 hg) (nC BK451.1 hg) ?_; clear BK451 HB; intro BK451 HB BK452 GW452 GE452 NB451_452 NB452_451; clear hb hbox hg))
 refine E3 (blk_drew BK451.1) (blk_drew BK452.1) (below_drew1 HB.1) ?_
 clear BK451 BK452 HB
 intro BK451 BK452 HB
 refine start_ (n := 10) (S := fun w' => w'.cell? ⟨gb451, 0, none⟩ = some (.int .i64 a0_0) /\ w'.cell? ⟨gb451, 1, none⟩ = some (.int .i64 a0_1) /\ w'.cell? ⟨gb451, 2, none⟩ = some (.slice A0_2 l0_2.length c0_2)) (ds := []) #[Zz,Zz,Zz,Zz,Zz,Zz,Zz,Zz,Zz,Zz] (by kernel_rfl) rfl rfl ⟨(blk_cell BK451.1 0).trans rfl, (blk_cell BK451.1 1).trans rfl, (blk_cell BK451.1 2).trans rfl⟩ (fun hHeld => ?_); refine with_tabW impl_copyBoard.tab1 impl_copyBoard.bits1 (fun HT_ HW_ => ?_)
 generalize w4.drew = w5 at BK451 BK452 HB hHeld ⊢
 refine pureF 0 (N := some 3) HT_.1 ?_
 refine pureF 2 (N := some 5) HT_.1 ?_
 refine pureF 5 (N := some 8) HT_.1 ?_
 refine takeE 1 (N := some 4) HT_.1 HW_.1 hHeld ?_
 refine takeE 3 (N := some 6) HT_.1 HW_.1 hHeld ?_
 refine takeE 6 (N := some 9) HT_.1 HW_.1 hHeld ?_
 refine one_ (i := 4) (N := some 7) #[Yy,Yy,Yy,Yy,Yy,Yy,Yy,Zz,Zz,Zz] rfl rfl (one_of HT_.1 (by kernel_rfl)) (by decide) (fun K hK => ?_)
 refine R_lit_step k83 _ 83 ?hg (N := 7) ?hd (xs := ([] : List (S83))) (inner := []) (ok := fun _ => True) (okp := fun _ => True) ?hr ?hp (fun _ hk => hk) trivial (Below.refl _ _) (Nat.le_refl _) (by simp) ?_; (case hd => rfl); (case hg => rfl); (case hr => first | (go_simp; done) | (go_simp; rfl)); (case hp => exact (Reps.none _ _))
 intro v454 w6 ho7 hb hg_ hnew_
 clear hg_ hnew_
 (first | rw [<- Ny453.1] at ho7 | (simp only [Int.reduceToNat] at ho7; rw [<- Ny453.1] at ho7))
 refine E4 (R_lower ho7 (bZ HB.1)) (bB BK451.1 hb) (bB BK452.1 hb) (bS HB.1 hb) ?_
 clear BK451 BK452 HB
 intro HO455 BK451 BK452 HB
 clear hb ho7
 refine hK.out _ _ ⟨(blk_cell BK451.1 0).trans rfl, (blk_cell BK451.1 1).trans rfl, (blk_cell BK451.1 2).trans rfl⟩ (fun hHeld => ?_)
 clear hK K
 refine norm_ (a' := ?_) ?_ ?_
 rotate_left
 · show Act.put _ (some 7) _ = _
   simp only [Act.put, List.setIfInBounds_toArray, List.set_cons_zero, List.set_cons_succ, i64_w, i32_w]
   rfl
 refine one_ (i := 7) (N := some 10) #[Yy,Yy,Yy,Yy,Yy,Yy,Yy,Yy,Zz,Zz] rfl rfl (one_of HT_.1 (by kernel_rfl)) (by decide) (fun K hK => ?_)
 refine R_append_rows_step k83 (w0 := w) w.heap.size (by rfl) (.tmp 7) (.tmp 9) 28 83 (.agg #[(.int .i64 0), (.int .i64 0)]) 16 rfl Try.underlying28 info83 rfl (by decide) (by omega) v454 y453 l0_2 _ _ _ (fun _ => True) (fun _ => False) rfl rfl ?aO ?aR (fun _ _ h => h) (fun _ h => h.elim) ?aF ?aB ?aS ?aL ?_
 (case aR => repeat (first | exact (C_below HR0_2.1 HB.1) | (with_reducible refine C_alloc ?_ _) | (with_reducible refine C_drewN ?_ _) | (with_reducible refine C_drew ?_)))
 (case aB => exact (BL HB.1))
 (case aF => exact (fun _ _ => trivial))
 (case aO => exact (PR HO455.1))
 (case aS => exact (bZ HB.1))
 (case aL => have := LMc2.1; omega)
 intro v457 w8 ho hb hg hat
 rw [<- Ny456.1] at ho
 refine E4 (bG BK451.1 hg (R_ne HO455.1 BK451.1 (by decide))) (bG BK452.1 hg (R_ne HO455.1 BK452.1 (by decide))) (hb) (ho) ?_
 clear BK451 BK452 HB HO455
 intro BK451 BK452 HB HO458
 clear ho hb hg hat
 obtain ⟨Ao9, co9, eo9⟩ := R_slice HO458.1
 (first | subst eo9 | (injection eo9 with f1_ f2_ f3_; have f4_ := f1_.symm; have f5_ := f3_.symm; clear f1_ f2_ f3_; subst f4_; subst f5_))
 refine hK.out _ _ ⟨(blk_cell BK451.1 0).trans rfl, (blk_cell BK451.1 1).trans rfl, (blk_cell BK451.1 2).trans rfl⟩ (fun hHeld => ?_)
 clear hK K
 refine norm_ (a' := ?_) ?_ ?_
 rotate_left
 · show Act.put _ (some 10) _ = _
   simp only [Act.put, List.setIfInBounds_toArray, List.set_cons_zero, List.set_cons_succ, i64_w, i32_w]
   rfl
 refine pureF 8 (N := some 11) HT_.1 ?_
 refine one_ (i := 9) (N := none) #[Yy,Yy,Yy,Yy,Yy,Yy,Yy,Yy,Yy,Yy] rfl rfl (one_of HT_.1 (by kernel_rfl)) (by decide) (fun K hK => ?_)
 obtain ⟨hs10, hs11, hs12, hfs10, hfs11, hfs12⟩ := cz3 BK452.1
 have hns10_0 := NB451_452.1
 have hms10_0 := NB452_451.1
 refine skip_ (w1 := ?_) (by rfl) rfl ?_ ?_
 rotate_left
 · go_simp
   rfl
 refine hK.out _ _ ⟨(CF3 NB451_452.1 hHeld.1), (CF3 NB451_452.1 hHeld.2.1), (CF3 NB451_452.1 hHeld.2.2)⟩ (fun hHeld => ?_)
 clear hK K
 refine done_ (done_of HT_.1 (by kernel_rfl)) ?_
 try go_wp2
 refine bodyPost_ret (results_cell_row rfl _ _ gb452 30 #[.int .i64 a0_0, .int .i64 a0_1, .slice Ao9 y456.length co9] (0, 0) _ rfl (PF0 BK452.1) Try.underlying30 rfl (by kernel_rfl)) rfl ?_
 exact ⟨_, RF, by (with_reducible repeat (first | apply R_alloc | apply R_drewN | apply R_drew)); exact R_mono (RQ gb452 2 (RQ gb452 1 (RQ gb452 0 (R_types HO458.1 BK452.1 (by decide)) _) _) _) (fun _ hk => trivial), BL HB.1⟩
end Go.Proofs.Ytbpfdbjnnlmdjaa.P
