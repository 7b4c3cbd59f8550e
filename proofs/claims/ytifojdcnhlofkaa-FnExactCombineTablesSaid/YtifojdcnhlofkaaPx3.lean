-- PRINTED by print.py (a twelfth state) out of the translation. Not trusted: Lean checks it.
import Derived.Test.YtifojdcnhlofkaaPx0
import Derived.Test.YtifojdcnhlofkaaPx1
import Derived.Test.YtifojdcnhlofkaaPx2
namespace Go.Proofs.Ytifojdcnhlofkaa.P
open Go.RowKit Go.Proofs.YtifojdcnhlofkaaW.PrintWords Go.Proofs.YtifojdcnhlofkaaW.PrintLast Go.Proofs.YtifojdcnhlofkaaW.PrintMore
attribute [local go_sem] max2_int min2_int max_two min_two max_three min_three max_four min_four   -- for this text's walks alone
set_option linter.unusedVariables false
set_option linter.unusedSimpArgs false

/-! ### laws_FnExactCombineTables: function 3 -/
open Kd
mutual
def laws_FnExactCombineTables.j0 : Nat -> Int -> Bool -> Bool -> Bool -> Int -> List Int -> Int -> List Int -> Int -> List Int -> Int -> List Int -> Int -> List Int -> Int -> List Int -> Option (Bool)
 | 0, _, _, _, _, _, _, _, _, _, _, _, _, _, _, _, _ => none
 | k + 1, x0, x9, x13, x57, x171000, x171001, x172000, x172001, x188000, x188001, x193000, x193001, x198000, x198001, x204000, x204001 => if x57 = true then (some false) else ((laws_toTable.f k x171000 x171001).bind fun bt205 => ((laws_eqTable.f k x193000 x193001 bt205.1 bt205.2).bind fun t209 => (if t209 = true then ((laws_toTable.f k x172000 x172001).bind fun bt210 => ((laws_eqTable.f k x198000 x198001 bt210.1 bt210.2).bind fun t214 => (if t214 = true then ((laws_markTable.f k x193000 x193001 1).bind fun bt215 => ((laws_markTable.f k x198000 x198001 bt215.1).bind fun bt217 => (if bt217.1 < 0 then (laws_FnExactCombineTables.j1 k x0 x9 true x171000 x171001 x172000 x172001 x188000 x188001 x204000 x204001) else ((laws_eqTable.f k x204000 x204001 x188000 x188001).bind fun t219 => (if t219 = true then (laws_FnExactCombineTables.j1 k x0 x9 (x13 != x9) x171000 x171001 x172000 x172001 x188000 x188001 x204000 x204001) else (laws_FnExactCombineTables.j1 k x0 x9 true x171000 x171001 x172000 x172001 x188000 x188001 x204000 x204001)))))) else (some false)))) else (some false))))
def laws_FnExactCombineTables.j1 : Nat -> Int -> Bool -> Bool -> Int -> List Int -> Int -> List Int -> Int -> List Int -> Int -> List Int -> Option (Bool)
 | 0, _, _, _, _, _, _, _, _, _, _, _ => none
 | k + 1, x0, x9, x86, x171000, x171001, x172000, x172001, x188000, x188001, x204000, x204001 => if x86 = true then (some false) else ((laws_markTable.f k x204000 x204001 1).bind fun bt220 => ((laws_heldTable.f k x204000 bt220.2 1).bind fun t222 => (if t222 < 0 then (some false) else (if t222 = bt220.1 then ((laws_toTable.f k x171000 x171001).bind fun bt223 => ((laws_toTable.f k x172000 x172001).bind fun bt227 => ((impl_CombineTables.f k x0 bt223.1 bt223.2 bt227.1 bt227.2).bind fun bt231 => ((laws_eqTable.f k bt231.1 bt231.2.1 x188000 x188001).bind fun t237 => (if t237 = true then (laws_FnExactCombineTables.j2 k bt220.1 (bt231.2.2 != x9) x204000 bt220.2) else (laws_FnExactCombineTables.j2 k bt220.1 true x204000 bt220.2)))))) else (some false)))))
def laws_FnExactCombineTables.j2 : Nat -> Int -> Bool -> Int -> List Int -> Option (Bool)
 | 0, _, _, _, _ => none
 | k + 1, x15, x115, x204000, x204001 => if x115 = true then (some false) else ((laws_heldTable.f k x204000 x204001 1).bind fun t238 => (if t238 < 0 then (some false) else (if t238 = x15 then (some true) else (some false))))
end
def laws_FnExactCombineTables.f (k : Nat) (a0 : Int) (a1_0 : Int) (l1_1 : List Int) (a2_0 : Int) (l2_1 : List Int) : Option (Bool) := (laws_szTable.f a1_0 l1_1 1048576).bind fun t172 => (if t172 < 0 then (some true) else ((laws_szTable.f a2_0 l2_1 t172).bind fun t173 => (if t173 < 0 then (some true) else ((laws_toTable.f k a1_0 l1_1).bind fun bt174 => ((laws_toTable.f k a2_0 l2_1).bind fun bt178 => ((spec_CombineTables.f k a0 bt174.1 bt174.2 bt178.1 bt178.2).bind fun bt182 => ((laws_toTable.f k a1_0 l1_1).bind fun bt188 => ((laws_toTable.f k a2_0 l2_1).bind fun bt193 => ((impl_CombineTables.f k a0 bt188.1 bt188.2 bt193.1 bt193.2).bind fun bt198 => ((laws_eqTable.f k bt198.1 bt198.2.1 bt182.1 bt182.2.1).bind fun t204 => (if t204 = true then (laws_FnExactCombineTables.j0 k a0 bt182.2.2 bt198.2.2 (bt198.2.2 != bt182.2.2) a1_0 l1_1 a2_0 l2_1 bt182.1 bt182.2.1 bt188.1 bt188.2 bt193.1 bt193.2 bt198.1 bt198.2.1) else (laws_FnExactCombineTables.j0 k a0 bt182.2.2 bt198.2.2 true a1_0 l1_1 a2_0 l2_1 bt182.1 bt182.2.1 bt188.1 bt188.2 bt193.1 bt193.2 bt198.1 bt198.2.1))))))))))))
theorem laws_FnExactCombineTables.mono_l : ∀ k, (∀ y0 y1 y2 y3 y4 y5 y6 y7 y8 y9 y10 y11 y12 y13 y14 y15, LeO (laws_FnExactCombineTables.j0 k y0 y1 y2 y3 y4 y5 y6 y7 y8 y9 y10 y11 y12 y13 y14 y15) (laws_FnExactCombineTables.j0 (k + 1) y0 y1 y2 y3 y4 y5 y6 y7 y8 y9 y10 y11 y12 y13 y14 y15)) /\ (∀ y0 y1 y2 y3 y4 y5 y6 y7 y8 y9 y10, LeO (laws_FnExactCombineTables.j1 k y0 y1 y2 y3 y4 y5 y6 y7 y8 y9 y10) (laws_FnExactCombineTables.j1 (k + 1) y0 y1 y2 y3 y4 y5 y6 y7 y8 y9 y10)) /\ (∀ y0 y1 y2 y3, LeO (laws_FnExactCombineTables.j2 k y0 y1 y2 y3) (laws_FnExactCombineTables.j2 (k + 1) y0 y1 y2 y3))
 | 0 => by refine ⟨?_, ?_, ?_⟩ <;> (intros; intro r h; first | (simp [laws_FnExactCombineTables.j0] at h; done) | (simp [laws_FnExactCombineTables.j1] at h; done) | (simp [laws_FnExactCombineTables.j2] at h; done))
 | k + 1 => by
  obtain ⟨ih0, ih1, ih2⟩ := laws_FnExactCombineTables.mono_l k
  refine ⟨?_, ?_, ?_⟩ <;> (
   intros
   first | unfold laws_FnExactCombineTables.j0 | unfold laws_FnExactCombineTables.j1 | unfold laws_FnExactCombineTables.j2
   repeat' first | (with_reducible first | apply ih0 | apply ih1 | apply ih2 | apply impl_CombineTables.mono | apply laws_eqTable.mono | apply laws_heldTable.mono | apply laws_markTable.mono | apply laws_toTable.mono | apply spec_CombineTables.mono | exact LeO.refl _ | exact LeO.none _ | refine LeO.ite ?_ ?_ | refine LeO.bind ?_ (fun _ => ?_)) | exact LeO.none _ | refine LeO.ite ?_ ?_ | refine LeO.bind ?_ (fun _ => ?_))
theorem laws_FnExactCombineTables.mono : ∀ a0 a1 a2 a3 a4 k, LeO (laws_FnExactCombineTables.f k a0 a1 a2 a3 a4) (laws_FnExactCombineTables.f (k + 1) a0 a1 a2 a3 a4) := by
 intro a0 a1 a2 a3 a4 k
 obtain ⟨ih0, ih1, ih2⟩ := laws_FnExactCombineTables.mono_l k
 unfold laws_FnExactCombineTables.f
 repeat' first | (with_reducible first | apply ih0 | apply ih1 | apply ih2 | apply impl_CombineTables.mono | apply laws_eqTable.mono | apply laws_heldTable.mono | apply laws_markTable.mono | apply laws_toTable.mono | apply spec_CombineTables.mono | exact LeO.refl _ | exact LeO.none _ | refine LeO.ite ?_ ?_ | refine LeO.bind ?_ (fun _ => ?_)) | exact LeO.none _ | refine LeO.ite ?_ ?_ | refine LeO.bind ?_ (fun _ => ?_)
def laws_FnExactCombineTables.T8 : Bool × List (List Nat × List Nat) := (true, [([], []), ([], []), ([1], [1]), ([], []), ([3, 2], [3]), ([0, 2, 4, 4], [0, 2, 4]), ([5], [5]), ([6], [6]), ([6], [6]), ([], []), ([9, 7, 5, 0, 1, 2, 3, 4, 5, 6, 7, 9], [7, 9]), ([8, 10, 0, 1, 2, 3, 4, 5, 6, 7, 8, 9, 10], [8])])
def laws_FnExactCombineTables.B8 : List Nat := [0, 0, 2, 0, 14, 31, 63, 127, 127, 0, 767, 2047]
theorem laws_FnExactCombineTables.tab8 : rtab .any (opsOf Try.f3 8) = laws_FnExactCombineTables.T8 := by kernel_rfl
theorem laws_FnExactCombineTables.bits8 : waitsOk laws_FnExactCombineTables.T8.2 laws_FnExactCombineTables.B8 = true := by kernel_rfl
def laws_FnExactCombineTables.T31 : Bool × List (List Nat × List Nat) := (true, [([], []), ([], []), ([1], [1]), ([], []), ([3, 2], [3]), ([0, 2, 4, 4], [0, 2, 4]), ([5], [5]), ([6], [6]), ([6], [6]), ([], []), ([9, 7, 5, 0, 1, 2, 3, 4, 5, 6, 7, 9], [7, 9]), ([8, 10, 0, 1, 2, 3, 4, 5, 6, 7, 8, 9, 10], [8])])
def laws_FnExactCombineTables.B31 : List Nat := [0, 0, 2, 0, 14, 31, 63, 127, 127, 0, 767, 2047]
theorem laws_FnExactCombineTables.tab31 : rtab .any (opsOf Try.f3 31) = laws_FnExactCombineTables.T31 := by kernel_rfl
theorem laws_FnExactCombineTables.bits31 : waitsOk laws_FnExactCombineTables.T31.2 laws_FnExactCombineTables.B31 = true := by kernel_rfl
set_option maxHeartbeats 8000000 in
set_option maxRecDepth 100000 in
theorem laws_FnExactCombineTables.calls (k : Nat) (a0 : Int) (a1_0 : Int) (A1_1 : Option Addr) (c1_1 : Nat) (l1_1 : List Int) (a2_0 : Int) (A2_1 : Option Addr) (c2_1 : Nat) (l2_1 : List Int) (w : World) (hr1_1 : Kd.C (Kd.int .i64) w A1_1 l1_1.length l1_1) (hc1_1 : l1_1.length <= c1_1) (hr2_1 : Kd.C (Kd.int .i64) w A2_1 l2_1.length l2_1) (hc2_1 : l2_1.length <= c2_1) (h : laws_FnExactCombineTables.f k a0 a1_0 l1_1 a2_0 l2_1 = some true) :
 Calls Try.prog 3 #[.int .i64 a0, .agg #[.int .i64 a1_0, .slice A1_1 l1_1.length c1_1], .agg #[.int .i64 a2_0, .slice A2_1 l2_1.length c2_1]] w fun e w' => e = .returned (.bool true) /\ Below w.heap.size w w' := by
 have hu24 := Try.underlying24
 have hu26 := Try.underlying26
 have HR1_1 := Aside0.mk hr1_1
 have HC1_1 := Aside0.mk hc1_1
 clear hr1_1 hc1_1
 have HR2_1 := Aside0.mk hr2_1
 have HC2_1 := Aside0.mk hc2_1
 clear hr2_1 hc2_1
 have HB := Aside0.mk (Below.refl w.heap.size w)
 have H := h
 clear h
 unfold laws_FnExactCombineTables.f at H
 replace H := bindA H; obtain ⟨t172, A4, H⟩ := H
 replace H := ifB H; rcases H with ⟨c5b0, H⟩ | ⟨c5b0, H⟩
 · first | (obtain rfl := Option.some.inj H) | clear H
   go_enter Try.func3, Try.ntmps3
   go_wp2_with (first | ((with_reducible refine gate_dst (N := 4) rfl ?_); refine boxE (cs := #[.int .i64 a1_0, .slice A1_1 l1_1.length c1_1]) (t := 24) ?_; intro gb170 hg w6 hbox hb; refine E4b HB.1 hg hbox hb ?_; clear HB; intro HB BK170 GW170 GE170; clear hb hbox hg) | ((with_reducible refine gate_dst (N := 5) rfl ?_); refine boxE (cs := #[.int .i64 a2_0, .slice A2_1 l2_1.length c2_1]) (t := 24) ?_; intro gb171 hg w7 hbox hb; refine E7 (bB BK170.1 hb) (bS HB.1 hb) (hbox) (gX HB.1 hg) (gX HB.1 hg) (nB BK170.1 hg) (nC BK170.1 hg) ?_; clear BK170 HB; intro BK170 HB BK171 GW171 GE171 NB170_171 NB171_170; clear hb hbox hg; have hnb8 := NB170_171.1; have hnc8 := NB171_170.1; obtain ⟨hcz9_0, hcz9_1, hfz9_0, hfz9_1⟩ := cz2 BK170.1) | ((with_reducible refine gate_callee (f := 4) rfl ?_); refine goesM (N := (some 21)) #[.agg #[.int .i64 a1_0, .slice A1_1 l1_1.length c1_1], .int .i64 1048576] Try.func4 ?_; (with_reducible refine (laws_szTable.calls a1_0 _ _ l1_1 1048576 t172 _ ?side1 ?side2 A4.1).mono ?_); (case side1 => exact CB (C_below HR1_1.1 HB.1)); (case side2 => exact HC1_1.1); rintro e w10 ⟨rfl, hb⟩; refine ⟨_, rfl, ?_⟩; refine E3 (bB BK170.1 hb) (bB BK171.1 hb) (bS HB.1 hb) ?_; clear BK170 BK171 HB; intro BK170 BK171 HB; (try clear hb)))
   go_ret
   exact ⟨RF, BL HB.1⟩
 replace H := bindA H; obtain ⟨t173, A11, H⟩ := H
 replace H := ifB H; rcases H with ⟨c12b0, H⟩ | ⟨c12b0, H⟩
 · first | (obtain rfl := Option.some.inj H) | clear H
   go_enter Try.func3, Try.ntmps3
   go_wp2_with (first | ((with_reducible refine gate_dst (N := 4) rfl ?_); refine boxE (cs := #[.int .i64 a1_0, .slice A1_1 l1_1.length c1_1]) (t := 24) ?_; intro gb170 hg w13 hbox hb; refine E4b HB.1 hg hbox hb ?_; clear HB; intro HB BK170 GW170 GE170; clear hb hbox hg) | ((with_reducible refine gate_dst (N := 5) rfl ?_); refine boxE (cs := #[.int .i64 a2_0, .slice A2_1 l2_1.length c2_1]) (t := 24) ?_; intro gb171 hg w14 hbox hb; refine E7 (bB BK170.1 hb) (bS HB.1 hb) (hbox) (gX HB.1 hg) (gX HB.1 hg) (nB BK170.1 hg) (nC BK170.1 hg) ?_; clear BK170 HB; intro BK170 HB BK171 GW171 GE171 NB170_171 NB171_170; clear hb hbox hg; have hnb15 := NB170_171.1; have hnc15 := NB171_170.1; obtain ⟨hcz16_0, hcz16_1, hfz16_0, hfz16_1⟩ := cz2 BK170.1) | ((with_reducible refine gate_callee (f := 4) rfl ?_); refine goesM (N := (some 21)) #[.agg #[.int .i64 a1_0, .slice A1_1 l1_1.length c1_1], .int .i64 1048576] Try.func4 ?_; (with_reducible refine (laws_szTable.calls a1_0 _ _ l1_1 1048576 t172 _ ?side1 ?side2 A4.1).mono ?_); (case side1 => exact CB (C_below HR1_1.1 HB.1)); (case side2 => exact HC1_1.1); rintro e w17 ⟨rfl, hb⟩; refine ⟨_, rfl, ?_⟩; refine E3 (bB BK170.1 hb) (bB BK171.1 hb) (bS HB.1 hb) ?_; clear BK170 BK171 HB; intro BK170 BK171 HB; (try clear hb); obtain ⟨hcz18_0, hcz18_1, hfz18_0, hfz18_1⟩ := cz2 BK171.1) | ((with_reducible refine gate_callee (f := 4) rfl ?_); refine goesM (N := (some 26)) #[.agg #[.int .i64 a2_0, .slice A2_1 l2_1.length c2_1], .int .i64 t172] Try.func4 ?_; (with_reducible refine (laws_szTable.calls a2_0 _ _ l2_1 t172 t173 _ ?side1 ?side2 A11.1).mono ?_); (case side1 => exact CB (C_below HR2_1.1 HB.1)); (case side2 => exact HC2_1.1); rintro e w19 ⟨rfl, hb⟩; refine ⟨_, rfl, ?_⟩; refine E3 (bB BK170.1 hb) (bB BK171.1 hb) (bS HB.1 hb) ?_; clear BK170 BK171 HB; intro BK170 BK171 HB; (try clear hb)))
   go_ret
   exact ⟨RF, BL HB.1⟩
 replace H := bindA H; obtain ⟨⟨t174, t175⟩, A20, H⟩ := H
 dsimp only at H
 replace H := bindA H; obtain ⟨⟨t178, t179⟩, A21, H⟩ := H
 dsimp only at H
 replace H := bindA H; obtain ⟨⟨t182, t183, t186⟩, A22, H⟩ := H
 dsimp only at H
 replace H := bindA H; obtain ⟨⟨t188, t189⟩, A23, H⟩ := H
 dsimp only at H
 replace H := bindA H; obtain ⟨⟨t193, t194⟩, A24, H⟩ := H
 dsimp only at H
 replace H := bindA H; obtain ⟨⟨t198, t199, t202⟩, A25, H⟩ := H
 dsimp only at H
 have HC26 := Aside0.mk H
 clear H
 go_enter Try.func3, Try.ntmps3
 try go_wp2_with (first | ((with_reducible refine gate_dst (N := 4) rfl ?_); refine boxE (cs := #[.int .i64 a1_0, .slice A1_1 l1_1.length c1_1]) (t := 24) ?_; intro gb170 hg w27 hbox hb; refine E4b HB.1 hg hbox hb ?_; clear HB; intro HB BK170 GW170 GE170; clear hb hbox hg) | ((with_reducible refine gate_dst (N := 5) rfl ?_); refine boxE (cs := #[.int .i64 a2_0, .slice A2_1 l2_1.length c2_1]) (t := 24) ?_; intro gb171 hg w28 hbox hb; refine E7 (bB BK170.1 hb) (bS HB.1 hb) (hbox) (gX HB.1 hg) (gX HB.1 hg) (nB BK170.1 hg) (nC BK170.1 hg) ?_; clear BK170 HB; intro BK170 HB BK171 GW171 GE171 NB170_171 NB171_170; clear hb hbox hg; have hnb29 := NB170_171.1; have hnc29 := NB171_170.1; obtain ⟨hcz30_0, hcz30_1, hfz30_0, hfz30_1⟩ := cz2 BK170.1) | ((with_reducible refine gate_callee (f := 4) rfl ?_); refine goesM (N := (some 21)) #[.agg #[.int .i64 a1_0, .slice A1_1 l1_1.length c1_1], .int .i64 1048576] Try.func4 ?_; (with_reducible refine (laws_szTable.calls a1_0 _ _ l1_1 1048576 t172 _ ?side1 ?side2 A4.1).mono ?_); (case side1 => exact CB (C_below HR1_1.1 HB.1)); (case side2 => exact HC1_1.1); rintro e w31 ⟨rfl, hb⟩; refine ⟨_, rfl, ?_⟩; refine E3 (bB BK170.1 hb) (bB BK171.1 hb) (bS HB.1 hb) ?_; clear BK170 BK171 HB; intro BK170 BK171 HB; (try clear hb); obtain ⟨hcz32_0, hcz32_1, hfz32_0, hfz32_1⟩ := cz2 BK171.1) | ((with_reducible refine gate_callee (f := 4) rfl ?_); refine goesM (N := (some 26)) #[.agg #[.int .i64 a2_0, .slice A2_1 l2_1.length c2_1], .int .i64 t172] Try.func4 ?_; (with_reducible refine (laws_szTable.calls a2_0 _ _ l2_1 t172 t173 _ ?side1 ?side2 A11.1).mono ?_); (case side1 => exact CB (C_below HR2_1.1 HB.1)); (case side2 => exact HC2_1.1); rintro e w33 ⟨rfl, hb⟩; refine ⟨_, rfl, ?_⟩; refine E3 (bB BK170.1 hb) (bB BK171.1 hb) (bS HB.1 hb) ?_; clear BK170 BK171 HB; intro BK170 BK171 HB; (try clear hb)))
 refine E3 (blk_drew BK170.1) (blk_drew BK171.1) (below_drew1 HB.1) ?_
 clear BK170 BK171 HB
 intro BK170 BK171 HB
 refine start_ (n := 12) (S := fun w' => w'.cell? ⟨gb170, 0, none⟩ = some (.int .i64 a1_0) /\ w'.cell? ⟨gb170, 1, none⟩ = some (.slice A1_1 l1_1.length c1_1) /\ w'.cell? ⟨gb171, 0, none⟩ = some (.int .i64 a2_0) /\ w'.cell? ⟨gb171, 1, none⟩ = some (.slice A2_1 l2_1.length c2_1)) (ds := []) #[Zz,Zz,Zz,Zz,Zz,Zz,Zz,Zz,Zz,Zz,Zz,Zz] (by kernel_rfl) rfl rfl ⟨(blk_cell BK170.1 0).trans rfl, (blk_cell BK170.1 1).trans rfl, (blk_cell BK171.1 0).trans rfl, (blk_cell BK171.1 1).trans rfl⟩ (fun hHeld => ?_); refine with_tabW laws_FnExactCombineTables.tab8 laws_FnExactCombineTables.bits8 (fun HT_ HW_ => ?_)
 generalize w33.drew = w34 at BK170 BK171 HB hHeld ⊢
 refine pureF 0 (N := some 30) HT_.1 ?_
 refine takeE 1 (N := some 31) HT_.1 HW_.1 hHeld ?_
 refine takeE 3 (N := some 33) HT_.1 HW_.1 hHeld ?_
 refine join_ (σ := Value × Value × Value × Nat) 2 #[Yy,Yy,Yy,Yy,Yy,Yy,Yy,Yy,Yy,Yy,Zz,Zz] (fun s_ => [(32, .agg #[.int .i64 t174, s_.1]), (34, .agg #[.int .i64 t178, s_.2.1]), (35, .tuple #[.agg #[.int .i64 t182, s_.2.2.1], .bool t186]), (8, .pointer (some ⟨s_.2.2.2, 0, none⟩)), (29, .tuple #[.agg #[.int .i64 t182, s_.2.2.1], .bool t186]), (36, .agg #[.int .i64 t182, s_.2.2.1]), (37, .bool t186)]) (fun s_ w' => (w'.cell? ⟨gb170, 0, none⟩ = some (.int .i64 a1_0) /\ w'.cell? ⟨gb170, 1, none⟩ = some (.slice A1_1 l1_1.length c1_1) /\ w'.cell? ⟨gb171, 0, none⟩ = some (.int .i64 a2_0) /\ w'.cell? ⟨gb171, 1, none⟩ = some (.slice A2_1 l2_1.length c2_1)) /\ (Kd.R (Kd.int .i64) 3 w' w.heap.size (fun k_ => some k_ ≠ (s_.2.1 : Value).ownBlock /\ some k_ ≠ (s_.2.2.1 : Value).ownBlock) s_.1 t175) /\ (Kd.R (Kd.int .i64) 3 w' w.heap.size (fun k_ => some k_ ≠ (s_.1 : Value).ownBlock /\ some k_ ≠ (s_.2.2.1 : Value).ownBlock) s_.2.1 t179) /\ (Kd.R (Kd.int .i64) 3 w' w.heap.size (fun k_ => some k_ ≠ (s_.1 : Value).ownBlock /\ some k_ ≠ (s_.2.1 : Value).ownBlock) s_.2.2.1 t183) /\ (w'.heap[gb170]? = some (.cells #[.int .i64 a1_0, .slice A1_1 l1_1.length c1_1] 24 (0, 0))) /\ (w'.heap[gb171]? = some (.cells #[.int .i64 a2_0, .slice A2_1 l2_1.length c2_1] 24 (0, 0))) /\ (w'.heap[s_.2.2.2]? = some (.cells #[.int .i64 0, .slice none 0 0] 26 (0, 0))) /\ (w.heap.size <= s_.2.2.2) /\ (w.heap.size <= s_.2.2.2) /\ (gb170 ≠ s_.2.2.2) /\ (s_.2.2.2 ≠ gb170) /\ (gb171 ≠ s_.2.2.2) /\ (s_.2.2.2 ≠ gb171) /\ (Below w.heap.size w w')) ?_ ?_
 rotate_left
 · intro hCont
   refine two_ (i := 2) (j := 9) (Ni := some 32) (Nj := some 8) #[Yy,Yy,Yy,Yy,Zz,Zz,Zz,Zz,Zz,Zz,Zz,Zz] #[Yy,Yy,Zz,Yy,Zz,Zz,Zz,Zz,Zz,Yy,Zz,Zz] rfl rfl rfl rfl (two_of HT_.1 (by kernel_rfl)) (by decide) (by decide) (fun K hK => ?_) (fun K hK => ?_)
   · skip
     refine goes_ Try.func6 (by kernel_rfl) rfl #[.agg #[.int .i64 a1_0, .slice A1_1 l1_1.length c1_1]] (by rfl) rfl rfl (by (try simp only [List.map_toArray, List.map_cons, List.map_nil]); first | done | rfl | (simp only [List.length_drop, List.length_take]; rfl)) ?_
     with_reducible refine (laws_toTable.calls k a1_0 _ _ l1_1 t174 t175 _ ?side1 ?side2 A20.1).mono ?_
     (case side1 => exact CB (C_below HR1_1.1 HB.1))
     (case side2 => exact HC1_1.1)
     rintro e w35 ⟨v176, rfl, ho0, hb⟩
     refine ⟨_, rfl, ?_⟩
     refine E4 (R_lower ho0 (bZ HB.1)) (bB BK170.1 hb) (bB BK171.1 hb) (bS HB.1 hb) ?_
     clear BK170 BK171 HB
     intro HO177 BK170 BK171 HB
     (try clear hb)
     (try clear hb2)
     (try clear hk)
     (try clear hi)
     (try clear ho0)
     refine hK.out _ _ ⟨(blk_cell BK170.1 0).trans rfl, (blk_cell BK170.1 1).trans rfl, (blk_cell BK171.1 0).trans rfl, (blk_cell BK171.1 1).trans rfl⟩ (fun hHeld => ?_)
     clear hK K
     refine norm_ (a' := ?_) ?_ ?_
     rotate_left
     · show Act.put _ (some 32) _ = _
       simp only [Act.put, List.setIfInBounds_toArray, List.set_cons_zero, List.set_cons_succ, i64_w, i32_w]
       rfl
     refine two_ (i := 4) (j := 9) (Ni := some 34) (Nj := some 8) #[Yy,Yy,Yy,Yy,Yy,Zz,Zz,Zz,Zz,Zz,Zz,Zz] #[Yy,Yy,Yy,Yy,Zz,Zz,Zz,Zz,Zz,Yy,Zz,Zz] rfl rfl rfl rfl (two_of HT_.1 (by kernel_rfl)) (by decide) (by decide) (fun K hK => ?_) (fun K hK => ?_)
     · skip
       refine goes_ Try.func6 (by kernel_rfl) rfl #[.agg #[.int .i64 a2_0, .slice A2_1 l2_1.length c2_1]] (by rfl) rfl rfl (by (try simp only [List.map_toArray, List.map_cons, List.map_nil]); first | done | rfl | (simp only [List.length_drop, List.length_take]; rfl)) ?_
       with_reducible refine (laws_toTable.calls k a2_0 _ _ l2_1 t178 t179 _ ?side1 ?side2 A21.1).mono ?_
       (case side1 => exact CB (C_below HR2_1.1 HB.1))
       (case side2 => exact HC2_1.1)
       rintro e w36 ⟨v180, rfl, ho0, hb⟩
       refine ⟨_, rfl, ?_⟩
       refine E5 (R_elder' (PR HO177.1) (R_base ho0) hb) (R_lower (R_new' ho0 (R_lt (PR HO177.1))) (bZ HB.1)) (bB BK170.1 hb) (bB BK171.1 hb) (bS HB.1 hb) ?_
       clear HO177 BK170 BK171 HB
       intro HO177 HO181 BK170 BK171 HB
       (try clear hb)
       (try clear hb2)
       (try clear hk)
       (try clear hi)
       (try clear ho0)
       obtain ⟨Ao37, co37, eo37⟩ := R_slice HO177.1
       (first | subst eo37 | (injection eo37 with f1_ f2_ f3_; have f4_ := f1_.symm; have f5_ := f3_.symm; clear f1_ f2_ f3_; subst f4_; subst f5_))
       obtain ⟨Ao38, co38, eo38⟩ := R_slice HO181.1
       (first | subst eo38 | (injection eo38 with f1_ f2_ f3_; have f4_ := f1_.symm; have f5_ := f3_.symm; clear f1_ f2_ f3_; subst f4_; subst f5_))
       refine hK.out _ _ ⟨(blk_cell BK170.1 0).trans rfl, (blk_cell BK170.1 1).trans rfl, (blk_cell BK171.1 0).trans rfl, (blk_cell BK171.1 1).trans rfl⟩ (fun hHeld => ?_)
       clear hK K
       refine norm_ (a' := ?_) ?_ ?_
       rotate_left
       · show Act.put _ (some 34) _ = _
         simp only [Act.put, List.setIfInBounds_toArray, List.set_cons_zero, List.set_cons_succ, i64_w, i32_w]
         rfl
       refine two_ (i := 5) (j := 9) (Ni := some 35) (Nj := some 8) #[Yy,Yy,Yy,Yy,Yy,Yy,Zz,Zz,Zz,Zz,Zz,Zz] #[Yy,Yy,Yy,Yy,Yy,Zz,Zz,Zz,Zz,Yy,Zz,Zz] rfl rfl rfl rfl (two_of HT_.1 (by kernel_rfl)) (by decide) (by decide) (fun K hK => ?_) (fun K hK => ?_)
       · skip
         refine goes_ Try.func5 (by kernel_rfl) rfl #[.int .i64 a0, .agg #[.int .i64 t174, .slice Ao37 t175.length co37], .agg #[.int .i64 t178, .slice Ao38 t179.length co38]] (by rfl) rfl rfl (by (try simp only [List.map_toArray, List.map_cons, List.map_nil]); first | done | rfl | (simp only [List.length_drop, List.length_take]; rfl)) ?_
         with_reducible refine (spec_CombineTables.calls k a0 t174 _ _ t175 t178 _ _ t179 t182 t183 t186 _ ?side1 ?side2 ?side3 ?side4 A22.1).mono ?_
         (case side1 => exact CB (R_reads' HO177.1).2.2)
         (case side2 => exact (R_reads' HO177.1).2.1)
         (case side3 => exact CB (R_reads' HO181.1).2.2)
         (case side4 => exact (R_reads' HO181.1).2.1)
         rintro e w39 ⟨v184, rfl, ho0, hb⟩
         refine ⟨_, rfl, ?_⟩
         refine E6 (R_elder' (PR HO177.1) (R_base ho0) hb) (R_elder' (PR HO181.1) (R_base ho0) hb) (R_lower (R_new' (R_new' ho0 (R_lt (PR HO177.1))) (R_lt (PR HO181.1))) (bZ HB.1)) (bB BK170.1 hb) (bB BK171.1 hb) (bS HB.1 hb) ?_
         clear HO177 HO181 BK170 BK171 HB
         intro HO177 HO181 HO185 BK170 BK171 HB
         (try clear hb)
         (try clear hb2)
         (try clear hk)
         (try clear hi)
         (try clear ho0)
         refine hK.out _ _ ⟨(blk_cell BK170.1 0).trans rfl, (blk_cell BK170.1 1).trans rfl, (blk_cell BK171.1 0).trans rfl, (blk_cell BK171.1 1).trans rfl⟩ (fun hHeld => ?_)
         clear hK K
         refine norm_ (a' := ?_) ?_ ?_
         rotate_left
         · show Act.put _ (some 35) _ = _
           simp only [Act.put, List.setIfInBounds_toArray, List.set_cons_zero, List.set_cons_succ, i64_w, i32_w]
           rfl
         refine pureF 6 (N := some 29) HT_.1 ?_
         refine pureF 7 (N := some 36) HT_.1 ?_
         refine pureF 8 (N := some 37) HT_.1 ?_
         refine one_ (i := 9) (N := some 8) #[Yy,Yy,Yy,Yy,Yy,Yy,Yy,Yy,Yy,Yy,Zz,Zz] rfl rfl (one_of HT_.1 (by kernel_rfl)) (by decide) (fun K hK => ?_)
         refine box_step ?hg (N := 8) ?hd (cs := #[.int .i64 0, .slice none 0 0]) (t := 26) ?hr ?_; (case hd => rfl); (case hg => rfl); (case hr => first | (go_simp; done) | (go_simp; rfl))
         intro gb187 hg w40 hbox hb
         refine E13 (rB HO177.1 hb) (rB HO181.1 hb) (rB HO185.1 hb) (bB BK170.1 hb) (bB BK171.1 hb) (bS HB.1 hb) (hbox) (gX HB.1 hg) (gX HB.1 hg) (nB BK170.1 hg) (nC BK170.1 hg) (nB BK171.1 hg) (nC BK171.1 hg) ?_
         clear HO177 HO181 HO185 BK170 BK171 HB
         intro HO177 HO181 HO185 BK170 BK171 HB BK187 GW187 GE187 NB170_187 NB187_170 NB171_187 NB187_171
         clear hb hbox hg
         refine hK.out _ _ ⟨(blk_cell BK170.1 0).trans rfl, (blk_cell BK170.1 1).trans rfl, (blk_cell BK171.1 0).trans rfl, (blk_cell BK171.1 1).trans rfl⟩ (fun hHeld => ?_)
         clear hK K
         refine norm_ (a' := ?_) ?_ ?_
         rotate_left
         · show Act.put _ (some 8) _ = _
           simp only [Act.put, List.setIfInBounds_toArray, List.set_cons_zero, List.set_cons_succ, i64_w, i32_w]
           rfl
         exact norm_ NA (hCont (.slice Ao37 t175.length co37, .slice Ao38 t179.length co38, v184, gb187) _ ⟨hHeld, (RPE (R_mono HO177.1 (fun _ hk => ⟨hk.1.2, hk.2⟩))), (RPE (R_mono HO181.1 (fun _ hk => ⟨hk.1.2, hk.2⟩))), (RPE (R_mono HO185.1 (fun _ hk => ⟨hk.1.2, hk.2⟩))), (PB BK170.1), (PB BK171.1), (PB BK187.1), GW187.1, GE187.1, NB170_187.1, NB187_170.1, NB171_187.1, NB187_171.1, (BL HB.1)⟩)
       skip
       refine box_step ?hg (N := 8) ?hd (cs := #[.int .i64 0, .slice none 0 0]) (t := 26) ?hr ?_; (case hd => rfl); (case hg => rfl); (case hr => first | (go_simp; done) | (go_simp; rfl))
       intro gb187 hg w37 hbox hb
       refine E12 (rB HO177.1 hb) (rB HO181.1 hb) (bB BK170.1 hb) (bB BK171.1 hb) (bS HB.1 hb) (hbox) (gX HB.1 hg) (gX HB.1 hg) (nB BK170.1 hg) (nC BK170.1 hg) (nB BK171.1 hg) (nC BK171.1 hg) ?_
       clear HO177 HO181 BK170 BK171 HB
       intro HO177 HO181 BK170 BK171 HB BK187 GW187 GE187 NB170_187 NB187_170 NB171_187 NB187_171
       clear hb hbox hg
       obtain ⟨Ao38, co38, eo38⟩ := R_slice HO177.1
       (first | subst eo38 | (injection eo38 with f1_ f2_ f3_; have f4_ := f1_.symm; have f5_ := f3_.symm; clear f1_ f2_ f3_; subst f4_; subst f5_))
       obtain ⟨Ao39, co39, eo39⟩ := R_slice HO181.1
       (first | subst eo39 | (injection eo39 with f1_ f2_ f3_; have f4_ := f1_.symm; have f5_ := f3_.symm; clear f1_ f2_ f3_; subst f4_; subst f5_))
       refine hK.out _ _ ⟨(blk_cell BK170.1 0).trans rfl, (blk_cell BK170.1 1).trans rfl, (blk_cell BK171.1 0).trans rfl, (blk_cell BK171.1 1).trans rfl⟩ (fun hHeld => ?_)
       clear hK K
       refine norm_ (a' := ?_) ?_ ?_
       rotate_left
       · show Act.put _ (some 8) _ = _
         simp only [Act.put, List.setIfInBounds_toArray, List.set_cons_zero, List.set_cons_succ, i64_w, i32_w]
         rfl
       refine one_ (i := 5) (N := some 35) #[Yy,Yy,Yy,Yy,Yy,Yy,Zz,Zz,Zz,Yy,Zz,Zz] rfl rfl (one_of HT_.1 (by kernel_rfl)) (by decide) (fun K hK => ?_)
       refine goes_ Try.func5 (by kernel_rfl) rfl #[.int .i64 a0, .agg #[.int .i64 t174, .slice Ao38 t175.length co38], .agg #[.int .i64 t178, .slice Ao39 t179.length co39]] (by rfl) rfl rfl (by (try simp only [List.map_toArray, List.map_cons, List.map_nil]); first | done | rfl | (simp only [List.length_drop, List.length_take]; rfl)) ?_
       with_reducible refine (spec_CombineTables.calls k a0 t174 _ _ t175 t178 _ _ t179 t182 t183 t186 _ ?side1 ?side2 ?side3 ?side4 A22.1).mono ?_
       (case side1 => exact CB (R_reads' HO177.1).2.2)
       (case side2 => exact (R_reads' HO177.1).2.1)
       (case side3 => exact CB (R_reads' HO181.1).2.2)
       (case side4 => exact (R_reads' HO181.1).2.1)
       rintro e w40 ⟨v184, rfl, ho0, hb⟩
       refine ⟨_, rfl, ?_⟩
       refine E7 (R_elder' (PR HO177.1) (R_base ho0) hb) (R_elder' (PR HO181.1) (R_base ho0) hb) (R_lower (R_new' (R_new' ho0 (R_lt (PR HO177.1))) (R_lt (PR HO181.1))) (bZ HB.1)) (bB BK170.1 hb) (bB BK171.1 hb) (bB BK187.1 hb) (bS HB.1 hb) ?_
       clear HO177 HO181 BK170 BK171 BK187 HB
       intro HO177 HO181 HO185 BK170 BK171 BK187 HB
       (try clear hb)
       (try clear hb2)
       (try clear hk)
       (try clear hi)
       (try clear ho0)
       refine hK.out _ _ ⟨(blk_cell BK170.1 0).trans rfl, (blk_cell BK170.1 1).trans rfl, (blk_cell BK171.1 0).trans rfl, (blk_cell BK171.1 1).trans rfl⟩ (fun hHeld => ?_)
       clear hK K
       refine norm_ (a' := ?_) ?_ ?_
       rotate_left
       · show Act.put _ (some 35) _ = _
         simp only [Act.put, List.setIfInBounds_toArray, List.set_cons_zero, List.set_cons_succ, i64_w, i32_w]
         rfl
       refine pureF 6 (N := some 29) HT_.1 ?_
       refine pureF 7 (N := some 36) HT_.1 ?_
       refine pureF 8 (N := some 37) HT_.1 ?_
       exact norm_ NA (hCont (.slice Ao38 t175.length co38, .slice Ao39 t179.length co39, v184, gb187) _ ⟨hHeld, (RPE (R_mono HO177.1 (fun _ hk => ⟨hk.1.2, hk.2⟩))), (RPE (R_mono HO181.1 (fun _ hk => ⟨hk.1.2, hk.2⟩))), (RPE (R_mono HO185.1 (fun _ hk => ⟨hk.1.2, hk.2⟩))), (PB BK170.1), (PB BK171.1), (PB BK187.1), GW187.1, GE187.1, NB170_187.1, NB187_170.1, NB171_187.1, NB187_171.1, (BL HB.1)⟩)
     skip
     refine box_step ?hg (N := 8) ?hd (cs := #[.int .i64 0, .slice none 0 0]) (t := 26) ?hr ?_; (case hd => rfl); (case hg => rfl); (case hr => first | (go_simp; done) | (go_simp; rfl))
     intro gb187 hg w36 hbox hb
     refine E11 (rB HO177.1 hb) (bB BK170.1 hb) (bB BK171.1 hb) (bS HB.1 hb) (hbox) (gX HB.1 hg) (gX HB.1 hg) (nB BK170.1 hg) (nC BK170.1 hg) (nB BK171.1 hg) (nC BK171.1 hg) ?_
     clear HO177 BK170 BK171 HB
     intro HO177 BK170 BK171 HB BK187 GW187 GE187 NB170_187 NB187_170 NB171_187 NB187_171
     clear hb hbox hg
     refine hK.out _ _ ⟨(blk_cell BK170.1 0).trans rfl, (blk_cell BK170.1 1).trans rfl, (blk_cell BK171.1 0).trans rfl, (blk_cell BK171.1 1).trans rfl⟩ (fun hHeld => ?_)
     clear hK K
     refine norm_ (a' := ?_) ?_ ?_
     rotate_left
     · show Act.put _ (some 8) _ = _
       simp only [Act.put, List.setIfInBounds_toArray, List.set_cons_zero, List.set_cons_succ, i64_w, i32_w]
       rfl
     refine one_ (i := 4) (N := some 34) #[Yy,Yy,Yy,Yy,Yy,Zz,Zz,Zz,Zz,Yy,Zz,Zz] rfl rfl (one_of HT_.1 (by kernel_rfl)) (by decide) (fun K hK => ?_)
     refine goes_ Try.func6 (by kernel_rfl) rfl #[.agg #[.int .i64 a2_0, .slice A2_1 l2_1.length c2_1]] (by rfl) rfl rfl (by (try simp only [List.map_toArray, List.map_cons, List.map_nil]); first | done | rfl | (simp only [List.length_drop, List.length_take]; rfl)) ?_
     with_reducible refine (laws_toTable.calls k a2_0 _ _ l2_1 t178 t179 _ ?side1 ?side2 A21.1).mono ?_
     (case side1 => exact CB (C_below HR2_1.1 HB.1))
     (case side2 => exact HC2_1.1)
     rintro e w37 ⟨v180, rfl, ho0, hb⟩
     refine ⟨_, rfl, ?_⟩
     refine E6 (R_elder' (PR HO177.1) (R_base ho0) hb) (R_lower (R_new' ho0 (R_lt (PR HO177.1))) (bZ HB.1)) (bB BK170.1 hb) (bB BK171.1 hb) (bB BK187.1 hb) (bS HB.1 hb) ?_
     clear HO177 BK170 BK171 BK187 HB
     intro HO177 HO181 BK170 BK171 BK187 HB
     (try clear hb)
     (try clear hb2)
     (try clear hk)
     (try clear hi)
     (try clear ho0)
     obtain ⟨Ao38, co38, eo38⟩ := R_slice HO177.1
     (first | subst eo38 | (injection eo38 with f1_ f2_ f3_; have f4_ := f1_.symm; have f5_ := f3_.symm; clear f1_ f2_ f3_; subst f4_; subst f5_))
     obtain ⟨Ao39, co39, eo39⟩ := R_slice HO181.1
     (first | subst eo39 | (injection eo39 with f1_ f2_ f3_; have f4_ := f1_.symm; have f5_ := f3_.symm; clear f1_ f2_ f3_; subst f4_; subst f5_))
     refine hK.out _ _ ⟨(blk_cell BK170.1 0).trans rfl, (blk_cell BK170.1 1).trans rfl, (blk_cell BK171.1 0).trans rfl, (blk_cell BK171.1 1).trans rfl⟩ (fun hHeld => ?_)
     clear hK K
     refine norm_ (a' := ?_) ?_ ?_
     rotate_left
     · show Act.put _ (some 34) _ = _
       simp only [Act.put, List.setIfInBounds_toArray, List.set_cons_zero, List.set_cons_succ, i64_w, i32_w]
       rfl
     refine one_ (i := 5) (N := some 35) #[Yy,Yy,Yy,Yy,Yy,Yy,Zz,Zz,Zz,Yy,Zz,Zz] rfl rfl (one_of HT_.1 (by kernel_rfl)) (by decide) (fun K hK => ?_)
     refine goes_ Try.func5 (by kernel_rfl) rfl #[.int .i64 a0, .agg #[.int .i64 t174, .slice Ao38 t175.length co38], .agg #[.int .i64 t178, .slice Ao39 t179.length co39]] (by rfl) rfl rfl (by (try simp only [List.map_toArray, List.map_cons, List.map_nil]); first | done | rfl | (simp only [List.length_drop, List.length_take]; rfl)) ?_
     with_reducible refine (spec_CombineTables.calls k a0 t174 _ _ t175 t178 _ _ t179 t182 t183 t186 _ ?side1 ?side2 ?side3 ?side4 A22.1).mono ?_
     (case side1 => exact CB (R_reads' HO177.1).2.2)
     (case side2 => exact (R_reads' HO177.1).2.1)
     (case side3 => exact CB (R_reads' HO181.1).2.2)
     (case side4 => exact (R_reads' HO181.1).2.1)
     rintro e w40 ⟨v184, rfl, ho0, hb⟩
     refine ⟨_, rfl, ?_⟩
     refine E7 (R_elder' (PR HO177.1) (R_base ho0) hb) (R_elder' (PR HO181.1) (R_base ho0) hb) (R_lower (R_new' (R_new' ho0 (R_lt (PR HO177.1))) (R_lt (PR HO181.1))) (bZ HB.1)) (bB BK170.1 hb) (bB BK171.1 hb) (bB BK187.1 hb) (bS HB.1 hb) ?_
     clear HO177 HO181 BK170 BK171 BK187 HB
     intro HO177 HO181 HO185 BK170 BK171 BK187 HB
     (try clear hb)
     (try clear hb2)
     (try clear hk)
     (try clear hi)
     (try clear ho0)
     refine hK.out _ _ ⟨(blk_cell BK170.1 0).trans rfl, (blk_cell BK170.1 1).trans rfl, (blk_cell BK171.1 0).trans rfl, (blk_cell BK171.1 1).trans rfl⟩ (fun hHeld => ?_)
     clear hK K
     refine norm_ (a' := ?_) ?_ ?_
     rotate_left
     · show Act.put _ (some 35) _ = _
       simp only [Act.put, List.setIfInBounds_toArray, List.set_cons_zero, List.set_cons_succ, i64_w, i32_w]
       rfl
     refine pureF 6 (N := some 29) HT_.1 ?_
     refine pureF 7 (N := some 36) HT_.1 ?_
     refine pureF 8 (N := some 37) HT_.1 ?_
     exact norm_ NA (hCont (.slice Ao38 t175.length co38, .slice Ao39 t179.length co39, v184, gb187) _ ⟨hHeld, (RPE (R_mono HO177.1 (fun _ hk => ⟨hk.1.2, hk.2⟩))), (RPE (R_mono HO181.1 (fun _ hk => ⟨hk.1.2, hk.2⟩))), (RPE (R_mono HO185.1 (fun _ hk => ⟨hk.1.2, hk.2⟩))), (PB BK170.1), (PB BK171.1), (PB BK187.1), GW187.1, GE187.1, NB170_187.1, NB187_170.1, NB171_187.1, NB187_171.1, (BL HB.1)⟩)
   skip
   refine box_step ?hg (N := 8) ?hd (cs := #[.int .i64 0, .slice none 0 0]) (t := 26) ?hr ?_; (case hd => rfl); (case hg => rfl); (case hr => first | (go_simp; done) | (go_simp; rfl))
   intro gb187 hg w35 hbox hb
   refine E10 (bB BK170.1 hb) (bB BK171.1 hb) (bS HB.1 hb) (hbox) (gX HB.1 hg) (gX HB.1 hg) (nB BK170.1 hg) (nC BK170.1 hg) (nB BK171.1 hg) (nC BK171.1 hg) ?_
   clear BK170 BK171 HB
   intro BK170 BK171 HB BK187 GW187 GE187 NB170_187 NB187_170 NB171_187 NB187_171
   clear hb hbox hg
   refine hK.out _ _ ⟨(blk_cell BK170.1 0).trans rfl, (blk_cell BK170.1 1).trans rfl, (blk_cell BK171.1 0).trans rfl, (blk_cell BK171.1 1).trans rfl⟩ (fun hHeld => ?_)
   clear hK K
   refine norm_ (a' := ?_) ?_ ?_
   rotate_left
   · show Act.put _ (some 8) _ = _
     simp only [Act.put, List.setIfInBounds_toArray, List.set_cons_zero, List.set_cons_succ, i64_w, i32_w]
     rfl
   refine one_ (i := 2) (N := some 32) #[Yy,Yy,Yy,Yy,Zz,Zz,Zz,Zz,Zz,Yy,Zz,Zz] rfl rfl (one_of HT_.1 (by kernel_rfl)) (by decide) (fun K hK => ?_)
   refine goes_ Try.func6 (by kernel_rfl) rfl #[.agg #[.int .i64 a1_0, .slice A1_1 l1_1.length c1_1]] (by rfl) rfl rfl (by (try simp only [List.map_toArray, List.map_cons, List.map_nil]); first | done | rfl | (simp only [List.length_drop, List.length_take]; rfl)) ?_
   with_reducible refine (laws_toTable.calls k a1_0 _ _ l1_1 t174 t175 _ ?side1 ?side2 A20.1).mono ?_
   (case side1 => exact CB (C_below HR1_1.1 HB.1))
   (case side2 => exact HC1_1.1)
   rintro e w36 ⟨v176, rfl, ho0, hb⟩
   refine ⟨_, rfl, ?_⟩
   refine E5 (R_lower ho0 (bZ HB.1)) (bB BK170.1 hb) (bB BK171.1 hb) (bB BK187.1 hb) (bS HB.1 hb) ?_
   clear BK170 BK171 BK187 HB
   intro HO177 BK170 BK171 BK187 HB
   (try clear hb)
   (try clear hb2)
   (try clear hk)
   (try clear hi)
   (try clear ho0)
   refine hK.out _ _ ⟨(blk_cell BK170.1 0).trans rfl, (blk_cell BK170.1 1).trans rfl, (blk_cell BK171.1 0).trans rfl, (blk_cell BK171.1 1).trans rfl⟩ (fun hHeld => ?_)
   clear hK K
   refine norm_ (a' := ?_) ?_ ?_
   rotate_left
   · show Act.put _ (some 32) _ = _
     simp only [Act.put, List.setIfInBounds_toArray, List.set_cons_zero, List.set_cons_succ, i64_w, i32_w]
     rfl
   refine one_ (i := 4) (N := some 34) #[Yy,Yy,Yy,Yy,Yy,Zz,Zz,Zz,Zz,Yy,Zz,Zz] rfl rfl (one_of HT_.1 (by kernel_rfl)) (by decide) (fun K hK => ?_)
   refine goes_ Try.func6 (by kernel_rfl) rfl #[.agg #[.int .i64 a2_0, .slice A2_1 l2_1.length c2_1]] (by rfl) rfl rfl (by (try simp only [List.map_toArray, List.map_cons, List.map_nil]); first | done | rfl | (simp only [List.length_drop, List.length_take]; rfl)) ?_
   with_reducible refine (laws_toTable.calls k a2_0 _ _ l2_1 t178 t179 _ ?side1 ?side2 A21.1).mono ?_
   (case side1 => exact CB (C_below HR2_1.1 HB.1))
   (case side2 => exact HC2_1.1)
   rintro e w37 ⟨v180, rfl, ho0, hb⟩
   refine ⟨_, rfl, ?_⟩
   refine E6 (R_elder' (PR HO177.1) (R_base ho0) hb) (R_lower (R_new' ho0 (R_lt (PR HO177.1))) (bZ HB.1)) (bB BK170.1 hb) (bB BK171.1 hb) (bB BK187.1 hb) (bS HB.1 hb) ?_
   clear HO177 BK170 BK171 BK187 HB
   intro HO177 HO181 BK170 BK171 BK187 HB
   (try clear hb)
   (try clear hb2)
   (try clear hk)
   (try clear hi)
   (try clear ho0)
   obtain ⟨Ao38, co38, eo38⟩ := R_slice HO177.1
   (first | subst eo38 | (injection eo38 with f1_ f2_ f3_; have f4_ := f1_.symm; have f5_ := f3_.symm; clear f1_ f2_ f3_; subst f4_; subst f5_))
   obtain ⟨Ao39, co39, eo39⟩ := R_slice HO181.1
   (first | subst eo39 | (injection eo39 with f1_ f2_ f3_; have f4_ := f1_.symm; have f5_ := f3_.symm; clear f1_ f2_ f3_; subst f4_; subst f5_))
   refine hK.out _ _ ⟨(blk_cell BK170.1 0).trans rfl, (blk_cell BK170.1 1).trans rfl, (blk_cell BK171.1 0).trans rfl, (blk_cell BK171.1 1).trans rfl⟩ (fun hHeld => ?_)
   clear hK K
   refine norm_ (a' := ?_) ?_ ?_
   rotate_left
   · show Act.put _ (some 34) _ = _
     simp only [Act.put, List.setIfInBounds_toArray, List.set_cons_zero, List.set_cons_succ, i64_w, i32_w]
     rfl
   refine one_ (i := 5) (N := some 35) #[Yy,Yy,Yy,Yy,Yy,Yy,Zz,Zz,Zz,Yy,Zz,Zz] rfl rfl (one_of HT_.1 (by kernel_rfl)) (by decide) (fun K hK => ?_)
   refine goes_ Try.func5 (by kernel_rfl) rfl #[.int .i64 a0, .agg #[.int .i64 t174, .slice Ao38 t175.length co38], .agg #[.int .i64 t178, .slice Ao39 t179.length co39]] (by rfl) rfl rfl (by (try simp only [List.map_toArray, List.map_cons, List.map_nil]); first | done | rfl | (simp only [List.length_drop, List.length_take]; rfl)) ?_
   with_reducible refine (spec_CombineTables.calls k a0 t174 _ _ t175 t178 _ _ t179 t182 t183 t186 _ ?side1 ?side2 ?side3 ?side4 A22.1).mono ?_
   (case side1 => exact CB (R_reads' HO177.1).2.2)
   (case side2 => exact (R_reads' HO177.1).2.1)
   (case side3 => exact CB (R_reads' HO181.1).2.2)
   (case side4 => exact (R_reads' HO181.1).2.1)
   rintro e w40 ⟨v184, rfl, ho0, hb⟩
   refine ⟨_, rfl, ?_⟩
   refine E7 (R_elder' (PR HO177.1) (R_base ho0) hb) (R_elder' (PR HO181.1) (R_base ho0) hb) (R_lower (R_new' (R_new' ho0 (R_lt (PR HO177.1))) (R_lt (PR HO181.1))) (bZ HB.1)) (bB BK170.1 hb) (bB BK171.1 hb) (bB BK187.1 hb) (bS HB.1 hb) ?_
   clear HO177 HO181 BK170 BK171 BK187 HB
   intro HO177 HO181 HO185 BK170 BK171 BK187 HB
   (try clear hb)
   (try clear hb2)
   (try clear hk)
   (try clear hi)
   (try clear ho0)
   refine hK.out _ _ ⟨(blk_cell BK170.1 0).trans rfl, (blk_cell BK170.1 1).trans rfl, (blk_cell BK171.1 0).trans rfl, (blk_cell BK171.1 1).trans rfl⟩ (fun hHeld => ?_)
   clear hK K
   refine norm_ (a' := ?_) ?_ ?_
   rotate_left
   · show Act.put _ (some 35) _ = _
     simp only [Act.put, List.setIfInBounds_toArray, List.set_cons_zero, List.set_cons_succ, i64_w, i32_w]
     rfl
   refine pureF 6 (N := some 29) HT_.1 ?_
   refine pureF 7 (N := some 36) HT_.1 ?_
   refine pureF 8 (N := some 37) HT_.1 ?_
   exact norm_ NA (hCont (.slice Ao38 t175.length co38, .slice Ao39 t179.length co39, v184, gb187) _ ⟨hHeld, (RPE (R_mono HO177.1 (fun _ hk => ⟨hk.1.2, hk.2⟩))), (RPE (R_mono HO181.1 (fun _ hk => ⟨hk.1.2, hk.2⟩))), (RPE (R_mono HO185.1 (fun _ hk => ⟨hk.1.2, hk.2⟩))), (PB BK170.1), (PB BK171.1), (PB BK187.1), GW187.1, GE187.1, NB170_187.1, NB187_170.1, NB171_187.1, NB187_171.1, (BL HB.1)⟩)
 rintro ⟨v176, v180, v184, gb187⟩ w41 ⟨hS_, h0_, h1_, h2_, h3_, h4_, h5_, h6_, h7_, h8_, h9_, h10_, h11_, h12_⟩
 refine E13 (show Kd.R (Kd.int .i64) 3 w41 w.heap.size (fun k_ => some k_ ≠ (v180 : Value).ownBlock /\ some k_ ≠ (v184 : Value).ownBlock) v176 t175 from h0_) (show Kd.R (Kd.int .i64) 3 w41 w.heap.size (fun k_ => some k_ ≠ (v176 : Value).ownBlock /\ some k_ ≠ (v184 : Value).ownBlock) v180 t179 from h1_) (show Kd.R (Kd.int .i64) 3 w41 w.heap.size (fun k_ => some k_ ≠ (v176 : Value).ownBlock /\ some k_ ≠ (v180 : Value).ownBlock) v184 t183 from h2_) (show w41.heap[gb170]? = some (.cells #[.int .i64 a1_0, .slice A1_1 l1_1.length c1_1] 24 (0, 0)) from h3_) (show w41.heap[gb171]? = some (.cells #[.int .i64 a2_0, .slice A2_1 l2_1.length c2_1] 24 (0, 0)) from h4_) (show w41.heap[gb187]? = some (.cells #[.int .i64 0, .slice none 0 0] 26 (0, 0)) from h5_) (show w.heap.size <= gb187 from h6_) (show w.heap.size <= gb187 from h7_) (show gb170 ≠ gb187 from h8_) (show gb187 ≠ gb170 from h9_) (show gb171 ≠ gb187 from h10_) (show gb187 ≠ gb171 from h11_) (show Below w.heap.size w w41 from h12_) ?_
 clear BK170 BK171 HB h0_ h1_ h2_ h3_ h4_ h5_ h6_ h7_ h8_ h9_ h10_ h11_ h12_
 intro HO177 HO181 HO185 BK170 BK171 BK187 GW187 GE187 NB170_187 NB187_170 NB171_187 NB187_171 HB
 have hHeld : w41.cell? ⟨gb170, 0, none⟩ = some (.int .i64 a1_0) /\ w41.cell? ⟨gb170, 1, none⟩ = some (.slice A1_1 l1_1.length c1_1) /\ w41.cell? ⟨gb171, 0, none⟩ = some (.int .i64 a2_0) /\ w41.cell? ⟨gb171, 1, none⟩ = some (.slice A2_1 l2_1.length c2_1) := hS_
 obtain ⟨Ao43, co43, eo43⟩ := R_slice HO185.1
 (first | subst eo43 | (injection eo43 with f1_ f2_ f3_; have f4_ := f1_.symm; have f5_ := f3_.symm; clear f1_ f2_ f3_; subst f4_; subst f5_))
 refine norm_ (a' := ?_) ?_ ?_
 rotate_left
 · simp only [putAll, Act.put, List.setIfInBounds_toArray, List.set_cons_zero, List.set_cons_succ]
   rfl
 refine one_ (i := 10) (N := none) #[Yy,Yy,Yy,Yy,Yy,Yy,Yy,Yy,Yy,Yy,Yy,Zz] rfl rfl (one_of HT_.1 (by kernel_rfl)) (by decide) (fun K hK => ?_)
 obtain ⟨hs42, hs44, hfs42, hfs44⟩ := cz2 BK187.1
 have hns42_0 := NB170_187.1
 have hns42_1 := NB171_187.1
 have hms42_0 := NB187_170.1
 have hms42_1 := NB187_171.1
 refine skip_ (w1 := ?_) (by rfl) rfl ?_ ?_
 rotate_left
 · go_simp
   rfl
 refine hK.out _ _ ⟨(CF2 NB170_187.1 hHeld.1), (CF2 NB170_187.1 hHeld.2.1), (CF2 NB171_187.1 hHeld.2.2.1), (CF2 NB171_187.1 hHeld.2.2.2)⟩ (fun hHeld => ?_)
 clear hK K
 refine pureF 11 (N := some 9) HT_.1 ?_
 refine done_ (done_of HT_.1 (by kernel_rfl)) ?_
 obtain ⟨hcz46_0, hcz46_1, hfz46_0, hfz46_1⟩ := cz2 BK170.1
 go_upto_region 12 with (first | ((with_reducible refine gate_callee (f := 6) rfl ?_); refine goesM (N := (some 39)) #[.agg #[.int .i64 a1_0, .slice A1_1 l1_1.length c1_1]] Try.func6 ?_; (with_reducible refine (laws_toTable.calls k a1_0 _ _ l1_1 t188 t189 _ ?side1 ?side2 A23.1).mono ?_); (case side1 => exact C_below HR1_1.1 (BL HB.1)); (case side2 => exact HC1_1.1); rintro e w47 ⟨v190, rfl, ho0, hb⟩; refine ⟨_, rfl, ?_⟩; refine E8 (R_elder' (by (with_reducible repeat (first | apply R_alloc | apply R_drewN | apply R_drew)); exact (R_mono (RQ gb187 1 (RQ gb187 0 (R_types HO177.1 BK187.1 (by decide)) _) _) (fun _ h_ => h_.1))) (R_base ho0) hb) (R_elder' (by (with_reducible repeat (first | apply R_alloc | apply R_drewN | apply R_drew)); exact (R_mono (RQ gb187 1 (RQ gb187 0 (R_types HO181.1 BK187.1 (by decide)) _) _) (fun _ h_ => h_.1))) (R_base ho0) hb) (R_elder' (by (with_reducible repeat (first | apply R_alloc | apply R_drewN | apply R_drew)); exact (R_mono (RQ gb187 1 (RQ gb187 0 (R_types HO185.1 BK187.1 (by decide)) _) _) (fun _ h_ => h_.1))) (R_base ho0) hb) (R_lower (R_new' (R_new' (R_new' ho0 (R_lt (by (with_reducible repeat (first | apply R_alloc | apply R_drewN | apply R_drew)); exact (R_mono (RQ gb187 1 (RQ gb187 0 (R_types HO177.1 BK187.1 (by decide)) _) _) (fun _ h_ => h_.1))))) (R_lt (by (with_reducible repeat (first | apply R_alloc | apply R_drewN | apply R_drew)); exact (R_mono (RQ gb187 1 (RQ gb187 0 (R_types HO181.1 BK187.1 (by decide)) _) _) (fun _ h_ => h_.1))))) (R_lt (by (with_reducible repeat (first | apply R_alloc | apply R_drewN | apply R_drew)); exact (R_mono (RQ gb187 1 (RQ gb187 0 (R_types HO185.1 BK187.1 (by decide)) _) _) (fun _ h_ => h_.1))))) (bZ HB.1)) (blk_below (g := gb170) (o := .cells #[.int .i64 a1_0, .slice A1_1 l1_1.length c1_1] 24 (0, 0)) (PF1 NB170_187.1 BK170.1) hb) (blk_below (g := gb171) (o := .cells #[.int .i64 a2_0, .slice A2_1 l2_1.length c2_1] 24 (0, 0)) (PF1 NB171_187.1 BK171.1) hb) (blk_below (g := gb187) (o := .cells #[.int .i64 t182, .slice Ao43 t183.length co43] 26 (0, 0)) (PF0 BK187.1) hb) (bS HB.1 hb) ?_; clear HO177 HO181 HO185 BK170 BK171 BK187 HB; intro HO177 HO181 HO185 HO191 BK170 BK171 BK187 HB; (try clear hb); (try clear ho0)) | ((with_reducible refine gate_dst (N := 10) rfl ?_); refine boxE (cs := #[.int .i64 0, .slice none 0 0]) (t := 26) ?_; intro gb192 hg w48 hbox hb; refine E17 (rB HO177.1 hb) (rB HO181.1 hb) (rB HO185.1 hb) (rB HO191.1 hb) (bB BK170.1 hb) (bB BK171.1 hb) (bB BK187.1 hb) (bS HB.1 hb) (hbox) (gX HB.1 hg) (gX HB.1 hg) (nB BK170.1 hg) (nC BK170.1 hg) (nB BK171.1 hg) (nC BK171.1 hg) (nB BK187.1 hg) (nC BK187.1 hg) ?_; clear HO177 HO181 HO185 HO191 BK170 BK171 BK187 HB; intro HO177 HO181 HO185 HO191 BK170 BK171 BK187 HB BK192 GW192 GE192 NB170_192 NB192_170 NB171_192 NB192_171 NB187_192 NB192_187; clear hb hbox hg; have hnb49 := NB192_170.1; have hnc49 := NB170_192.1; have hnb50 := NB192_171.1; have hnc50 := NB171_192.1; have hnb51 := NB192_187.1; have hnc51 := NB187_192.1; obtain ⟨hcz52_0, hcz52_1, hfz52_0, hfz52_1⟩ := cz2 BK192.1; obtain ⟨Ao53, co53, eo53⟩ := R_slice HO191.1; subst eo53; have hnb54 := NB171_187.1; have hnc54 := NB187_171.1; obtain ⟨hcz55_0, hcz55_1, hfz55_0, hfz55_1⟩ := cz2 BK171.1) | ((with_reducible refine gate_callee (f := 6) rfl ?_); refine goesM (N := (some 41)) #[.agg #[.int .i64 a2_0, .slice A2_1 l2_1.length c2_1]] Try.func6 ?_; (with_reducible refine (laws_toTable.calls k a2_0 _ _ l2_1 t193 t194 _ ?side1 ?side2 A24.1).mono ?_); (case side1 => exact C_below HR2_1.1 (BL HB.1)); (case side2 => exact HC2_1.1); rintro e w56 ⟨v195, rfl, ho0, hb⟩; refine ⟨_, rfl, ?_⟩; refine E10 (R_elder' (by (with_reducible repeat (first | apply R_alloc | apply R_drewN | apply R_drew)); exact (R_mono (RQ gb192 1 (RQ gb192 0 (R_types HO177.1 BK192.1 (by decide)) _) _) (fun _ h_ => h_.1))) (R_base ho0) hb) (R_elder' (by (with_reducible repeat (first | apply R_alloc | apply R_drewN | apply R_drew)); exact (R_mono (RQ gb192 1 (RQ gb192 0 (R_types HO181.1 BK192.1 (by decide)) _) _) (fun _ h_ => h_.1))) (R_base ho0) hb) (R_elder' (by (with_reducible repeat (first | apply R_alloc | apply R_drewN | apply R_drew)); exact (R_mono (RQ gb192 1 (RQ gb192 0 (R_types HO185.1 BK192.1 (by decide)) _) _) (fun _ h_ => h_.1))) (R_base ho0) hb) (R_elder' (by (with_reducible repeat (first | apply R_alloc | apply R_drewN | apply R_drew)); exact (R_mono (RQ gb192 1 (RQ gb192 0 (R_types HO191.1 BK192.1 (by decide)) _) _) (fun _ h_ => h_.1))) (R_base ho0) hb) (R_lower (R_new' (R_new' (R_new' (R_new' ho0 (R_lt (by (with_reducible repeat (first | apply R_alloc | apply R_drewN | apply R_drew)); exact (R_mono (RQ gb192 1 (RQ gb192 0 (R_types HO177.1 BK192.1 (by decide)) _) _) (fun _ h_ => h_.1))))) (R_lt (by (with_reducible repeat (first | apply R_alloc | apply R_drewN | apply R_drew)); exact (R_mono (RQ gb192 1 (RQ gb192 0 (R_types HO181.1 BK192.1 (by decide)) _) _) (fun _ h_ => h_.1))))) (R_lt (by (with_reducible repeat (first | apply R_alloc | apply R_drewN | apply R_drew)); exact (R_mono (RQ gb192 1 (RQ gb192 0 (R_types HO185.1 BK192.1 (by decide)) _) _) (fun _ h_ => h_.1))))) (R_lt (by (with_reducible repeat (first | apply R_alloc | apply R_drewN | apply R_drew)); exact (R_mono (RQ gb192 1 (RQ gb192 0 (R_types HO191.1 BK192.1 (by decide)) _) _) (fun _ h_ => h_.1))))) (bZ HB.1)) (blk_below (g := gb170) (o := .cells #[.int .i64 a1_0, .slice A1_1 l1_1.length c1_1] 24 (0, 0)) (PF1 NB170_192.1 BK170.1) hb) (blk_below (g := gb171) (o := .cells #[.int .i64 a2_0, .slice A2_1 l2_1.length c2_1] 24 (0, 0)) (PF1 NB171_192.1 BK171.1) hb) (blk_below (g := gb187) (o := .cells #[.int .i64 t182, .slice Ao43 t183.length co43] 26 (0, 0)) (PF1 NB187_192.1 BK187.1) hb) (blk_below (g := gb192) (o := .cells #[.int .i64 t188, .slice Ao53 t189.length co53] 26 (0, 0)) (PF0 BK192.1) hb) (bS HB.1 hb) ?_; clear HO177 HO181 HO185 HO191 BK170 BK171 BK187 BK192 HB; intro HO177 HO181 HO185 HO191 HO196 BK170 BK171 BK187 BK192 HB; (try clear hb); (try clear ho0)) | ((with_reducible refine gate_dst (N := 11) rfl ?_); refine boxE (cs := #[.int .i64 0, .slice none 0 0]) (t := 26) ?_; intro gb197 hg w57 hbox hb; refine E21 (rB HO177.1 hb) (rB HO181.1 hb) (rB HO185.1 hb) (rB HO191.1 hb) (rB HO196.1 hb) (bB BK170.1 hb) (bB BK171.1 hb) (bB BK187.1 hb) (bB BK192.1 hb) (bS HB.1 hb) (hbox) (gX HB.1 hg) (gX HB.1 hg) (nB BK170.1 hg) (nC BK170.1 hg) (nB BK171.1 hg) (nC BK171.1 hg) (nB BK187.1 hg) (nC BK187.1 hg) (nB BK192.1 hg) (nC BK192.1 hg) ?_; clear HO177 HO181 HO185 HO191 HO196 BK170 BK171 BK187 BK192 HB; intro HO177 HO181 HO185 HO191 HO196 BK170 BK171 BK187 BK192 HB BK197 GW197 GE197 NB170_197 NB197_170 NB171_197 NB197_171 NB187_197 NB197_187 NB192_197 NB197_192; clear hb hbox hg; have hnb58 := NB197_170.1; have hnc58 := NB170_197.1; have hnb59 := NB197_171.1; have hnc59 := NB171_197.1; have hnb60 := NB197_187.1; have hnc60 := NB187_197.1; have hnb61 := NB197_192.1; have hnc61 := NB192_197.1; obtain ⟨hcz62_0, hcz62_1, hfz62_0, hfz62_1⟩ := cz2 BK197.1; obtain ⟨Ao63, co63, eo63⟩ := R_slice HO196.1; subst eo63; obtain ⟨hcz64_0, hcz64_1, hfz64_0, hfz64_1⟩ := cz2 BK192.1) | ((with_reducible refine gate_callee (f := 7) rfl ?_); refine goesM (N := (some 46)) #[.int .i64 a0, .agg #[.int .i64 t188, .slice Ao53 t189.length co53], .agg #[.int .i64 t193, .slice Ao63 t194.length co63]] Try.func7 ?_; (with_reducible refine (impl_CombineTables.calls k a0 t188 _ _ t189 t193 _ _ t194 t198 t199 t202 _ ?side1 ?side2 ?side3 ?side4 A25.1).mono ?_); (case side1 => refine (R_reads' (e := 3) (base := w.heap.size) (ok := fun k_ => ((((True /\ some k_ ≠ (v176 : Value).ownBlock) /\ some k_ ≠ (v180 : Value).ownBlock) /\ some k_ ≠ (.slice Ao43 t183.length co43 : Value).ownBlock) /\ some k_ ≠ (.slice Ao63 t194.length co63 : Value).ownBlock)) (n := t189.length) (c := co53) ?_).2.2; exact (by (with_reducible repeat (first | apply R_alloc | apply R_drewN | apply R_drew)); exact (R_mono (RQ gb197 1 (RQ gb197 0 (R_types HO191.1 BK197.1 (by decide)) _) _) (fun _ h_ => h_.1)))); (case side2 => exact (R_reads' HO191.1).2.1); (case side3 => refine (R_reads' (e := 3) (base := w.heap.size) (ok := fun k_ => ((((True /\ some k_ ≠ (v176 : Value).ownBlock) /\ some k_ ≠ (v180 : Value).ownBlock) /\ some k_ ≠ (.slice Ao43 t183.length co43 : Value).ownBlock) /\ some k_ ≠ (.slice Ao53 t189.length co53 : Value).ownBlock)) (n := t194.length) (c := co63) ?_).2.2; exact (by (with_reducible repeat (first | apply R_alloc | apply R_drewN | apply R_drew)); exact (R_mono (RQ gb197 1 (RQ gb197 0 (R_types HO196.1 BK197.1 (by decide)) _) _) (fun _ h_ => h_.1)))); (case side4 => exact (R_reads' HO196.1).2.1); rintro e w65 ⟨v200, rfl, ho0, hb⟩; refine ⟨_, rfl, ?_⟩; refine E12 (R_elder' (by (with_reducible repeat (first | apply R_alloc | apply R_drewN | apply R_drew)); exact (R_mono (RQ gb197 1 (RQ gb197 0 (R_types HO177.1 BK197.1 (by decide)) _) _) (fun _ h_ => h_.1))) (R_base ho0) hb) (R_elder' (by (with_reducible repeat (first | apply R_alloc | apply R_drewN | apply R_drew)); exact (R_mono (RQ gb197 1 (RQ gb197 0 (R_types HO181.1 BK197.1 (by decide)) _) _) (fun _ h_ => h_.1))) (R_base ho0) hb) (R_elder' (by (with_reducible repeat (first | apply R_alloc | apply R_drewN | apply R_drew)); exact (R_mono (RQ gb197 1 (RQ gb197 0 (R_types HO185.1 BK197.1 (by decide)) _) _) (fun _ h_ => h_.1))) (R_base ho0) hb) (R_elder' (by (with_reducible repeat (first | apply R_alloc | apply R_drewN | apply R_drew)); exact (R_mono (RQ gb197 1 (RQ gb197 0 (R_types HO191.1 BK197.1 (by decide)) _) _) (fun _ h_ => h_.1))) (R_base ho0) hb) (R_elder' (by (with_reducible repeat (first | apply R_alloc | apply R_drewN | apply R_drew)); exact (R_mono (RQ gb197 1 (RQ gb197 0 (R_types HO196.1 BK197.1 (by decide)) _) _) (fun _ h_ => h_.1))) (R_base ho0) hb) (R_lower (R_new' (R_new' (R_new' (R_new' (R_new' ho0 (R_lt (by (with_reducible repeat (first | apply R_alloc | apply R_drewN | apply R_drew)); exact (R_mono (RQ gb197 1 (RQ gb197 0 (R_types HO177.1 BK197.1 (by decide)) _) _) (fun _ h_ => h_.1))))) (R_lt (by (with_reducible repeat (first | apply R_alloc | apply R_drewN | apply R_drew)); exact (R_mono (RQ gb197 1 (RQ gb197 0 (R_types HO181.1 BK197.1 (by decide)) _) _) (fun _ h_ => h_.1))))) (R_lt (by (with_reducible repeat (first | apply R_alloc | apply R_drewN | apply R_drew)); exact (R_mono (RQ gb197 1 (RQ gb197 0 (R_types HO185.1 BK197.1 (by decide)) _) _) (fun _ h_ => h_.1))))) (R_lt (by (with_reducible repeat (first | apply R_alloc | apply R_drewN | apply R_drew)); exact (R_mono (RQ gb197 1 (RQ gb197 0 (R_types HO191.1 BK197.1 (by decide)) _) _) (fun _ h_ => h_.1))))) (R_lt (by (with_reducible repeat (first | apply R_alloc | apply R_drewN | apply R_drew)); exact (R_mono (RQ gb197 1 (RQ gb197 0 (R_types HO196.1 BK197.1 (by decide)) _) _) (fun _ h_ => h_.1))))) (bZ HB.1)) (blk_below (g := gb170) (o := .cells #[.int .i64 a1_0, .slice A1_1 l1_1.length c1_1] 24 (0, 0)) (PF1 NB170_197.1 BK170.1) hb) (blk_below (g := gb171) (o := .cells #[.int .i64 a2_0, .slice A2_1 l2_1.length c2_1] 24 (0, 0)) (PF1 NB171_197.1 BK171.1) hb) (blk_below (g := gb187) (o := .cells #[.int .i64 t182, .slice Ao43 t183.length co43] 26 (0, 0)) (PF1 NB187_197.1 BK187.1) hb) (blk_below (g := gb192) (o := .cells #[.int .i64 t188, .slice Ao53 t189.length co53] 26 (0, 0)) (PF1 NB192_197.1 BK192.1) hb) (blk_below (g := gb197) (o := .cells #[.int .i64 t193, .slice Ao63 t194.length co63] 26 (0, 0)) (PF0 BK197.1) hb) (bS HB.1 hb) ?_; clear HO177 HO181 HO185 HO191 HO196 BK170 BK171 BK187 BK192 BK197 HB; intro HO177 HO181 HO185 HO191 HO196 HO201 BK170 BK171 BK187 BK192 BK197 HB; (try clear hb); (try clear ho0)) | ((with_reducible refine gate_dst (N := 12) rfl ?_); refine boxE (cs := #[.int .i64 0, .slice none 0 0]) (t := 26) ?_; intro gb203 hg w66 hbox hb; have n0_ := Aside0.mk (rB HO177.1 hb); have n1_ := Aside0.mk (rB HO181.1 hb); have n2_ := Aside0.mk (rB HO185.1 hb); have n3_ := Aside0.mk (rB HO191.1 hb); have n4_ := Aside0.mk (rB HO196.1 hb); have n5_ := Aside0.mk (rB HO201.1 hb); have n6_ := Aside0.mk (bB BK170.1 hb); have n7_ := Aside0.mk (bB BK171.1 hb); have n8_ := Aside0.mk (bB BK187.1 hb); have n9_ := Aside0.mk (bB BK192.1 hb); have n10_ := Aside0.mk (bB BK197.1 hb); have n11_ := Aside0.mk (bS HB.1 hb); have n12_ := Aside0.mk (hbox); have n13_ := Aside0.mk (gX HB.1 hg); have n14_ := Aside0.mk (gX HB.1 hg); have n15_ := Aside0.mk (nB BK170.1 hg); have n16_ := Aside0.mk (nC BK170.1 hg); have n17_ := Aside0.mk (nB BK171.1 hg); have n18_ := Aside0.mk (nC BK171.1 hg); have n19_ := Aside0.mk (nB BK187.1 hg); have n20_ := Aside0.mk (nC BK187.1 hg); have n21_ := Aside0.mk (nB BK192.1 hg); have n22_ := Aside0.mk (nC BK192.1 hg); have n23_ := Aside0.mk (nB BK197.1 hg); have n24_ := Aside0.mk (nC BK197.1 hg); clear HO177; clear HO181; clear HO185; clear HO191; clear HO196; clear HO201; clear BK170; clear BK171; clear BK187; clear BK192; clear BK197; clear HB; have HO177 := n0_; have HO181 := n1_; have HO185 := n2_; have HO191 := n3_; have HO196 := n4_; have HO201 := n5_; have BK170 := n6_; have BK171 := n7_; have BK187 := n8_; have BK192 := n9_; have BK197 := n10_; have HB := n11_; have BK203 := n12_; have GW203 := n13_; have GE203 := n14_; have NB170_203 := n15_; have NB203_170 := n16_; have NB171_203 := n17_; have NB203_171 := n18_; have NB187_203 := n19_; have NB203_187 := n20_; have NB192_203 := n21_; have NB203_192 := n22_; have NB197_203 := n23_; have NB203_197 := n24_; clear n0_ n1_ n2_ n3_ n4_ n5_ n6_ n7_ n8_ n9_ n10_ n11_ n12_ n13_ n14_ n15_ n16_ n17_ n18_ n19_ n20_ n21_ n22_ n23_ n24_; clear hb hbox hg; have hnb67 := NB203_170.1; have hnc67 := NB170_203.1; have hnb68 := NB203_171.1; have hnc68 := NB171_203.1; have hnb69 := NB203_187.1; have hnc69 := NB187_203.1; have hnb70 := NB203_192.1; have hnc70 := NB192_203.1; have hnb71 := NB203_197.1; have hnc71 := NB197_203.1; obtain ⟨hcz72_0, hcz72_1, hfz72_0, hfz72_1⟩ := cz2 BK203.1; obtain ⟨Ao73, co73, eo73⟩ := R_slice HO201.1; subst eo73))
 (try simp only [Act.put, List.setIfInBounds_toArray, List.set_cons_zero, List.set_cons_succ])
 go_cut [57] (fun v57 wc => ∃ (kq : Nat) (x57_25 : Bool), v57 = .bool x57_25 /\ Aside0 (laws_FnExactCombineTables.j0 kq a0 t186 t202 x57_25 a1_0 l1_1 a2_0 l2_1 t182 t183 t188 t189 t193 t194 t198 t199 = some true) /\ Aside0 (kq <= k) /\ Aside0 (Kd.R (Kd.int .i64) 3 wc w.heap.size (fun k_ => some k_ ≠ ((.slice Ao53 t189.length co53) : Value).ownBlock /\ some k_ ≠ ((.slice Ao63 t194.length co63) : Value).ownBlock /\ some k_ ≠ ((.slice Ao73 t199.length co73) : Value).ownBlock) (.slice Ao43 t183.length co43) t183) /\ Aside0 (Kd.R (Kd.int .i64) 3 wc w.heap.size (fun k_ => some k_ ≠ ((.slice Ao43 t183.length co43) : Value).ownBlock /\ some k_ ≠ ((.slice Ao63 t194.length co63) : Value).ownBlock /\ some k_ ≠ ((.slice Ao73 t199.length co73) : Value).ownBlock) (.slice Ao53 t189.length co53) t189) /\ Aside0 (Kd.R (Kd.int .i64) 3 wc w.heap.size (fun k_ => some k_ ≠ ((.slice Ao43 t183.length co43) : Value).ownBlock /\ some k_ ≠ ((.slice Ao53 t189.length co53) : Value).ownBlock /\ some k_ ≠ ((.slice Ao73 t199.length co73) : Value).ownBlock) (.slice Ao63 t194.length co63) t194) /\ Aside0 (Kd.R (Kd.int .i64) 3 wc w.heap.size (fun k_ => some k_ ≠ ((.slice Ao43 t183.length co43) : Value).ownBlock /\ some k_ ≠ ((.slice Ao53 t189.length co53) : Value).ownBlock /\ some k_ ≠ ((.slice Ao63 t194.length co63) : Value).ownBlock) (.slice Ao73 t199.length co73) t199) /\ Aside0 (wc.heap[gb170]? = some (.cells #[.int .i64 a1_0, (.slice A1_1 l1_1.length c1_1)] 24 (0, 0))) /\ Aside0 (wc.heap[gb171]? = some (.cells #[.int .i64 a2_0, (.slice A2_1 l2_1.length c2_1)] 24 (0, 0))) /\ Aside0 (wc.heap[gb187]? = some (.cells #[.int .i64 t182, (.slice Ao43 t183.length co43)] 26 (0, 0))) /\ Aside0 (wc.heap[gb192]? = some (.cells #[.int .i64 t188, (.slice Ao53 t189.length co53)] 26 (0, 0))) /\ Aside0 (wc.heap[gb197]? = some (.cells #[.int .i64 t193, (.slice Ao63 t194.length co63)] 26 (0, 0))) /\ Aside0 (wc.heap[gb203]? = some (.cells #[.int .i64 t198, (.slice Ao73 t199.length co73)] 26 (0, 0))) /\ Aside0 (Below w.heap.size w wc))
 case first =>
  have H := HC26.1
  clear HC26
  replace H := bindA H; obtain ⟨t204, A74, H⟩ := H
  replace H := ifT H (by cases k <;> simp [laws_FnExactCombineTables.j0]); obtain ⟨rfl, H⟩ := H
  have H' := Aside0.mk H
  clear H
  obtain ⟨hcz81_0, hcz81_1, hfz81_0, hfz81_1⟩ := cz2 BK203.1
  obtain ⟨hcz86_0, hcz86_1, hfz86_0, hfz86_1⟩ := cz2 BK187.1
  go_wp2_with (first | ((with_reducible refine gate_callee (f := 8) rfl ?_); refine goesM (N := (some 51)) #[.agg #[.int .i64 t198, .slice Ao73 t199.length co73], .agg #[.int .i64 t182, .slice Ao43 t183.length co43]] Try.func8 ?_; (with_reducible refine (laws_eqTable.calls k t198 _ _ t199 t182 _ _ t183 true _ ?side1 ?side2 ?side3 ?side4 A74.1).mono ?_); (case side1 => refine (R_reads' (e := 3) (base := w.heap.size) (ok := fun k_ => (((((True /\ some k_ ≠ (v176 : Value).ownBlock) /\ some k_ ≠ (v180 : Value).ownBlock) /\ some k_ ≠ (.slice Ao43 t183.length co43 : Value).ownBlock) /\ some k_ ≠ (.slice Ao53 t189.length co53 : Value).ownBlock) /\ some k_ ≠ (.slice Ao63 t194.length co63 : Value).ownBlock)) (n := t199.length) (c := co73) ?_).2.2; exact (by (with_reducible repeat (first | apply R_alloc | apply R_drewN | apply R_drew)); exact (R_mono (RQ gb203 1 (RQ gb203 0 (R_types HO201.1 BK203.1 (by decide)) _) _) (fun _ h_ => h_.1)))); (case side2 => exact (R_reads' HO201.1).2.1); (case side3 => refine (R_reads' (e := 3) (base := w.heap.size) (ok := fun k_ => ((((some k_ ≠ (v176 : Value).ownBlock /\ some k_ ≠ (v180 : Value).ownBlock) /\ some k_ ≠ (.slice Ao53 t189.length co53 : Value).ownBlock) /\ some k_ ≠ (.slice Ao63 t194.length co63 : Value).ownBlock) /\ some k_ ≠ (.slice Ao73 t199.length co73 : Value).ownBlock)) (n := t183.length) (c := co43) ?_).2.2; exact (by (with_reducible repeat (first | apply R_alloc | apply R_drewN | apply R_drew)); exact (R_mono (RQ gb203 1 (RQ gb203 0 (R_types HO185.1 BK203.1 (by decide)) _) _) (fun _ h_ => h_.1)))); (case side4 => exact (R_reads' HO185.1).2.1); rintro e w87 ⟨rfl, hb⟩; refine ⟨_, rfl, ?_⟩; refine E13 (R_below (by (with_reducible repeat (first | apply R_alloc | apply R_drewN | apply R_drew)); exact (R_mono (RQ gb203 1 (RQ gb203 0 (R_types HO177.1 BK203.1 (by decide)) _) _) (fun _ h_ => h_.1))) hb) (R_below (by (with_reducible repeat (first | apply R_alloc | apply R_drewN | apply R_drew)); exact (R_mono (RQ gb203 1 (RQ gb203 0 (R_types HO181.1 BK203.1 (by decide)) _) _) (fun _ h_ => h_.1))) hb) (R_below (by (with_reducible repeat (first | apply R_alloc | apply R_drewN | apply R_drew)); exact (R_mono (RQ gb203 1 (RQ gb203 0 (R_types HO185.1 BK203.1 (by decide)) _) _) (fun _ h_ => h_.1))) hb) (R_below (by (with_reducible repeat (first | apply R_alloc | apply R_drewN | apply R_drew)); exact (R_mono (RQ gb203 1 (RQ gb203 0 (R_types HO191.1 BK203.1 (by decide)) _) _) (fun _ h_ => h_.1))) hb) (R_below (by (with_reducible repeat (first | apply R_alloc | apply R_drewN | apply R_drew)); exact (R_mono (RQ gb203 1 (RQ gb203 0 (R_types HO196.1 BK203.1 (by decide)) _) _) (fun _ h_ => h_.1))) hb) (R_below (by (with_reducible repeat (first | apply R_alloc | apply R_drewN | apply R_drew)); exact (R_mono (RQ gb203 1 (RQ gb203 0 (R_types HO201.1 BK203.1 (by decide)) _) _) (fun _ h_ => h_.1))) hb) (blk_below (g := gb170) (o := .cells #[.int .i64 a1_0, .slice A1_1 l1_1.length c1_1] 24 (0, 0)) (PF1 NB170_203.1 BK170.1) hb) (blk_below (g := gb171) (o := .cells #[.int .i64 a2_0, .slice A2_1 l2_1.length c2_1] 24 (0, 0)) (PF1 NB171_203.1 BK171.1) hb) (blk_below (g := gb187) (o := .cells #[.int .i64 t182, .slice Ao43 t183.length co43] 26 (0, 0)) (PF1 NB187_203.1 BK187.1) hb) (blk_below (g := gb192) (o := .cells #[.int .i64 t188, .slice Ao53 t189.length co53] 26 (0, 0)) (PF1 NB192_203.1 BK192.1) hb) (blk_below (g := gb197) (o := .cells #[.int .i64 t193, .slice Ao63 t194.length co63] 26 (0, 0)) (PF1 NB197_203.1 BK197.1) hb) (blk_below (g := gb203) (o := .cells #[.int .i64 t198, .slice Ao73 t199.length co73] 26 (0, 0)) (PF0 BK203.1) hb) (bS HB.1 hb) ?_; clear HO177 HO181 HO185 HO191 HO196 HO201 BK170 BK171 BK187 BK192 BK197 BK203 HB; intro HO177 HO181 HO185 HO191 HO196 HO201 BK170 BK171 BK187 BK192 BK197 BK203 HB; (try clear hb)))
  go_meet
  case rel => exact ⟨_, ((t202 != t186)), RG, H', ⟨by first | omega | exact Nat.le_refl _⟩, ⟨RPE (R_mono HO185.1 (fun _ hk => ⟨hk.1.1.2, ⟨hk.1.2, hk.2⟩⟩))⟩, ⟨RPE (R_mono HO191.1 (fun _ hk => ⟨hk.1.1.2, ⟨hk.1.2, hk.2⟩⟩))⟩, ⟨RPE (R_mono HO196.1 (fun _ hk => ⟨hk.1.1.2, ⟨hk.1.2, hk.2⟩⟩))⟩, ⟨RPE (R_mono HO201.1 (fun _ hk => ⟨hk.1.1.2, ⟨hk.1.2, hk.2⟩⟩))⟩, ⟨PB BK170.1⟩, ⟨PB BK171.1⟩, ⟨PB BK187.1⟩, ⟨PB BK192.1⟩, ⟨PB BK197.1⟩, ⟨PB BK203.1⟩, ⟨BL HB.1⟩⟩
 clear HC26
 clear hcz46_0 hcz46_1 hcz52_0 hcz52_1 hcz55_0 hcz55_1 hcz62_0 hcz62_1 hcz64_0 hcz64_1 hcz72_0 hcz72_1 hfz46_0 hfz46_1 hfz52_0 hfz52_1 hfz55_0 hfz55_1 hfz62_0 hfz62_1 hfz64_0 hfz64_1 hfz72_0 hfz72_1
 obtain ⟨kq, x57_25, rfl, HA, HJ25, HO_188001, HO_193001, HO_198001, HO_204001, BK170, BK171, BK187, BK192, BK197, BK203, HB⟩ := hcut
 cases kq with
 | zero => exact absurd HA.1 (by simp [laws_FnExactCombineTables.j0])
 | succ kj25 => ?_
 have H := HA.1
 clear HA
 simp only [laws_FnExactCombineTables.j0] at H
 replace H := ifF H (by simp); obtain ⟨rfl, H⟩ := H
 replace H := bindA H; obtain ⟨⟨t205, t206⟩, A101, H⟩ := H
 dsimp only at H
 replace H := bindA H; obtain ⟨t209, A102, H⟩ := H
 replace H := ifT H (by simp); obtain ⟨rfl, H⟩ := H
 replace H := bindA H; obtain ⟨⟨t210, t211⟩, A104, H⟩ := H
 dsimp only at H
 replace H := bindA H; obtain ⟨t214, A105, H⟩ := H
 replace H := ifT H (by simp); obtain ⟨rfl, H⟩ := H
 replace H := bindA H; obtain ⟨⟨t215, t216⟩, A107, H⟩ := H
 dsimp only at H
 replace H := bindA H; obtain ⟨⟨t217, t218⟩, A108, H⟩ := H
 dsimp only at H
 have HC109 := Aside0.mk H
 clear H
 try go_wp2
 refine E11 (R_drew HO_188001.1) (R_drew HO_193001.1) (R_drew HO_198001.1) (R_drew HO_204001.1) (blk_drew BK170.1) (blk_drew BK171.1) (blk_drew BK187.1) (blk_drew BK192.1) (blk_drew BK197.1) (blk_drew BK203.1) (below_drew1 HB.1) ?_
 clear HO_188001 HO_193001 HO_198001 HO_204001 BK170 BK171 BK187 BK192 BK197 BK203 HB
 intro HO_188001 HO_193001 HO_198001 HO_204001 BK170 BK171 BK187 BK192 BK197 BK203 HB
 refine start_ (n := 5) (S := fun w' => w'.cell? ⟨gb192, 0, none⟩ = some (.int .i64 t188) /\ w'.cell? ⟨gb192, 1, none⟩ = some (.slice Ao53 t189.length co53) /\ w'.cell? ⟨gb170, 0, none⟩ = some (.int .i64 a1_0) /\ w'.cell? ⟨gb170, 1, none⟩ = some (.slice A1_1 l1_1.length c1_1)) (ds := []) #[Zz,Zz,Zz,Zz,Zz] (by kernel_rfl) rfl rfl ⟨(blk_cell BK192.1 0).trans rfl, (blk_cell BK192.1 1).trans rfl, (blk_cell BK170.1 0).trans rfl, (blk_cell BK170.1 1).trans rfl⟩ (fun hHeld => ?_)
 generalize wc.drew = w110 at HO_188001 HO_193001 HO_198001 HO_204001 BK170 BK171 BK187 BK192 BK197 BK203 HB hHeld ⊢
 refine takeF 0 (N := some 58) hHeld ?_
 refine takeF 1 (N := some 59) hHeld ?_
 refine one_ (i := 2) (N := some 60) #[Yy,Yy,Yy,Zz,Zz] rfl rfl (by kernel_rfl) (by decide) (fun K hK => ?_)
 refine goes_ Try.func6 (by kernel_rfl) rfl #[.agg #[.int .i64 a1_0, .slice A1_1 l1_1.length c1_1]] (by rfl) rfl rfl (by (try simp only [List.map_toArray, List.map_cons, List.map_nil]); first | done | rfl | (simp only [List.length_drop, List.length_take]; rfl)) ?_
 with_reducible refine (laws_toTable.calls kj25 a1_0 _ _ l1_1 t205 t206 _ ?side1 ?side2 A101.1).mono ?_
 (case side1 => exact CB (C_below HR1_1.1 HB.1))
 (case side2 => exact HC1_1.1)
 rintro e w111 ⟨v207, rfl, ho0, hb⟩
 refine ⟨_, rfl, ?_⟩
 refine E12 (R_elder' (PR HO_188001.1) (R_base ho0) hb) (R_elder' (PR HO_193001.1) (R_base ho0) hb) (R_elder' (PR HO_198001.1) (R_base ho0) hb) (R_elder' (PR HO_204001.1) (R_base ho0) hb) (R_lower (R_new' (R_new' (R_new' (R_new' ho0 (R_lt (PR HO_188001.1))) (R_lt (PR HO_193001.1))) (R_lt (PR HO_198001.1))) (R_lt (PR HO_204001.1))) (bZ HB.1)) (bB BK170.1 hb) (bB BK171.1 hb) (bB BK187.1 hb) (bB BK192.1 hb) (bB BK197.1 hb) (bB BK203.1 hb) (bS HB.1 hb) ?_
 clear HO_188001 HO_193001 HO_198001 HO_204001 BK170 BK171 BK187 BK192 BK197 BK203 HB
 intro HO_188001 HO_193001 HO_198001 HO_204001 HO208 BK170 BK171 BK187 BK192 BK197 BK203 HB
 (try clear hb)
 (try clear hb2)
 (try clear hk)
 (try clear hi)
 (try clear ho0)
 obtain ⟨Ao112, co112, eo112⟩ := R_slice HO208.1
 (first | subst eo112 | (injection eo112 with f1_ f2_ f3_; have f4_ := f1_.symm; have f5_ := f3_.symm; clear f1_ f2_ f3_; subst f4_; subst f5_))
 refine hK.out _ _ ⟨(blk_cell BK192.1 0).trans rfl, (blk_cell BK192.1 1).trans rfl, (blk_cell BK170.1 0).trans rfl, (blk_cell BK170.1 1).trans rfl⟩ (fun hHeld => ?_)
 clear hK K
 refine norm_ (a' := ?_) ?_ ?_
 rotate_left
 · show Act.put _ (some 60) _ = _
   simp only [Act.put, List.setIfInBounds_toArray, List.set_cons_zero, List.set_cons_succ, i64_w, i32_w]
   rfl
 refine one_ (i := 3) (N := some 61) #[Yy,Yy,Yy,Yy,Zz] rfl rfl (by kernel_rfl) (by decide) (fun K hK => ?_)
 refine goes_ Try.func8 (by kernel_rfl) rfl #[.agg #[.int .i64 t188, .slice Ao53 t189.length co53], .agg #[.int .i64 t205, .slice Ao112 t206.length co112]] (by rfl) rfl rfl (by (try simp only [List.map_toArray, List.map_cons, List.map_nil]); first | done | rfl | (simp only [List.length_drop, List.length_take]; rfl)) ?_
 with_reducible refine (laws_eqTable.calls kj25 t188 _ _ t189 t205 _ _ t206 true _ ?side1 ?side2 ?side3 ?side4 A102.1).mono ?_
 (case side1 => exact CB (R_reads' HO_193001.1).2.2)
 (case side2 => exact (R_reads' HO_193001.1).2.1)
 (case side3 => exact CB (R_reads' HO208.1).2.2)
 (case side4 => exact (R_reads' HO208.1).2.1)
 rintro e w113 ⟨rfl, hb⟩
 refine ⟨_, rfl, ?_⟩
 refine E12 (rB HO_188001.1 hb) (rB HO_193001.1 hb) (rB HO_198001.1 hb) (rB HO_204001.1 hb) (rB HO208.1 hb) (bB BK170.1 hb) (bB BK171.1 hb) (bB BK187.1 hb) (bB BK192.1 hb) (bB BK197.1 hb) (bB BK203.1 hb) (bS HB.1 hb) ?_
 clear HO_188001 HO_193001 HO_198001 HO_204001 HO208 BK170 BK171 BK187 BK192 BK197 BK203 HB
 intro HO_188001 HO_193001 HO_198001 HO_204001 HO208 BK170 BK171 BK187 BK192 BK197 BK203 HB
 (try clear hb)
 (try clear hb2)
 (try clear hk)
 (try clear hi)
 refine hK.out _ _ ⟨(blk_cell BK192.1 0).trans rfl, (blk_cell BK192.1 1).trans rfl, (blk_cell BK170.1 0).trans rfl, (blk_cell BK170.1 1).trans rfl⟩ (fun hHeld => ?_)
 clear hK K
 refine norm_ (a' := ?_) ?_ ?_
 rotate_left
 · show Act.put _ (some 61) _ = _
   simp only [Act.put, List.setIfInBounds_toArray, List.set_cons_zero, List.set_cons_succ, i64_w, i32_w]
   rfl
 refine pure_ (i := 4) (N := some 62) (v := ?_) (a' := ?_) #[Yy,Yy,Yy,Yy,Yy] rfl rfl (by kernel_rfl) (fun _ _ _ h => h) (Or.inl ⟨by rfl, ?_⟩) ?_ ?_
 rotate_left
 · intro w'
   go_simp
   with_reducible rfl
 rotate_left
 · simp only [Act.put, List.setIfInBounds_toArray, List.set_cons_zero, List.set_cons_succ, i64_w, i32_w]
   rfl
 refine done_ (by kernel_rfl) ?_
 try go_wp2
 refine E12 (R_drew HO_188001.1) (R_drew HO_193001.1) (R_drew HO_198001.1) (R_drew HO_204001.1) (R_drew HO208.1) (blk_drew BK170.1) (blk_drew BK171.1) (blk_drew BK187.1) (blk_drew BK192.1) (blk_drew BK197.1) (blk_drew BK203.1) (below_drew1 HB.1) ?_
 clear HO_188001 HO_193001 HO_198001 HO_204001 HO208 BK170 BK171 BK187 BK192 BK197 BK203 HB
 intro HO_188001 HO_193001 HO_198001 HO_204001 HO208 BK170 BK171 BK187 BK192 BK197 BK203 HB
 refine start_ (n := 5) (S := fun w' => w'.cell? ⟨gb197, 0, none⟩ = some (.int .i64 t193) /\ w'.cell? ⟨gb197, 1, none⟩ = some (.slice Ao63 t194.length co63) /\ w'.cell? ⟨gb171, 0, none⟩ = some (.int .i64 a2_0) /\ w'.cell? ⟨gb171, 1, none⟩ = some (.slice A2_1 l2_1.length c2_1)) (ds := []) #[Zz,Zz,Zz,Zz,Zz] (by kernel_rfl) rfl rfl ⟨(blk_cell BK197.1 0).trans rfl, (blk_cell BK197.1 1).trans rfl, (blk_cell BK171.1 0).trans rfl, (blk_cell BK171.1 1).trans rfl⟩ (fun hHeld => ?_)
 generalize w113.drew = w114 at HO_188001 HO_193001 HO_198001 HO_204001 HO208 BK170 BK171 BK187 BK192 BK197 BK203 HB hHeld ⊢
 refine takeF 0 (N := some 63) hHeld ?_
 refine takeF 1 (N := some 64) hHeld ?_
 refine one_ (i := 2) (N := some 65) #[Yy,Yy,Yy,Zz,Zz] rfl rfl (by kernel_rfl) (by decide) (fun K hK => ?_)
 refine goes_ Try.func6 (by kernel_rfl) rfl #[.agg #[.int .i64 a2_0, .slice A2_1 l2_1.length c2_1]] (by rfl) rfl rfl (by (try simp only [List.map_toArray, List.map_cons, List.map_nil]); first | done | rfl | (simp only [List.length_drop, List.length_take]; rfl)) ?_
 with_reducible refine (laws_toTable.calls kj25 a2_0 _ _ l2_1 t210 t211 _ ?side1 ?side2 A104.1).mono ?_
 (case side1 => exact CB (C_below HR2_1.1 HB.1))
 (case side2 => exact HC2_1.1)
 rintro e w115 ⟨v212, rfl, ho0, hb⟩
 refine ⟨_, rfl, ?_⟩
 refine E13 (R_elder' (PR HO_188001.1) (R_base ho0) hb) (R_elder' (PR HO_193001.1) (R_base ho0) hb) (R_elder' (PR HO_198001.1) (R_base ho0) hb) (R_elder' (PR HO_204001.1) (R_base ho0) hb) (R_elder' (PR HO208.1) (R_base ho0) hb) (R_lower (R_new' (R_new' (R_new' (R_new' (R_new' ho0 (R_lt (PR HO_188001.1))) (R_lt (PR HO_193001.1))) (R_lt (PR HO_198001.1))) (R_lt (PR HO_204001.1))) (R_lt (PR HO208.1))) (bZ HB.1)) (bB BK170.1 hb) (bB BK171.1 hb) (bB BK187.1 hb) (bB BK192.1 hb) (bB BK197.1 hb) (bB BK203.1 hb) (bS HB.1 hb) ?_
 clear HO_188001 HO_193001 HO_198001 HO_204001 HO208 BK170 BK171 BK187 BK192 BK197 BK203 HB
 intro HO_188001 HO_193001 HO_198001 HO_204001 HO208 HO213 BK170 BK171 BK187 BK192 BK197 BK203 HB
 (try clear hb)
 (try clear hb2)
 (try clear hk)
 (try clear hi)
 (try clear ho0)
 obtain ⟨Ao116, co116, eo116⟩ := R_slice HO213.1
 (first | subst eo116 | (injection eo116 with f1_ f2_ f3_; have f4_ := f1_.symm; have f5_ := f3_.symm; clear f1_ f2_ f3_; subst f4_; subst f5_))
 refine hK.out _ _ ⟨(blk_cell BK197.1 0).trans rfl, (blk_cell BK197.1 1).trans rfl, (blk_cell BK171.1 0).trans rfl, (blk_cell BK171.1 1).trans rfl⟩ (fun hHeld => ?_)
 clear hK K
 refine norm_ (a' := ?_) ?_ ?_
 rotate_left
 · show Act.put _ (some 65) _ = _
   simp only [Act.put, List.setIfInBounds_toArray, List.set_cons_zero, List.set_cons_succ, i64_w, i32_w]
   rfl
 refine one_ (i := 3) (N := some 66) #[Yy,Yy,Yy,Yy,Zz] rfl rfl (by kernel_rfl) (by decide) (fun K hK => ?_)
 refine goes_ Try.func8 (by kernel_rfl) rfl #[.agg #[.int .i64 t193, .slice Ao63 t194.length co63], .agg #[.int .i64 t210, .slice Ao116 t211.length co116]] (by rfl) rfl rfl (by (try simp only [List.map_toArray, List.map_cons, List.map_nil]); first | done | rfl | (simp only [List.length_drop, List.length_take]; rfl)) ?_
 with_reducible refine (laws_eqTable.calls kj25 t193 _ _ t194 t210 _ _ t211 true _ ?side1 ?side2 ?side3 ?side4 A105.1).mono ?_
 (case side1 => exact CB (R_reads' HO_198001.1).2.2)
 (case side2 => exact (R_reads' HO_198001.1).2.1)
 (case side3 => exact CB (R_reads' HO213.1).2.2)
 (case side4 => exact (R_reads' HO213.1).2.1)
 rintro e w117 ⟨rfl, hb⟩
 refine ⟨_, rfl, ?_⟩
 refine E13 (rB HO_188001.1 hb) (rB HO_193001.1 hb) (rB HO_198001.1 hb) (rB HO_204001.1 hb) (rB HO208.1 hb) (rB HO213.1 hb) (bB BK170.1 hb) (bB BK171.1 hb) (bB BK187.1 hb) (bB BK192.1 hb) (bB BK197.1 hb) (bB BK203.1 hb) (bS HB.1 hb) ?_
 clear HO_188001 HO_193001 HO_198001 HO_204001 HO208 HO213 BK170 BK171 BK187 BK192 BK197 BK203 HB
 intro HO_188001 HO_193001 HO_198001 HO_204001 HO208 HO213 BK170 BK171 BK187 BK192 BK197 BK203 HB
 (try clear hb)
 (try clear hb2)
 (try clear hk)
 (try clear hi)
 refine hK.out _ _ ⟨(blk_cell BK197.1 0).trans rfl, (blk_cell BK197.1 1).trans rfl, (blk_cell BK171.1 0).trans rfl, (blk_cell BK171.1 1).trans rfl⟩ (fun hHeld => ?_)
 clear hK K
 refine norm_ (a' := ?_) ?_ ?_
 rotate_left
 · show Act.put _ (some 66) _ = _
   simp only [Act.put, List.setIfInBounds_toArray, List.set_cons_zero, List.set_cons_succ, i64_w, i32_w]
   rfl
 refine pure_ (i := 4) (N := some 67) (v := ?_) (a' := ?_) #[Yy,Yy,Yy,Yy,Yy] rfl rfl (by kernel_rfl) (fun _ _ _ h => h) (Or.inl ⟨by rfl, ?_⟩) ?_ ?_
 rotate_left
 · intro w'
   go_simp
   with_reducible rfl
 rotate_left
 · simp only [Act.put, List.setIfInBounds_toArray, List.set_cons_zero, List.set_cons_succ, i64_w, i32_w]
   rfl
 refine done_ (by kernel_rfl) ?_
 obtain ⟨hcz123_0, hcz123_1, hfz123_0, hfz123_1⟩ := cz2 BK192.1
 go_upto_region 21 with (first | ((with_reducible refine gate_callee (f := 9) rfl ?_); refine goesM (N := (some 70)) #[.agg #[.int .i64 t188, .slice Ao53 t189.length co53], .int .i64 1] Try.func9 ?_; (with_reducible refine (laws_markTable.calls kj25 t188 (fun k_ => some k_ = (.slice Ao53 t189.length co53 : Value).ownBlock) (.slice Ao53 t189.length co53) t189 1 t215 t216 w _ ?side1 ?side2 A107.1).mono ?_); (case side1 => exact BL HB.1); (case side2 => exact R_tight rfl HO_193001.1); rintro e w124 ⟨rfl, hy0, hb, hkp⟩; refine ⟨_, rfl, ?_⟩; refine E13 (R_mono (ok' := fun k_ => some k_ ≠ (.slice Ao53 t189.length co53 : Value).ownBlock /\ some k_ ≠ (.slice Ao63 t194.length co63 : Value).ownBlock /\ some k_ ≠ (.slice Ao73 t199.length co73 : Value).ownBlock /\ some k_ ≠ (.slice Ao112 t206.length co112 : Value).ownBlock /\ some k_ ≠ (.slice Ao116 t211.length co116 : Value).ownBlock) (R_keptB (HO_188001.1) hkp (fun k_ hk_ hs_ => (hk_.1.1.1) hs_)) (fun k_ hk_ => ⟨hk_.1.1.1.1, hk_.1.1.1.2.1, hk_.1.1.1.2.2, hk_.1.1.2, hk_.1.2⟩)) (R_reok rfl hy0 (fun k_ e_ => HO_193001.1.1 k_ e_)) (R_mono (ok' := fun k_ => some k_ ≠ (.slice Ao43 t183.length co43 : Value).ownBlock /\ some k_ ≠ (.slice Ao53 t189.length co53 : Value).ownBlock /\ some k_ ≠ (.slice Ao73 t199.length co73 : Value).ownBlock /\ some k_ ≠ (.slice Ao112 t206.length co112 : Value).ownBlock /\ some k_ ≠ (.slice Ao116 t211.length co116 : Value).ownBlock) (R_keptB (HO_198001.1) hkp (fun k_ hk_ hs_ => (hk_.1.1.2.1) hs_)) (fun k_ hk_ => ⟨hk_.1.1.1.1, hk_.1.1.1.2.1, hk_.1.1.1.2.2, hk_.1.1.2, hk_.1.2⟩)) (R_mono (ok' := fun k_ => some k_ ≠ (.slice Ao43 t183.length co43 : Value).ownBlock /\ some k_ ≠ (.slice Ao53 t189.length co53 : Value).ownBlock /\ some k_ ≠ (.slice Ao63 t194.length co63 : Value).ownBlock /\ some k_ ≠ (.slice Ao112 t206.length co112 : Value).ownBlock /\ some k_ ≠ (.slice Ao116 t211.length co116 : Value).ownBlock) (R_keptB (HO_204001.1) hkp (fun k_ hk_ hs_ => (hk_.1.1.2.1) hs_)) (fun k_ hk_ => ⟨hk_.1.1.1.1, hk_.1.1.1.2.1, hk_.1.1.1.2.2, hk_.1.1.2, hk_.1.2⟩)) (blk_kept (PB BK170.1) hkp (fun hs_ => (fun e_ => (R_ne HO_193001.1 BK170.1 (by decide)) e_) hs_)) (blk_kept (PB BK171.1) hkp (fun hs_ => (fun e_ => (R_ne HO_193001.1 BK171.1 (by decide)) e_) hs_)) (blk_kept (PB BK187.1) hkp (fun hs_ => (fun e_ => (R_ne HO_193001.1 BK187.1 (by decide)) e_) hs_)) (blk_kept (PB BK192.1) hkp (fun hs_ => (fun e_ => (R_ne HO_193001.1 BK192.1 (by decide)) e_) hs_)) (blk_kept (PB BK197.1) hkp (fun hs_ => (fun e_ => (R_ne HO_193001.1 BK197.1 (by decide)) e_) hs_)) (blk_kept (PB BK203.1) hkp (fun hs_ => (fun e_ => (R_ne HO_193001.1 BK203.1 (by decide)) e_) hs_)) (R_mono (ok' := fun k_ => some k_ ≠ (.slice Ao43 t183.length co43 : Value).ownBlock /\ some k_ ≠ (.slice Ao53 t189.length co53 : Value).ownBlock /\ some k_ ≠ (.slice Ao63 t194.length co63 : Value).ownBlock /\ some k_ ≠ (.slice Ao73 t199.length co73 : Value).ownBlock /\ some k_ ≠ (.slice Ao116 t211.length co116 : Value).ownBlock) (R_keptB (HO208.1) hkp (fun k_ hk_ hs_ => (hk_.1.1.1.2) hs_)) (fun k_ hk_ => ⟨hk_.1.1.1.1.1.2, hk_.1.1.1.1.2, hk_.1.1.1.2, hk_.1.1.2, hk_.1.2⟩)) (R_mono (ok' := fun k_ => some k_ ≠ (.slice Ao43 t183.length co43 : Value).ownBlock /\ some k_ ≠ (.slice Ao53 t189.length co53 : Value).ownBlock /\ some k_ ≠ (.slice Ao63 t194.length co63 : Value).ownBlock /\ some k_ ≠ (.slice Ao73 t199.length co73 : Value).ownBlock /\ some k_ ≠ (.slice Ao112 t206.length co112 : Value).ownBlock) (R_keptB (HO213.1) hkp (fun k_ hk_ hs_ => (hk_.1.1.1.2) hs_)) (fun k_ hk_ => ⟨hk_.1.1.1.1.1.2, hk_.1.1.1.1.2, hk_.1.1.1.2, hk_.1.1.2, hk_.1.2⟩)) (hb) ?_; clear HO_188001 HO_193001 HO_198001 HO_204001 BK170 BK171 BK187 BK192 BK197 BK203 HO208 HO213 HB; intro HO_188001 HO_193001 HO_198001 HO_204001 BK170 BK171 BK187 BK192 BK197 BK203 HO208 HO213 HB; (try clear hb); (try clear hkp); (try clear hy0); have hnb125 := NB197_170.1; have hnc125 := NB170_197.1; have hnb126 := NB197_171.1; have hnc126 := NB171_197.1; have hnb127 := NB197_187.1; have hnc127 := NB187_197.1; have hnb128 := NB197_203.1; have hnc128 := NB203_197.1; obtain ⟨hcz129_0, hcz129_1, hfz129_0, hfz129_1⟩ := cz2 BK197.1) | ((with_reducible refine gate_callee (f := 9) rfl ?_); refine goesM (N := (some 73)) #[.agg #[.int .i64 t193, .slice Ao63 t194.length co63], .int .i64 t215] Try.func9 ?_; (with_reducible refine (laws_markTable.calls kj25 t193 (fun k_ => some k_ = (.slice Ao63 t194.length co63 : Value).ownBlock) (.slice Ao63 t194.length co63) t194 t215 t217 t218 w _ ?side1 ?side2 A108.1).mono ?_); (case side1 => exact BL HB.1); (case side2 => exact R_tight rfl HO_198001.1); rintro e w130 ⟨rfl, hy0, hb, hkp⟩; refine ⟨_, rfl, ?_⟩; refine E13 (R_mono (ok' := fun k_ => some k_ ≠ (.slice Ao53 t189.length co53 : Value).ownBlock /\ some k_ ≠ (.slice Ao63 t194.length co63 : Value).ownBlock /\ some k_ ≠ (.slice Ao73 t199.length co73 : Value).ownBlock /\ some k_ ≠ (.slice Ao112 t206.length co112 : Value).ownBlock /\ some k_ ≠ (.slice Ao116 t211.length co116 : Value).ownBlock) (R_keptB (HO_188001.1) hkp (fun k_ hk_ hs_ => (hk_.2.1) hs_)) (fun k_ hk_ => ⟨hk_.1.1, hk_.1.2.1, hk_.1.2.2.1, hk_.1.2.2.2.1, hk_.1.2.2.2.2⟩)) (R_mono (ok' := fun k_ => some k_ ≠ (.slice Ao43 t183.length co43 : Value).ownBlock /\ some k_ ≠ (.slice Ao63 t194.length co63 : Value).ownBlock /\ some k_ ≠ (.slice Ao73 t199.length co73 : Value).ownBlock /\ some k_ ≠ (.slice Ao112 t206.length co112 : Value).ownBlock /\ some k_ ≠ (.slice Ao116 t211.length co116 : Value).ownBlock) (R_keptB (HO_193001.1) hkp (fun k_ hk_ hs_ => (hk_.1.1.2.1) hs_)) (fun k_ hk_ => ⟨hk_.1.1.1.1, hk_.1.1.1.2.1, hk_.1.1.1.2.2, hk_.1.1.2, hk_.1.2⟩)) (R_reok rfl hy0 (fun k_ e_ => HO_198001.1.1 k_ e_)) (R_mono (ok' := fun k_ => some k_ ≠ (.slice Ao43 t183.length co43 : Value).ownBlock /\ some k_ ≠ (.slice Ao53 t189.length co53 : Value).ownBlock /\ some k_ ≠ (.slice Ao63 t194.length co63 : Value).ownBlock /\ some k_ ≠ (.slice Ao112 t206.length co112 : Value).ownBlock /\ some k_ ≠ (.slice Ao116 t211.length co116 : Value).ownBlock) (R_keptB (HO_204001.1) hkp (fun k_ hk_ hs_ => (hk_.2.2.1) hs_)) (fun k_ hk_ => ⟨hk_.1.1, hk_.1.2.1, hk_.1.2.2.1, hk_.1.2.2.2.1, hk_.1.2.2.2.2⟩)) (blk_kept (PB BK170.1) hkp (fun hs_ => (fun e_ => (R_ne HO_198001.1 BK170.1 (by decide)) e_) hs_)) (blk_kept (PB BK171.1) hkp (fun hs_ => (fun e_ => (R_ne HO_198001.1 BK171.1 (by decide)) e_) hs_)) (blk_kept (PB BK187.1) hkp (fun hs_ => (fun e_ => (R_ne HO_198001.1 BK187.1 (by decide)) e_) hs_)) (blk_kept (PB BK192.1) hkp (fun hs_ => (fun e_ => (R_ne HO_198001.1 BK192.1 (by decide)) e_) hs_)) (blk_kept (PB BK197.1) hkp (fun hs_ => (fun e_ => (R_ne HO_198001.1 BK197.1 (by decide)) e_) hs_)) (blk_kept (PB BK203.1) hkp (fun hs_ => (fun e_ => (R_ne HO_198001.1 BK203.1 (by decide)) e_) hs_)) (R_mono (ok' := fun k_ => some k_ ≠ (.slice Ao43 t183.length co43 : Value).ownBlock /\ some k_ ≠ (.slice Ao53 t189.length co53 : Value).ownBlock /\ some k_ ≠ (.slice Ao63 t194.length co63 : Value).ownBlock /\ some k_ ≠ (.slice Ao73 t199.length co73 : Value).ownBlock /\ some k_ ≠ (.slice Ao116 t211.length co116 : Value).ownBlock) (R_keptB (HO208.1) hkp (fun k_ hk_ hs_ => (hk_.2.2.1) hs_)) (fun k_ hk_ => ⟨hk_.1.1, hk_.1.2.1, hk_.1.2.2.1, hk_.1.2.2.2.1, hk_.1.2.2.2.2⟩)) (R_mono (ok' := fun k_ => some k_ ≠ (.slice Ao43 t183.length co43 : Value).ownBlock /\ some k_ ≠ (.slice Ao53 t189.length co53 : Value).ownBlock /\ some k_ ≠ (.slice Ao63 t194.length co63 : Value).ownBlock /\ some k_ ≠ (.slice Ao73 t199.length co73 : Value).ownBlock /\ some k_ ≠ (.slice Ao112 t206.length co112 : Value).ownBlock) (R_keptB (HO213.1) hkp (fun k_ hk_ hs_ => (hk_.2.2.1) hs_)) (fun k_ hk_ => ⟨hk_.1.1, hk_.1.2.1, hk_.1.2.2.1, hk_.1.2.2.2.1, hk_.1.2.2.2.2⟩)) (hb) ?_; clear HO_188001 HO_193001 HO_198001 HO_204001 BK170 BK171 BK187 BK192 BK197 BK203 HO208 HO213 HB; intro HO_188001 HO_193001 HO_198001 HO_204001 BK170 BK171 BK187 BK192 BK197 BK203 HO208 HO213 HB; (try clear hb); (try clear hkp); (try clear hy0)))
 (try simp only [Act.put, List.setIfInBounds_toArray, List.set_cons_zero, List.set_cons_succ])
 go_cut [86] (fun v86 wc => ∃ (kq : Nat) (x86_108 : Bool), v86 = .bool x86_108 /\ Aside0 (laws_FnExactCombineTables.j1 kq a0 t186 x86_108 a1_0 l1_1 a2_0 l2_1 t182 t183 t198 t199 = some true) /\ Aside0 (kq <= kj25) /\ Aside0 (Kd.R (Kd.int .i64) 3 wc w.heap.size (fun k_ => some k_ ≠ ((.slice Ao53 t189.length co53) : Value).ownBlock /\ some k_ ≠ ((.slice Ao63 t194.length co63) : Value).ownBlock /\ some k_ ≠ ((.slice Ao73 t199.length co73) : Value).ownBlock) (.slice Ao43 t183.length co43) t183) /\ Aside0 (Kd.R (Kd.int .i64) 3 wc w.heap.size (fun k_ => some k_ ≠ ((.slice Ao43 t183.length co43) : Value).ownBlock /\ some k_ ≠ ((.slice Ao63 t194.length co63) : Value).ownBlock /\ some k_ ≠ ((.slice Ao73 t199.length co73) : Value).ownBlock) (.slice Ao53 t189.length co53) t216) /\ Aside0 (Kd.R (Kd.int .i64) 3 wc w.heap.size (fun k_ => some k_ ≠ ((.slice Ao43 t183.length co43) : Value).ownBlock /\ some k_ ≠ ((.slice Ao53 t189.length co53) : Value).ownBlock /\ some k_ ≠ ((.slice Ao73 t199.length co73) : Value).ownBlock) (.slice Ao63 t194.length co63) t218) /\ Aside0 (Kd.R (Kd.int .i64) 3 wc w.heap.size (fun k_ => some k_ ≠ ((.slice Ao43 t183.length co43) : Value).ownBlock /\ some k_ ≠ ((.slice Ao53 t189.length co53) : Value).ownBlock /\ some k_ ≠ ((.slice Ao63 t194.length co63) : Value).ownBlock) (.slice Ao73 t199.length co73) t199) /\ Aside0 (wc.heap[gb170]? = some (.cells #[.int .i64 a1_0, (.slice A1_1 l1_1.length c1_1)] 24 (0, 0))) /\ Aside0 (wc.heap[gb171]? = some (.cells #[.int .i64 a2_0, (.slice A2_1 l2_1.length c2_1)] 24 (0, 0))) /\ Aside0 (wc.heap[gb187]? = some (.cells #[.int .i64 t182, (.slice Ao43 t183.length co43)] 26 (0, 0))) /\ Aside0 (wc.heap[gb192]? = some (.cells #[.int .i64 t188, (.slice Ao53 t189.length co53)] 26 (0, 0))) /\ Aside0 (wc.heap[gb197]? = some (.cells #[.int .i64 t193, (.slice Ao63 t194.length co63)] 26 (0, 0))) /\ Aside0 (wc.heap[gb203]? = some (.cells #[.int .i64 t198, (.slice Ao73 t199.length co73)] 26 (0, 0))) /\ Aside0 (Below w.heap.size w wc))
 case first =>
  have H := HC109.1
  clear HC109
  replace H := ifQ H; rcases H with ⟨c131, H⟩ | ⟨c131, H⟩
  · exact absurd H (by cases kj25 <;> simp [laws_FnExactCombineTables.j1])
  have c131b0 := decide_eq_false c131
  clear c131
  (first | rw [c131b0] | (simp only [i64_w, i32_w]; rw [c131b0]) | skip)
  replace H := bindA H; obtain ⟨t219, A132, H⟩ := H
  replace H := ifT H (by cases kj25 <;> simp [laws_FnExactCombineTables.j1]); obtain ⟨rfl, H⟩ := H
  have H' := Aside0.mk H
  clear H
  obtain ⟨hcz139_0, hcz139_1, hfz139_0, hfz139_1⟩ := cz2 BK203.1
  obtain ⟨hcz144_0, hcz144_1, hfz144_0, hfz144_1⟩ := cz2 BK187.1
  go_wp2_with (first | (go_at_call 8; (with_reducible refine (laws_eqTable.calls kj25 t198 _ _ t199 t182 _ _ t183 true _ ?side1 ?side2 ?side3 ?side4 A132.1).mono ?_); (case side1 => exact CB (R_reads' HO_204001.1).2.2); (case side2 => exact (R_reads' HO_204001.1).2.1); (case side3 => exact CB (R_reads' HO_188001.1).2.2); (case side4 => exact (R_reads' HO_188001.1).2.1); rintro e w145 ⟨rfl, hb⟩; refine E13 (rB HO_188001.1 hb) (rB HO_193001.1 hb) (rB HO_198001.1 hb) (rB HO_204001.1 hb) (rB HO208.1 hb) (rB HO213.1 hb) (bB BK170.1 hb) (bB BK171.1 hb) (bB BK187.1 hb) (bB BK192.1 hb) (bB BK197.1 hb) (bB BK203.1 hb) (bS HB.1 hb) ?_; clear HO_188001 HO_193001 HO_198001 HO_204001 HO208 HO213 BK170 BK171 BK187 BK192 BK197 BK203 HB; intro HO_188001 HO_193001 HO_198001 HO_204001 HO208 HO213 BK170 BK171 BK187 BK192 BK197 BK203 HB; (try clear hb)))
  go_meet
  case rel => exact ⟨_, ((t202 != t186)), RG, H', ⟨by have := HJ25.1; first | omega | exact Nat.le_refl _⟩, ⟨RPE (R_mono HO_188001.1 (fun _ hk => ⟨hk.1, ⟨hk.2.1, hk.2.2.1⟩⟩))⟩, ⟨RPE (R_mono HO_193001.1 (fun _ hk => ⟨hk.1, ⟨hk.2.1, hk.2.2.1⟩⟩))⟩, ⟨RPE (R_mono HO_198001.1 (fun _ hk => ⟨hk.1, ⟨hk.2.1, hk.2.2.1⟩⟩))⟩, ⟨RPE (R_mono HO_204001.1 (fun _ hk => ⟨hk.1, ⟨hk.2.1, hk.2.2.1⟩⟩))⟩, ⟨PB BK170.1⟩, ⟨PB BK171.1⟩, ⟨PB BK187.1⟩, ⟨PB BK192.1⟩, ⟨PB BK197.1⟩, ⟨PB BK203.1⟩, ⟨BL HB.1⟩⟩
 clear HC109
 clear hcz123_0 hcz123_1 hcz129_0 hcz129_1 hfz123_0 hfz123_1 hfz129_0 hfz129_1
 obtain ⟨kq, x86_108, rfl, HA, HJ108, HO_188001, HO_193001, HO_198001, HO_204001, BK170, BK171, BK187, BK192, BK197, BK203, HB⟩ := hcut
 have hl193001_108 := (R_reads' HO_193001.1).1
 rw [hl193001_108] at HO_193001
 (try simp only [hl193001_108])
 (try simp only [hl193001_108] at BK170)
 (try simp only [hl193001_108] at BK171)
 (try simp only [hl193001_108] at BK187)
 (try simp only [hl193001_108] at BK192)
 (try simp only [hl193001_108] at BK197)
 (try simp only [hl193001_108] at BK203)
 (try simp only [hl193001_108] at HO_188001)
 (try simp only [hl193001_108] at HO_198001)
 (try simp only [hl193001_108] at HO_204001)
 have hl198001_108 := (R_reads' HO_198001.1).1
 rw [hl198001_108] at HO_198001
 (try simp only [hl198001_108])
 (try simp only [hl198001_108] at BK170)
 (try simp only [hl198001_108] at BK171)
 (try simp only [hl198001_108] at BK187)
 (try simp only [hl198001_108] at BK192)
 (try simp only [hl198001_108] at BK197)
 (try simp only [hl198001_108] at BK203)
 (try simp only [hl198001_108] at HO_188001)
 (try simp only [hl198001_108] at HO_193001)
 (try simp only [hl198001_108] at HO_204001)
 cases kq with
 | zero => exact absurd HA.1 (by simp [laws_FnExactCombineTables.j1])
 | succ kj108 => ?_
 have H := HA.1
 clear HA
 simp only [laws_FnExactCombineTables.j1] at H
 replace H := ifF H (by simp); obtain ⟨rfl, H⟩ := H
 replace H := bindA H; obtain ⟨⟨t220, t221⟩, A159, H⟩ := H
 dsimp only at H
 replace H := bindA H; obtain ⟨t222, A160, H⟩ := H
 replace H := ifQ H; rcases H with ⟨c161, H⟩ | ⟨c161, H⟩
 · exact absurd H (by simp)
 have c161b0 := decide_eq_false c161
 clear c161
 first | replace H := ifP H | replace H := ifPf H
 obtain ⟨c171, H⟩ := H
 have c171b0 := beq_iff_eq.mpr c171
 have c171b1 := bne_eq_false_iff_eq.mpr c171
 clear c171
 replace H := bindA H; obtain ⟨⟨t223, t224⟩, A172, H⟩ := H
 dsimp only at H
 replace H := bindA H; obtain ⟨⟨t227, t228⟩, A173, H⟩ := H
 dsimp only at H
 replace H := bindA H; obtain ⟨⟨t231, t232, t235⟩, A174, H⟩ := H
 dsimp only at H
 have HC175 := Aside0.mk H
 clear H
 obtain ⟨hcz181_0, hcz181_1, hfz181_0, hfz181_1⟩ := cz2 BK203.1
 try go_wp2_with (first | ((with_reducible refine gate_callee (f := 9) rfl ?_); refine goesM (N := (some 89)) #[.agg #[.int .i64 t198, .slice Ao73 t199.length co73], .int .i64 1] Try.func9 ?_; (with_reducible refine (laws_markTable.calls kj108 t198 (fun k_ => some k_ = (.slice Ao73 t199.length co73 : Value).ownBlock) (.slice Ao73 t199.length co73) t199 1 t220 t221 w _ ?side1 ?side2 A159.1).mono ?_); (case side1 => exact BL HB.1); (case side2 => exact R_tight rfl HO_204001.1); rintro e w182 ⟨rfl, hy0, hb, hkp⟩; refine ⟨_, rfl, ?_⟩; refine E11 (R_mono (ok' := fun k_ => some k_ ≠ (.slice Ao53 t216.length co53 : Value).ownBlock /\ some k_ ≠ (.slice Ao63 t218.length co63 : Value).ownBlock /\ some k_ ≠ (.slice Ao73 t199.length co73 : Value).ownBlock) (R_keptB (HO_188001.1) hkp (fun k_ hk_ hs_ => (hk_.2.2) hs_)) (fun k_ hk_ => ⟨hk_.1.1, hk_.1.2.1, hk_.1.2.2⟩)) (R_mono (ok' := fun k_ => some k_ ≠ (.slice Ao43 t183.length co43 : Value).ownBlock /\ some k_ ≠ (.slice Ao63 t218.length co63 : Value).ownBlock /\ some k_ ≠ (.slice Ao73 t199.length co73 : Value).ownBlock) (R_keptB (HO_193001.1) hkp (fun k_ hk_ hs_ => (hk_.2.2) hs_)) (fun k_ hk_ => ⟨hk_.1.1, hk_.1.2.1, hk_.1.2.2⟩)) (R_mono (ok' := fun k_ => some k_ ≠ (.slice Ao43 t183.length co43 : Value).ownBlock /\ some k_ ≠ (.slice Ao53 t216.length co53 : Value).ownBlock /\ some k_ ≠ (.slice Ao73 t199.length co73 : Value).ownBlock) (R_keptB (HO_198001.1) hkp (fun k_ hk_ hs_ => (hk_.2.2) hs_)) (fun k_ hk_ => ⟨hk_.1.1, hk_.1.2.1, hk_.1.2.2⟩)) (R_reok rfl hy0 (fun k_ e_ => HO_204001.1.1 k_ e_)) (blk_kept (PB BK170.1) hkp (fun hs_ => (fun e_ => (R_ne HO_204001.1 BK170.1 (by decide)) e_) hs_)) (blk_kept (PB BK171.1) hkp (fun hs_ => (fun e_ => (R_ne HO_204001.1 BK171.1 (by decide)) e_) hs_)) (blk_kept (PB BK187.1) hkp (fun hs_ => (fun e_ => (R_ne HO_204001.1 BK187.1 (by decide)) e_) hs_)) (blk_kept (PB BK192.1) hkp (fun hs_ => (fun e_ => (R_ne HO_204001.1 BK192.1 (by decide)) e_) hs_)) (blk_kept (PB BK197.1) hkp (fun hs_ => (fun e_ => (R_ne HO_204001.1 BK197.1 (by decide)) e_) hs_)) (blk_kept (PB BK203.1) hkp (fun hs_ => (fun e_ => (R_ne HO_204001.1 BK203.1 (by decide)) e_) hs_)) (hb) ?_; clear HO_188001 HO_193001 HO_198001 HO_204001 BK170 BK171 BK187 BK192 BK197 BK203 HB; intro HO_188001 HO_193001 HO_198001 HO_204001 BK170 BK171 BK187 BK192 BK197 BK203 HB; (try clear hb); (try clear hkp); (try clear hy0); obtain ⟨hcz183_0, hcz183_1, hfz183_0, hfz183_1⟩ := cz2 BK203.1) | ((with_reducible refine gate_callee (f := 10) rfl ?_); refine goesL_ (some 92) rfl rfl Try.func10 (by kernel_rfl) rfl #[.agg #[.int .i64 t198, .slice Ao73 t221.length co73], .int .i64 1] rfl (by (try simp only [List.map_toArray, List.map_cons, List.map_nil]); first | done | (rw [show t221.length = t199.length from (R_reads' HO_204001.1).1.symm] <;> rfl) | rfl | (simp only [List.length_drop, List.length_take]; rfl)) ?_; (with_reducible refine (laws_heldTable.calls kj108 t198 _ _ t221 1 t222 _ ?side1 ?side2 A160.1).mono ?_); (case side1 => exact CB (R_reads' HO_204001.1).2.2); (case side2 => rw [show t221.length = t199.length from (R_reads' HO_204001.1).1.symm]; exact (R_reads' HO_204001.1).2.1); rintro e w184 ⟨rfl, hb⟩; refine ⟨_, rfl, ?_⟩; refine E11 (rB HO_188001.1 hb) (rB HO_193001.1 hb) (rB HO_198001.1 hb) (rB HO_204001.1 hb) (bB BK170.1 hb) (bB BK171.1 hb) (bB BK187.1 hb) (bB BK192.1 hb) (bB BK197.1 hb) (bB BK203.1 hb) (bS HB.1 hb) ?_; clear HO_188001 HO_193001 HO_198001 HO_204001 BK170 BK171 BK187 BK192 BK197 BK203 HB; intro HO_188001 HO_193001 HO_198001 HO_204001 BK170 BK171 BK187 BK192 BK197 BK203 HB; (try clear hb)))
 refine E11 (R_drew HO_188001.1) (R_drew HO_193001.1) (R_drew HO_198001.1) (R_drew HO_204001.1) (blk_drew BK170.1) (blk_drew BK171.1) (blk_drew BK187.1) (blk_drew BK192.1) (blk_drew BK197.1) (blk_drew BK203.1) (below_drew1 HB.1) ?_
 clear HO_188001 HO_193001 HO_198001 HO_204001 BK170 BK171 BK187 BK192 BK197 BK203 HB
 intro HO_188001 HO_193001 HO_198001 HO_204001 BK170 BK171 BK187 BK192 BK197 BK203 HB
 refine start_ (n := 12) (S := fun w' => w'.cell? ⟨gb170, 0, none⟩ = some (.int .i64 a1_0) /\ w'.cell? ⟨gb170, 1, none⟩ = some (.slice A1_1 l1_1.length c1_1) /\ w'.cell? ⟨gb171, 0, none⟩ = some (.int .i64 a2_0) /\ w'.cell? ⟨gb171, 1, none⟩ = some (.slice A2_1 l2_1.length c2_1)) (ds := []) #[Zz,Zz,Zz,Zz,Zz,Zz,Zz,Zz,Zz,Zz,Zz,Zz] (by kernel_rfl) rfl rfl ⟨(blk_cell BK170.1 0).trans rfl, (blk_cell BK170.1 1).trans rfl, (blk_cell BK171.1 0).trans rfl, (blk_cell BK171.1 1).trans rfl⟩ (fun hHeld => ?_); refine with_tabW laws_FnExactCombineTables.tab31 laws_FnExactCombineTables.bits31 (fun HT_ HW_ => ?_)
 generalize w184.drew = w185 at HO_188001 HO_193001 HO_198001 HO_204001 BK170 BK171 BK187 BK192 BK197 BK203 HB hHeld ⊢
 refine pureF 0 (N := some 99) HT_.1 ?_
 refine takeE 1 (N := some 100) HT_.1 HW_.1 hHeld ?_
 refine takeE 3 (N := some 102) HT_.1 HW_.1 hHeld ?_
 refine join_ (σ := Value × Value × Value × Nat) 2 #[Yy,Yy,Yy,Yy,Yy,Yy,Yy,Yy,Yy,Yy,Zz,Zz] (fun s_ => [(101, .agg #[.int .i64 t223, s_.1]), (103, .agg #[.int .i64 t227, s_.2.1]), (104, .tuple #[.agg #[.int .i64 t231, s_.2.2.1], .bool t235]), (17, .pointer (some ⟨s_.2.2.2, 0, none⟩)), (98, .tuple #[.agg #[.int .i64 t231, s_.2.2.1], .bool t235]), (105, .agg #[.int .i64 t231, s_.2.2.1]), (106, .bool t235)]) (fun s_ w' => (w'.cell? ⟨gb170, 0, none⟩ = some (.int .i64 a1_0) /\ w'.cell? ⟨gb170, 1, none⟩ = some (.slice A1_1 l1_1.length c1_1) /\ w'.cell? ⟨gb171, 0, none⟩ = some (.int .i64 a2_0) /\ w'.cell? ⟨gb171, 1, none⟩ = some (.slice A2_1 l2_1.length c2_1)) /\ (Kd.R (Kd.int .i64) 3 w' w.heap.size (fun k_ => some k_ ≠ (s_.2.1 : Value).ownBlock /\ some k_ ≠ (s_.2.2.1 : Value).ownBlock /\ some k_ ≠ (.slice Ao43 t183.length co43 : Value).ownBlock /\ some k_ ≠ (.slice Ao53 t216.length co53 : Value).ownBlock /\ some k_ ≠ (.slice Ao63 t218.length co63 : Value).ownBlock /\ some k_ ≠ (.slice Ao73 t199.length co73 : Value).ownBlock) s_.1 t224) /\ (Kd.R (Kd.int .i64) 3 w' w.heap.size (fun k_ => some k_ ≠ (s_.1 : Value).ownBlock /\ some k_ ≠ (s_.2.2.1 : Value).ownBlock /\ some k_ ≠ (.slice Ao43 t183.length co43 : Value).ownBlock /\ some k_ ≠ (.slice Ao53 t216.length co53 : Value).ownBlock /\ some k_ ≠ (.slice Ao63 t218.length co63 : Value).ownBlock /\ some k_ ≠ (.slice Ao73 t199.length co73 : Value).ownBlock) s_.2.1 t228) /\ (Kd.R (Kd.int .i64) 3 w' w.heap.size (fun k_ => some k_ ≠ (s_.1 : Value).ownBlock /\ some k_ ≠ (s_.2.1 : Value).ownBlock /\ some k_ ≠ (.slice Ao43 t183.length co43 : Value).ownBlock /\ some k_ ≠ (.slice Ao53 t216.length co53 : Value).ownBlock /\ some k_ ≠ (.slice Ao63 t218.length co63 : Value).ownBlock /\ some k_ ≠ (.slice Ao73 t199.length co73 : Value).ownBlock) s_.2.2.1 t232) /\ (Kd.R (Kd.int .i64) 3 w' w.heap.size (fun k_ => some k_ ≠ (s_.1 : Value).ownBlock /\ some k_ ≠ (s_.2.1 : Value).ownBlock /\ some k_ ≠ (s_.2.2.1 : Value).ownBlock /\ some k_ ≠ (.slice Ao53 t216.length co53 : Value).ownBlock /\ some k_ ≠ (.slice Ao63 t218.length co63 : Value).ownBlock /\ some k_ ≠ (.slice Ao73 t199.length co73 : Value).ownBlock) (.slice Ao43 t183.length co43) t183) /\ (Kd.R (Kd.int .i64) 3 w' w.heap.size (fun k_ => some k_ ≠ (s_.1 : Value).ownBlock /\ some k_ ≠ (s_.2.1 : Value).ownBlock /\ some k_ ≠ (s_.2.2.1 : Value).ownBlock /\ some k_ ≠ (.slice Ao43 t183.length co43 : Value).ownBlock /\ some k_ ≠ (.slice Ao63 t218.length co63 : Value).ownBlock /\ some k_ ≠ (.slice Ao73 t199.length co73 : Value).ownBlock) (.slice Ao53 t216.length co53) t216) /\ (Kd.R (Kd.int .i64) 3 w' w.heap.size (fun k_ => some k_ ≠ (s_.1 : Value).ownBlock /\ some k_ ≠ (s_.2.1 : Value).ownBlock /\ some k_ ≠ (s_.2.2.1 : Value).ownBlock /\ some k_ ≠ (.slice Ao43 t183.length co43 : Value).ownBlock /\ some k_ ≠ (.slice Ao53 t216.length co53 : Value).ownBlock /\ some k_ ≠ (.slice Ao73 t199.length co73 : Value).ownBlock) (.slice Ao63 t218.length co63) t218) /\ (Kd.R (Kd.int .i64) 3 w' w.heap.size (fun k_ => some k_ ≠ (s_.1 : Value).ownBlock /\ some k_ ≠ (s_.2.1 : Value).ownBlock /\ some k_ ≠ (s_.2.2.1 : Value).ownBlock /\ some k_ ≠ (.slice Ao43 t183.length co43 : Value).ownBlock /\ some k_ ≠ (.slice Ao53 t216.length co53 : Value).ownBlock /\ some k_ ≠ (.slice Ao63 t218.length co63 : Value).ownBlock) (.slice Ao73 t199.length co73) t221) /\ (w'.heap[gb170]? = some (.cells #[.int .i64 a1_0, .slice A1_1 l1_1.length c1_1] 24 (0, 0))) /\ (w'.heap[gb171]? = some (.cells #[.int .i64 a2_0, .slice A2_1 l2_1.length c2_1] 24 (0, 0))) /\ (w'.heap[gb187]? = some (.cells #[.int .i64 t182, .slice Ao43 t183.length co43] 26 (0, 0))) /\ (w'.heap[gb192]? = some (.cells #[.int .i64 t188, .slice Ao53 t216.length co53] 26 (0, 0))) /\ (w'.heap[gb197]? = some (.cells #[.int .i64 t193, .slice Ao63 t218.length co63] 26 (0, 0))) /\ (w'.heap[gb203]? = some (.cells #[.int .i64 t198, .slice Ao73 t199.length co73] 26 (0, 0))) /\ (w'.heap[s_.2.2.2]? = some (.cells #[.int .i64 0, .slice none 0 0] 26 (0, 0))) /\ (w.heap.size <= s_.2.2.2) /\ (w.heap.size <= s_.2.2.2) /\ (gb170 ≠ s_.2.2.2) /\ (s_.2.2.2 ≠ gb170) /\ (gb171 ≠ s_.2.2.2) /\ (s_.2.2.2 ≠ gb171) /\ (gb187 ≠ s_.2.2.2) /\ (s_.2.2.2 ≠ gb187) /\ (gb192 ≠ s_.2.2.2) /\ (s_.2.2.2 ≠ gb192) /\ (gb197 ≠ s_.2.2.2) /\ (s_.2.2.2 ≠ gb197) /\ (gb203 ≠ s_.2.2.2) /\ (s_.2.2.2 ≠ gb203) /\ (Below w.heap.size w w')) ?_ ?_
 rotate_left
 · intro hCont
   refine two_ (i := 2) (j := 9) (Ni := some 101) (Nj := some 17) #[Yy,Yy,Yy,Yy,Zz,Zz,Zz,Zz,Zz,Zz,Zz,Zz] #[Yy,Yy,Zz,Yy,Zz,Zz,Zz,Zz,Zz,Yy,Zz,Zz] rfl rfl rfl rfl (two_of HT_.1 (by kernel_rfl)) (by decide) (by decide) (fun K hK => ?_) (fun K hK => ?_)
   · skip
     refine goes_ Try.func6 (by kernel_rfl) rfl #[.agg #[.int .i64 a1_0, .slice A1_1 l1_1.length c1_1]] (by rfl) rfl rfl (by (try simp only [List.map_toArray, List.map_cons, List.map_nil]); first | done | rfl | (simp only [List.length_drop, List.length_take]; rfl)) ?_
     with_reducible refine (laws_toTable.calls kj108 a1_0 _ _ l1_1 t223 t224 _ ?side1 ?side2 A172.1).mono ?_
     (case side1 => exact CB (C_below HR1_1.1 HB.1))
     (case side2 => exact HC1_1.1)
     rintro e w186 ⟨v225, rfl, ho0, hb⟩
     refine ⟨_, rfl, ?_⟩
     refine E12 (R_elder' (PR HO_188001.1) (R_base ho0) hb) (R_elder' (PR HO_193001.1) (R_base ho0) hb) (R_elder' (PR HO_198001.1) (R_base ho0) hb) (R_elder' (PR HO_204001.1) (R_base ho0) hb) (R_lower (R_new' (R_new' (R_new' (R_new' ho0 (R_lt (PR HO_188001.1))) (R_lt (PR HO_193001.1))) (R_lt (PR HO_198001.1))) (R_lt (PR HO_204001.1))) (bZ HB.1)) (bB BK170.1 hb) (bB BK171.1 hb) (bB BK187.1 hb) (bB BK192.1 hb) (bB BK197.1 hb) (bB BK203.1 hb) (bS HB.1 hb) ?_
     clear HO_188001 HO_193001 HO_198001 HO_204001 BK170 BK171 BK187 BK192 BK197 BK203 HB
     intro HO_188001 HO_193001 HO_198001 HO_204001 HO226 BK170 BK171 BK187 BK192 BK197 BK203 HB
     (try clear hb)
     (try clear hb2)
     (try clear hk)
     (try clear hi)
     (try clear ho0)
     refine hK.out _ _ ⟨(blk_cell BK170.1 0).trans rfl, (blk_cell BK170.1 1).trans rfl, (blk_cell BK171.1 0).trans rfl, (blk_cell BK171.1 1).trans rfl⟩ (fun hHeld => ?_)
     clear hK K
     refine norm_ (a' := ?_) ?_ ?_
     rotate_left
     · show Act.put _ (some 101) _ = _
       simp only [Act.put, List.setIfInBounds_toArray, List.set_cons_zero, List.set_cons_succ, i64_w, i32_w]
       rfl
     refine two_ (i := 4) (j := 9) (Ni := some 103) (Nj := some 17) #[Yy,Yy,Yy,Yy,Yy,Zz,Zz,Zz,Zz,Zz,Zz,Zz] #[Yy,Yy,Yy,Yy,Zz,Zz,Zz,Zz,Zz,Yy,Zz,Zz] rfl rfl rfl rfl (two_of HT_.1 (by kernel_rfl)) (by decide) (by decide) (fun K hK => ?_) (fun K hK => ?_)
     · skip
       refine goes_ Try.func6 (by kernel_rfl) rfl #[.agg #[.int .i64 a2_0, .slice A2_1 l2_1.length c2_1]] (by rfl) rfl rfl (by (try simp only [List.map_toArray, List.map_cons, List.map_nil]); first | done | rfl | (simp only [List.length_drop, List.length_take]; rfl)) ?_
       with_reducible refine (laws_toTable.calls kj108 a2_0 _ _ l2_1 t227 t228 _ ?side1 ?side2 A173.1).mono ?_
       (case side1 => exact CB (C_below HR2_1.1 HB.1))
       (case side2 => exact HC2_1.1)
       rintro e w187 ⟨v229, rfl, ho0, hb⟩
       refine ⟨_, rfl, ?_⟩
       refine E13 (R_elder' (PR HO_188001.1) (R_base ho0) hb) (R_elder' (PR HO_193001.1) (R_base ho0) hb) (R_elder' (PR HO_198001.1) (R_base ho0) hb) (R_elder' (PR HO_204001.1) (R_base ho0) hb) (R_elder' (PR HO226.1) (R_base ho0) hb) (R_lower (R_new' (R_new' (R_new' (R_new' (R_new' ho0 (R_lt (PR HO_188001.1))) (R_lt (PR HO_193001.1))) (R_lt (PR HO_198001.1))) (R_lt (PR HO_204001.1))) (R_lt (PR HO226.1))) (bZ HB.1)) (bB BK170.1 hb) (bB BK171.1 hb) (bB BK187.1 hb) (bB BK192.1 hb) (bB BK197.1 hb) (bB BK203.1 hb) (bS HB.1 hb) ?_
       clear HO_188001 HO_193001 HO_198001 HO_204001 HO226 BK170 BK171 BK187 BK192 BK197 BK203 HB
       intro HO_188001 HO_193001 HO_198001 HO_204001 HO226 HO230 BK170 BK171 BK187 BK192 BK197 BK203 HB
       (try clear hb)
       (try clear hb2)
       (try clear hk)
       (try clear hi)
       (try clear ho0)
       obtain ⟨Ao188, co188, eo188⟩ := R_slice HO226.1
       (first | subst eo188 | (injection eo188 with f1_ f2_ f3_; have f4_ := f1_.symm; have f5_ := f3_.symm; clear f1_ f2_ f3_; subst f4_; subst f5_))
       obtain ⟨Ao189, co189, eo189⟩ := R_slice HO230.1
       (first | subst eo189 | (injection eo189 with f1_ f2_ f3_; have f4_ := f1_.symm; have f5_ := f3_.symm; clear f1_ f2_ f3_; subst f4_; subst f5_))
       refine hK.out _ _ ⟨(blk_cell BK170.1 0).trans rfl, (blk_cell BK170.1 1).trans rfl, (blk_cell BK171.1 0).trans rfl, (blk_cell BK171.1 1).trans rfl⟩ (fun hHeld => ?_)
       clear hK K
       refine norm_ (a' := ?_) ?_ ?_
       rotate_left
       · show Act.put _ (some 103) _ = _
         simp only [Act.put, List.setIfInBounds_toArray, List.set_cons_zero, List.set_cons_succ, i64_w, i32_w]
         rfl
       refine two_ (i := 5) (j := 9) (Ni := some 104) (Nj := some 17) #[Yy,Yy,Yy,Yy,Yy,Yy,Zz,Zz,Zz,Zz,Zz,Zz] #[Yy,Yy,Yy,Yy,Yy,Zz,Zz,Zz,Zz,Yy,Zz,Zz] rfl rfl rfl rfl (two_of HT_.1 (by kernel_rfl)) (by decide) (by decide) (fun K hK => ?_) (fun K hK => ?_)
       · skip
         refine goes_ Try.func7 (by kernel_rfl) rfl #[.int .i64 a0, .agg #[.int .i64 t223, .slice Ao188 t224.length co188], .agg #[.int .i64 t227, .slice Ao189 t228.length co189]] (by rfl) rfl rfl (by (try simp only [List.map_toArray, List.map_cons, List.map_nil]); first | done | rfl | (simp only [List.length_drop, List.length_take]; rfl)) ?_
         with_reducible refine (impl_CombineTables.calls kj108 a0 t223 _ _ t224 t227 _ _ t228 t231 t232 t235 _ ?side1 ?side2 ?side3 ?side4 A174.1).mono ?_
         (case side1 => exact CB (R_reads' HO226.1).2.2)
         (case side2 => exact (R_reads' HO226.1).2.1)
         (case side3 => exact CB (R_reads' HO230.1).2.2)
         (case side4 => exact (R_reads' HO230.1).2.1)
         rintro e w190 ⟨v233, rfl, ho0, hb⟩
         refine ⟨_, rfl, ?_⟩
         refine E14 (R_elder' (PR HO_188001.1) (R_base ho0) hb) (R_elder' (PR HO_193001.1) (R_base ho0) hb) (R_elder' (PR HO_198001.1) (R_base ho0) hb) (R_elder' (PR HO_204001.1) (R_base ho0) hb) (R_elder' (PR HO226.1) (R_base ho0) hb) (R_elder' (PR HO230.1) (R_base ho0) hb) (R_lower (R_new' (R_new' (R_new' (R_new' (R_new' (R_new' ho0 (R_lt (PR HO_188001.1))) (R_lt (PR HO_193001.1))) (R_lt (PR HO_198001.1))) (R_lt (PR HO_204001.1))) (R_lt (PR HO226.1))) (R_lt (PR HO230.1))) (bZ HB.1)) (bB BK170.1 hb) (bB BK171.1 hb) (bB BK187.1 hb) (bB BK192.1 hb) (bB BK197.1 hb) (bB BK203.1 hb) (bS HB.1 hb) ?_
         clear HO_188001 HO_193001 HO_198001 HO_204001 HO226 HO230 BK170 BK171 BK187 BK192 BK197 BK203 HB
         intro HO_188001 HO_193001 HO_198001 HO_204001 HO226 HO230 HO234 BK170 BK171 BK187 BK192 BK197 BK203 HB
         (try clear hb)
         (try clear hb2)
         (try clear hk)
         (try clear hi)
         (try clear ho0)
         refine hK.out _ _ ⟨(blk_cell BK170.1 0).trans rfl, (blk_cell BK170.1 1).trans rfl, (blk_cell BK171.1 0).trans rfl, (blk_cell BK171.1 1).trans rfl⟩ (fun hHeld => ?_)
         clear hK K
         refine norm_ (a' := ?_) ?_ ?_
         rotate_left
         · show Act.put _ (some 104) _ = _
           simp only [Act.put, List.setIfInBounds_toArray, List.set_cons_zero, List.set_cons_succ, i64_w, i32_w]
           rfl
         refine pureF 6 (N := some 98) HT_.1 ?_
         refine pureF 7 (N := some 105) HT_.1 ?_
         refine pureF 8 (N := some 106) HT_.1 ?_
         refine one_ (i := 9) (N := some 17) #[Yy,Yy,Yy,Yy,Yy,Yy,Yy,Yy,Yy,Yy,Zz,Zz] rfl rfl (one_of HT_.1 (by kernel_rfl)) (by decide) (fun K hK => ?_)
         refine box_step ?hg (N := 17) ?hd (cs := #[.int .i64 0, .slice none 0 0]) (t := 26) ?hr ?_; (case hd => rfl); (case hg => rfl); (case hr => first | (go_simp; done) | (go_simp; rfl))
         intro gb236 hg w191 hbox hb
         have n0_ := Aside0.mk (rB HO_188001.1 hb)
         have n1_ := Aside0.mk (rB HO_193001.1 hb)
         have n2_ := Aside0.mk (rB HO_198001.1 hb)
         have n3_ := Aside0.mk (rB HO_204001.1 hb)
         have n4_ := Aside0.mk (rB HO226.1 hb)
         have n5_ := Aside0.mk (rB HO230.1 hb)
         have n6_ := Aside0.mk (rB HO234.1 hb)
         have n7_ := Aside0.mk (bB BK170.1 hb)
         have n8_ := Aside0.mk (bB BK171.1 hb)
         have n9_ := Aside0.mk (bB BK187.1 hb)
         have n10_ := Aside0.mk (bB BK192.1 hb)
         have n11_ := Aside0.mk (bB BK197.1 hb)
         have n12_ := Aside0.mk (bB BK203.1 hb)
         have n13_ := Aside0.mk (bS HB.1 hb)
         have n14_ := Aside0.mk (hbox)
         have n15_ := Aside0.mk (gX HB.1 hg)
         have n16_ := Aside0.mk (gX HB.1 hg)
         have n17_ := Aside0.mk (nB BK170.1 hg)
         have n18_ := Aside0.mk (nC BK170.1 hg)
         have n19_ := Aside0.mk (nB BK171.1 hg)
         have n20_ := Aside0.mk (nC BK171.1 hg)
         have n21_ := Aside0.mk (nB BK187.1 hg)
         have n22_ := Aside0.mk (nC BK187.1 hg)
         have n23_ := Aside0.mk (nB BK192.1 hg)
         have n24_ := Aside0.mk (nC BK192.1 hg)
         have n25_ := Aside0.mk (nB BK197.1 hg)
         have n26_ := Aside0.mk (nC BK197.1 hg)
         have n27_ := Aside0.mk (nB BK203.1 hg)
         have n28_ := Aside0.mk (nC BK203.1 hg)
         clear HO_188001
         clear HO_193001
         clear HO_198001
         clear HO_204001
         clear HO226
         clear HO230
         clear HO234
         clear BK170
         clear BK171
         clear BK187
         clear BK192
         clear BK197
         clear BK203
         clear HB
         have HO_188001 := n0_
         have HO_193001 := n1_
         have HO_198001 := n2_
         have HO_204001 := n3_
         have HO226 := n4_
         have HO230 := n5_
         have HO234 := n6_
         have BK170 := n7_
         have BK171 := n8_
         have BK187 := n9_
         have BK192 := n10_
         have BK197 := n11_
         have BK203 := n12_
         have HB := n13_
         have BK236 := n14_
         have GW236 := n15_
         have GE236 := n16_
         have NB170_236 := n17_
         have NB236_170 := n18_
         have NB171_236 := n19_
         have NB236_171 := n20_
         have NB187_236 := n21_
         have NB236_187 := n22_
         have NB192_236 := n23_
         have NB236_192 := n24_
         have NB197_236 := n25_
         have NB236_197 := n26_
         have NB203_236 := n27_
         have NB236_203 := n28_
         clear n0_ n1_ n2_ n3_ n4_ n5_ n6_ n7_ n8_ n9_ n10_ n11_ n12_ n13_ n14_ n15_ n16_ n17_ n18_ n19_ n20_ n21_ n22_ n23_ n24_ n25_ n26_ n27_ n28_
         clear hb hbox hg
         refine hK.out _ _ ⟨(blk_cell BK170.1 0).trans rfl, (blk_cell BK170.1 1).trans rfl, (blk_cell BK171.1 0).trans rfl, (blk_cell BK171.1 1).trans rfl⟩ (fun hHeld => ?_)
         clear hK K
         refine norm_ (a' := ?_) ?_ ?_
         rotate_left
         · show Act.put _ (some 17) _ = _
           simp only [Act.put, List.setIfInBounds_toArray, List.set_cons_zero, List.set_cons_succ, i64_w, i32_w]
           rfl
         exact norm_ NA (hCont (.slice Ao188 t224.length co188, .slice Ao189 t228.length co189, v233, gb236) _ ⟨hHeld, (RPE (R_mono HO226.1 (fun _ hk => ⟨hk.1.2, ⟨hk.2, ⟨hk.1.1.1.1.1.2, ⟨hk.1.1.1.1.2, ⟨hk.1.1.1.2, hk.1.1.2⟩⟩⟩⟩⟩))), (RPE (R_mono HO230.1 (fun _ hk => ⟨hk.1.2, ⟨hk.2, ⟨hk.1.1.1.1.1.2, ⟨hk.1.1.1.1.2, ⟨hk.1.1.1.2, hk.1.1.2⟩⟩⟩⟩⟩))), (RPE (R_mono HO234.1 (fun _ hk => ⟨hk.1.2, ⟨hk.2, ⟨hk.1.1.1.1.1.2, ⟨hk.1.1.1.1.2, ⟨hk.1.1.1.2, hk.1.1.2⟩⟩⟩⟩⟩))), (RPE (R_mono HO_188001.1 (fun _ hk => ⟨hk.1.1.2, ⟨hk.1.2, ⟨hk.2, ⟨hk.1.1.1.1, ⟨hk.1.1.1.2.1, hk.1.1.1.2.2⟩⟩⟩⟩⟩))), (RPE (R_mono HO_193001.1 (fun _ hk => ⟨hk.1.1.2, ⟨hk.1.2, ⟨hk.2, ⟨hk.1.1.1.1, ⟨hk.1.1.1.2.1, hk.1.1.1.2.2⟩⟩⟩⟩⟩))), (RPE (R_mono HO_198001.1 (fun _ hk => ⟨hk.1.1.2, ⟨hk.1.2, ⟨hk.2, ⟨hk.1.1.1.1, ⟨hk.1.1.1.2.1, hk.1.1.1.2.2⟩⟩⟩⟩⟩))), (RPE (R_mono HO_204001.1 (fun _ hk => ⟨hk.1.1.2, ⟨hk.1.2, ⟨hk.2, ⟨hk.1.1.1.1, ⟨hk.1.1.1.2.1, hk.1.1.1.2.2⟩⟩⟩⟩⟩))), (PB BK170.1), (PB BK171.1), (PB BK187.1), (PB BK192.1), (PB BK197.1), (PB BK203.1), (PB BK236.1), GW236.1, GE236.1, NB170_236.1, NB236_170.1, NB171_236.1, NB236_171.1, NB187_236.1, NB236_187.1, NB192_236.1, NB236_192.1, NB197_236.1, NB236_197.1, NB203_236.1, NB236_203.1, (BL HB.1)⟩)
       skip
       refine box_step ?hg (N := 17) ?hd (cs := #[.int .i64 0, .slice none 0 0]) (t := 26) ?hr ?_; (case hd => rfl); (case hg => rfl); (case hr => first | (go_simp; done) | (go_simp; rfl))
       intro gb236 hg w188 hbox hb
       have n0_ := Aside0.mk (rB HO_188001.1 hb)
       have n1_ := Aside0.mk (rB HO_193001.1 hb)
       have n2_ := Aside0.mk (rB HO_198001.1 hb)
       have n3_ := Aside0.mk (rB HO_204001.1 hb)
       have n4_ := Aside0.mk (rB HO226.1 hb)
       have n5_ := Aside0.mk (rB HO230.1 hb)
       have n6_ := Aside0.mk (bB BK170.1 hb)
       have n7_ := Aside0.mk (bB BK171.1 hb)
       have n8_ := Aside0.mk (bB BK187.1 hb)
       have n9_ := Aside0.mk (bB BK192.1 hb)
       have n10_ := Aside0.mk (bB BK197.1 hb)
       have n11_ := Aside0.mk (bB BK203.1 hb)
       have n12_ := Aside0.mk (bS HB.1 hb)
       have n13_ := Aside0.mk (hbox)
       have n14_ := Aside0.mk (gX HB.1 hg)
       have n15_ := Aside0.mk (gX HB.1 hg)
       have n16_ := Aside0.mk (nB BK170.1 hg)
       have n17_ := Aside0.mk (nC BK170.1 hg)
       have n18_ := Aside0.mk (nB BK171.1 hg)
       have n19_ := Aside0.mk (nC BK171.1 hg)
       have n20_ := Aside0.mk (nB BK187.1 hg)
       have n21_ := Aside0.mk (nC BK187.1 hg)
       have n22_ := Aside0.mk (nB BK192.1 hg)
       have n23_ := Aside0.mk (nC BK192.1 hg)
       have n24_ := Aside0.mk (nB BK197.1 hg)
       have n25_ := Aside0.mk (nC BK197.1 hg)
       have n26_ := Aside0.mk (nB BK203.1 hg)
       have n27_ := Aside0.mk (nC BK203.1 hg)
       clear HO_188001
       clear HO_193001
       clear HO_198001
       clear HO_204001
       clear HO226
       clear HO230
       clear BK170
       clear BK171
       clear BK187
       clear BK192
       clear BK197
       clear BK203
       clear HB
       have HO_188001 := n0_
       have HO_193001 := n1_
       have HO_198001 := n2_
       have HO_204001 := n3_
       have HO226 := n4_
       have HO230 := n5_
       have BK170 := n6_
       have BK171 := n7_
       have BK187 := n8_
       have BK192 := n9_
       have BK197 := n10_
       have BK203 := n11_
       have HB := n12_
       have BK236 := n13_
       have GW236 := n14_
       have GE236 := n15_
       have NB170_236 := n16_
       have NB236_170 := n17_
       have NB171_236 := n18_
       have NB236_171 := n19_
       have NB187_236 := n20_
       have NB236_187 := n21_
       have NB192_236 := n22_
       have NB236_192 := n23_
       have NB197_236 := n24_
       have NB236_197 := n25_
       have NB203_236 := n26_
       have NB236_203 := n27_
       clear n0_ n1_ n2_ n3_ n4_ n5_ n6_ n7_ n8_ n9_ n10_ n11_ n12_ n13_ n14_ n15_ n16_ n17_ n18_ n19_ n20_ n21_ n22_ n23_ n24_ n25_ n26_ n27_
       clear hb hbox hg
       obtain ⟨Ao189, co189, eo189⟩ := R_slice HO226.1
       (first | subst eo189 | (injection eo189 with f1_ f2_ f3_; have f4_ := f1_.symm; have f5_ := f3_.symm; clear f1_ f2_ f3_; subst f4_; subst f5_))
       obtain ⟨Ao190, co190, eo190⟩ := R_slice HO230.1
       (first | subst eo190 | (injection eo190 with f1_ f2_ f3_; have f4_ := f1_.symm; have f5_ := f3_.symm; clear f1_ f2_ f3_; subst f4_; subst f5_))
       refine hK.out _ _ ⟨(blk_cell BK170.1 0).trans rfl, (blk_cell BK170.1 1).trans rfl, (blk_cell BK171.1 0).trans rfl, (blk_cell BK171.1 1).trans rfl⟩ (fun hHeld => ?_)
       clear hK K
       refine norm_ (a' := ?_) ?_ ?_
       rotate_left
       · show Act.put _ (some 17) _ = _
         simp only [Act.put, List.setIfInBounds_toArray, List.set_cons_zero, List.set_cons_succ, i64_w, i32_w]
         rfl
       refine one_ (i := 5) (N := some 104) #[Yy,Yy,Yy,Yy,Yy,Yy,Zz,Zz,Zz,Yy,Zz,Zz] rfl rfl (one_of HT_.1 (by kernel_rfl)) (by decide) (fun K hK => ?_)
       refine goes_ Try.func7 (by kernel_rfl) rfl #[.int .i64 a0, .agg #[.int .i64 t223, .slice Ao189 t224.length co189], .agg #[.int .i64 t227, .slice Ao190 t228.length co190]] (by rfl) rfl rfl (by (try simp only [List.map_toArray, List.map_cons, List.map_nil]); first | done | rfl | (simp only [List.length_drop, List.length_take]; rfl)) ?_
       with_reducible refine (impl_CombineTables.calls kj108 a0 t223 _ _ t224 t227 _ _ t228 t231 t232 t235 _ ?side1 ?side2 ?side3 ?side4 A174.1).mono ?_
       (case side1 => exact CB (R_reads' HO226.1).2.2)
       (case side2 => exact (R_reads' HO226.1).2.1)
       (case side3 => exact CB (R_reads' HO230.1).2.2)
       (case side4 => exact (R_reads' HO230.1).2.1)
       rintro e w191 ⟨v233, rfl, ho0, hb⟩
       refine ⟨_, rfl, ?_⟩
       refine E15 (R_elder' (PR HO_188001.1) (R_base ho0) hb) (R_elder' (PR HO_193001.1) (R_base ho0) hb) (R_elder' (PR HO_198001.1) (R_base ho0) hb) (R_elder' (PR HO_204001.1) (R_base ho0) hb) (R_elder' (PR HO226.1) (R_base ho0) hb) (R_elder' (PR HO230.1) (R_base ho0) hb) (R_lower (R_new' (R_new' (R_new' (R_new' (R_new' (R_new' ho0 (R_lt (PR HO_188001.1))) (R_lt (PR HO_193001.1))) (R_lt (PR HO_198001.1))) (R_lt (PR HO_204001.1))) (R_lt (PR HO226.1))) (R_lt (PR HO230.1))) (bZ HB.1)) (bB BK170.1 hb) (bB BK171.1 hb) (bB BK187.1 hb) (bB BK192.1 hb) (bB BK197.1 hb) (bB BK203.1 hb) (bB BK236.1 hb) (bS HB.1 hb) ?_
       clear HO_188001 HO_193001 HO_198001 HO_204001 HO226 HO230 BK170 BK171 BK187 BK192 BK197 BK203 BK236 HB
       intro HO_188001 HO_193001 HO_198001 HO_204001 HO226 HO230 HO234 BK170 BK171 BK187 BK192 BK197 BK203 BK236 HB
       (try clear hb)
       (try clear hb2)
       (try clear hk)
       (try clear hi)
       (try clear ho0)
       refine hK.out _ _ ⟨(blk_cell BK170.1 0).trans rfl, (blk_cell BK170.1 1).trans rfl, (blk_cell BK171.1 0).trans rfl, (blk_cell BK171.1 1).trans rfl⟩ (fun hHeld => ?_)
       clear hK K
       refine norm_ (a' := ?_) ?_ ?_
       rotate_left
       · show Act.put _ (some 104) _ = _
         simp only [Act.put, List.setIfInBounds_toArray, List.set_cons_zero, List.set_cons_succ, i64_w, i32_w]
         rfl
       refine pureF 6 (N := some 98) HT_.1 ?_
       refine pureF 7 (N := some 105) HT_.1 ?_
       refine pureF 8 (N := some 106) HT_.1 ?_
       exact norm_ NA (hCont (.slice Ao189 t224.length co189, .slice Ao190 t228.length co190, v233, gb236) _ ⟨hHeld, (RPE (R_mono HO226.1 (fun _ hk => ⟨hk.1.2, ⟨hk.2, ⟨hk.1.1.1.1.1.2, ⟨hk.1.1.1.1.2, ⟨hk.1.1.1.2, hk.1.1.2⟩⟩⟩⟩⟩))), (RPE (R_mono HO230.1 (fun _ hk => ⟨hk.1.2, ⟨hk.2, ⟨hk.1.1.1.1.1.2, ⟨hk.1.1.1.1.2, ⟨hk.1.1.1.2, hk.1.1.2⟩⟩⟩⟩⟩))), (RPE (R_mono HO234.1 (fun _ hk => ⟨hk.1.2, ⟨hk.2, ⟨hk.1.1.1.1.1.2, ⟨hk.1.1.1.1.2, ⟨hk.1.1.1.2, hk.1.1.2⟩⟩⟩⟩⟩))), (RPE (R_mono HO_188001.1 (fun _ hk => ⟨hk.1.1.2, ⟨hk.1.2, ⟨hk.2, ⟨hk.1.1.1.1, ⟨hk.1.1.1.2.1, hk.1.1.1.2.2⟩⟩⟩⟩⟩))), (RPE (R_mono HO_193001.1 (fun _ hk => ⟨hk.1.1.2, ⟨hk.1.2, ⟨hk.2, ⟨hk.1.1.1.1, ⟨hk.1.1.1.2.1, hk.1.1.1.2.2⟩⟩⟩⟩⟩))), (RPE (R_mono HO_198001.1 (fun _ hk => ⟨hk.1.1.2, ⟨hk.1.2, ⟨hk.2, ⟨hk.1.1.1.1, ⟨hk.1.1.1.2.1, hk.1.1.1.2.2⟩⟩⟩⟩⟩))), (RPE (R_mono HO_204001.1 (fun _ hk => ⟨hk.1.1.2, ⟨hk.1.2, ⟨hk.2, ⟨hk.1.1.1.1, ⟨hk.1.1.1.2.1, hk.1.1.1.2.2⟩⟩⟩⟩⟩))), (PB BK170.1), (PB BK171.1), (PB BK187.1), (PB BK192.1), (PB BK197.1), (PB BK203.1), (PB BK236.1), GW236.1, GE236.1, NB170_236.1, NB236_170.1, NB171_236.1, NB236_171.1, NB187_236.1, NB236_187.1, NB192_236.1, NB236_192.1, NB197_236.1, NB236_197.1, NB203_236.1, NB236_203.1, (BL HB.1)⟩)
     skip
     refine box_step ?hg (N := 17) ?hd (cs := #[.int .i64 0, .slice none 0 0]) (t := 26) ?hr ?_; (case hd => rfl); (case hg => rfl); (case hr => first | (go_simp; done) | (go_simp; rfl))
     intro gb236 hg w187 hbox hb
     have n0_ := Aside0.mk (rB HO_188001.1 hb)
     have n1_ := Aside0.mk (rB HO_193001.1 hb)
     have n2_ := Aside0.mk (rB HO_198001.1 hb)
     have n3_ := Aside0.mk (rB HO_204001.1 hb)
     have n4_ := Aside0.mk (rB HO226.1 hb)
     have n5_ := Aside0.mk (bB BK170.1 hb)
     have n6_ := Aside0.mk (bB BK171.1 hb)
     have n7_ := Aside0.mk (bB BK187.1 hb)
     have n8_ := Aside0.mk (bB BK192.1 hb)
     have n9_ := Aside0.mk (bB BK197.1 hb)
     have n10_ := Aside0.mk (bB BK203.1 hb)
     have n11_ := Aside0.mk (bS HB.1 hb)
     have n12_ := Aside0.mk (hbox)
     have n13_ := Aside0.mk (gX HB.1 hg)
     have n14_ := Aside0.mk (gX HB.1 hg)
     have n15_ := Aside0.mk (nB BK170.1 hg)
     have n16_ := Aside0.mk (nC BK170.1 hg)
     have n17_ := Aside0.mk (nB BK171.1 hg)
     have n18_ := Aside0.mk (nC BK171.1 hg)
     have n19_ := Aside0.mk (nB BK187.1 hg)
     have n20_ := Aside0.mk (nC BK187.1 hg)
     have n21_ := Aside0.mk (nB BK192.1 hg)
     have n22_ := Aside0.mk (nC BK192.1 hg)
     have n23_ := Aside0.mk (nB BK197.1 hg)
     have n24_ := Aside0.mk (nC BK197.1 hg)
     have n25_ := Aside0.mk (nB BK203.1 hg)
     have n26_ := Aside0.mk (nC BK203.1 hg)
     clear HO_188001
     clear HO_193001
     clear HO_198001
     clear HO_204001
     clear HO226
     clear BK170
     clear BK171
     clear BK187
     clear BK192
     clear BK197
     clear BK203
     clear HB
     have HO_188001 := n0_
     have HO_193001 := n1_
     have HO_198001 := n2_
     have HO_204001 := n3_
     have HO226 := n4_
     have BK170 := n5_
     have BK171 := n6_
     have BK187 := n7_
     have BK192 := n8_
     have BK197 := n9_
     have BK203 := n10_
     have HB := n11_
     have BK236 := n12_
     have GW236 := n13_
     have GE236 := n14_
     have NB170_236 := n15_
     have NB236_170 := n16_
     have NB171_236 := n17_
     have NB236_171 := n18_
     have NB187_236 := n19_
     have NB236_187 := n20_
     have NB192_236 := n21_
     have NB236_192 := n22_
     have NB197_236 := n23_
     have NB236_197 := n24_
     have NB203_236 := n25_
     have NB236_203 := n26_
     clear n0_ n1_ n2_ n3_ n4_ n5_ n6_ n7_ n8_ n9_ n10_ n11_ n12_ n13_ n14_ n15_ n16_ n17_ n18_ n19_ n20_ n21_ n22_ n23_ n24_ n25_ n26_
     clear hb hbox hg
     refine hK.out _ _ ⟨(blk_cell BK170.1 0).trans rfl, (blk_cell BK170.1 1).trans rfl, (blk_cell BK171.1 0).trans rfl, (blk_cell BK171.1 1).trans rfl⟩ (fun hHeld => ?_)
     clear hK K
     refine norm_ (a' := ?_) ?_ ?_
     rotate_left
     · show Act.put _ (some 17) _ = _
       simp only [Act.put, List.setIfInBounds_toArray, List.set_cons_zero, List.set_cons_succ, i64_w, i32_w]
       rfl
     refine one_ (i := 4) (N := some 103) #[Yy,Yy,Yy,Yy,Yy,Zz,Zz,Zz,Zz,Yy,Zz,Zz] rfl rfl (one_of HT_.1 (by kernel_rfl)) (by decide) (fun K hK => ?_)
     refine goes_ Try.func6 (by kernel_rfl) rfl #[.agg #[.int .i64 a2_0, .slice A2_1 l2_1.length c2_1]] (by rfl) rfl rfl (by (try simp only [List.map_toArray, List.map_cons, List.map_nil]); first | done | rfl | (simp only [List.length_drop, List.length_take]; rfl)) ?_
     with_reducible refine (laws_toTable.calls kj108 a2_0 _ _ l2_1 t227 t228 _ ?side1 ?side2 A173.1).mono ?_
     (case side1 => exact CB (C_below HR2_1.1 HB.1))
     (case side2 => exact HC2_1.1)
     rintro e w188 ⟨v229, rfl, ho0, hb⟩
     refine ⟨_, rfl, ?_⟩
     refine E14 (R_elder' (PR HO_188001.1) (R_base ho0) hb) (R_elder' (PR HO_193001.1) (R_base ho0) hb) (R_elder' (PR HO_198001.1) (R_base ho0) hb) (R_elder' (PR HO_204001.1) (R_base ho0) hb) (R_elder' (PR HO226.1) (R_base ho0) hb) (R_lower (R_new' (R_new' (R_new' (R_new' (R_new' ho0 (R_lt (PR HO_188001.1))) (R_lt (PR HO_193001.1))) (R_lt (PR HO_198001.1))) (R_lt (PR HO_204001.1))) (R_lt (PR HO226.1))) (bZ HB.1)) (bB BK170.1 hb) (bB BK171.1 hb) (bB BK187.1 hb) (bB BK192.1 hb) (bB BK197.1 hb) (bB BK203.1 hb) (bB BK236.1 hb) (bS HB.1 hb) ?_
     clear HO_188001 HO_193001 HO_198001 HO_204001 HO226 BK170 BK171 BK187 BK192 BK197 BK203 BK236 HB
     intro HO_188001 HO_193001 HO_198001 HO_204001 HO226 HO230 BK170 BK171 BK187 BK192 BK197 BK203 BK236 HB
     (try clear hb)
     (try clear hb2)
     (try clear hk)
     (try clear hi)
     (try clear ho0)
     obtain ⟨Ao189, co189, eo189⟩ := R_slice HO226.1
     (first | subst eo189 | (injection eo189 with f1_ f2_ f3_; have f4_ := f1_.symm; have f5_ := f3_.symm; clear f1_ f2_ f3_; subst f4_; subst f5_))
     obtain ⟨Ao190, co190, eo190⟩ := R_slice HO230.1
     (first | subst eo190 | (injection eo190 with f1_ f2_ f3_; have f4_ := f1_.symm; have f5_ := f3_.symm; clear f1_ f2_ f3_; subst f4_; subst f5_))
     refine hK.out _ _ ⟨(blk_cell BK170.1 0).trans rfl, (blk_cell BK170.1 1).trans rfl, (blk_cell BK171.1 0).trans rfl, (blk_cell BK171.1 1).trans rfl⟩ (fun hHeld => ?_)
     clear hK K
     refine norm_ (a' := ?_) ?_ ?_
     rotate_left
     · show Act.put _ (some 103) _ = _
       simp only [Act.put, List.setIfInBounds_toArray, List.set_cons_zero, List.set_cons_succ, i64_w, i32_w]
       rfl
     refine one_ (i := 5) (N := some 104) #[Yy,Yy,Yy,Yy,Yy,Yy,Zz,Zz,Zz,Yy,Zz,Zz] rfl rfl (one_of HT_.1 (by kernel_rfl)) (by decide) (fun K hK => ?_)
     refine goes_ Try.func7 (by kernel_rfl) rfl #[.int .i64 a0, .agg #[.int .i64 t223, .slice Ao189 t224.length co189], .agg #[.int .i64 t227, .slice Ao190 t228.length co190]] (by rfl) rfl rfl (by (try simp only [List.map_toArray, List.map_cons, List.map_nil]); first | done | rfl | (simp only [List.length_drop, List.length_take]; rfl)) ?_
     with_reducible refine (impl_CombineTables.calls kj108 a0 t223 _ _ t224 t227 _ _ t228 t231 t232 t235 _ ?side1 ?side2 ?side3 ?side4 A174.1).mono ?_
     (case side1 => exact CB (R_reads' HO226.1).2.2)
     (case side2 => exact (R_reads' HO226.1).2.1)
     (case side3 => exact CB (R_reads' HO230.1).2.2)
     (case side4 => exact (R_reads' HO230.1).2.1)
     rintro e w191 ⟨v233, rfl, ho0, hb⟩
     refine ⟨_, rfl, ?_⟩
     refine E15 (R_elder' (PR HO_188001.1) (R_base ho0) hb) (R_elder' (PR HO_193001.1) (R_base ho0) hb) (R_elder' (PR HO_198001.1) (R_base ho0) hb) (R_elder' (PR HO_204001.1) (R_base ho0) hb) (R_elder' (PR HO226.1) (R_base ho0) hb) (R_elder' (PR HO230.1) (R_base ho0) hb) (R_lower (R_new' (R_new' (R_new' (R_new' (R_new' (R_new' ho0 (R_lt (PR HO_188001.1))) (R_lt (PR HO_193001.1))) (R_lt (PR HO_198001.1))) (R_lt (PR HO_204001.1))) (R_lt (PR HO226.1))) (R_lt (PR HO230.1))) (bZ HB.1)) (bB BK170.1 hb) (bB BK171.1 hb) (bB BK187.1 hb) (bB BK192.1 hb) (bB BK197.1 hb) (bB BK203.1 hb) (bB BK236.1 hb) (bS HB.1 hb) ?_
     clear HO_188001 HO_193001 HO_198001 HO_204001 HO226 HO230 BK170 BK171 BK187 BK192 BK197 BK203 BK236 HB
     intro HO_188001 HO_193001 HO_198001 HO_204001 HO226 HO230 HO234 BK170 BK171 BK187 BK192 BK197 BK203 BK236 HB
     (try clear hb)
     (try clear hb2)
     (try clear hk)
     (try clear hi)
     (try clear ho0)
     refine hK.out _ _ ⟨(blk_cell BK170.1 0).trans rfl, (blk_cell BK170.1 1).trans rfl, (blk_cell BK171.1 0).trans rfl, (blk_cell BK171.1 1).trans rfl⟩ (fun hHeld => ?_)
     clear hK K
     refine norm_ (a' := ?_) ?_ ?_
     rotate_left
     · show Act.put _ (some 104) _ = _
       simp only [Act.put, List.setIfInBounds_toArray, List.set_cons_zero, List.set_cons_succ, i64_w, i32_w]
       rfl
     refine pureF 6 (N := some 98) HT_.1 ?_
     refine pureF 7 (N := some 105) HT_.1 ?_
     refine pureF 8 (N := some 106) HT_.1 ?_
     exact norm_ NA (hCont (.slice Ao189 t224.length co189, .slice Ao190 t228.length co190, v233, gb236) _ ⟨hHeld, (RPE (R_mono HO226.1 (fun _ hk => ⟨hk.1.2, ⟨hk.2, ⟨hk.1.1.1.1.1.2, ⟨hk.1.1.1.1.2, ⟨hk.1.1.1.2, hk.1.1.2⟩⟩⟩⟩⟩))), (RPE (R_mono HO230.1 (fun _ hk => ⟨hk.1.2, ⟨hk.2, ⟨hk.1.1.1.1.1.2, ⟨hk.1.1.1.1.2, ⟨hk.1.1.1.2, hk.1.1.2⟩⟩⟩⟩⟩))), (RPE (R_mono HO234.1 (fun _ hk => ⟨hk.1.2, ⟨hk.2, ⟨hk.1.1.1.1.1.2, ⟨hk.1.1.1.1.2, ⟨hk.1.1.1.2, hk.1.1.2⟩⟩⟩⟩⟩))), (RPE (R_mono HO_188001.1 (fun _ hk => ⟨hk.1.1.2, ⟨hk.1.2, ⟨hk.2, ⟨hk.1.1.1.1, ⟨hk.1.1.1.2.1, hk.1.1.1.2.2⟩⟩⟩⟩⟩))), (RPE (R_mono HO_193001.1 (fun _ hk => ⟨hk.1.1.2, ⟨hk.1.2, ⟨hk.2, ⟨hk.1.1.1.1, ⟨hk.1.1.1.2.1, hk.1.1.1.2.2⟩⟩⟩⟩⟩))), (RPE (R_mono HO_198001.1 (fun _ hk => ⟨hk.1.1.2, ⟨hk.1.2, ⟨hk.2, ⟨hk.1.1.1.1, ⟨hk.1.1.1.2.1, hk.1.1.1.2.2⟩⟩⟩⟩⟩))), (RPE (R_mono HO_204001.1 (fun _ hk => ⟨hk.1.1.2, ⟨hk.1.2, ⟨hk.2, ⟨hk.1.1.1.1, ⟨hk.1.1.1.2.1, hk.1.1.1.2.2⟩⟩⟩⟩⟩))), (PB BK170.1), (PB BK171.1), (PB BK187.1), (PB BK192.1), (PB BK197.1), (PB BK203.1), (PB BK236.1), GW236.1, GE236.1, NB170_236.1, NB236_170.1, NB171_236.1, NB236_171.1, NB187_236.1, NB236_187.1, NB192_236.1, NB236_192.1, NB197_236.1, NB236_197.1, NB203_236.1, NB236_203.1, (BL HB.1)⟩)
   skip
   refine box_step ?hg (N := 17) ?hd (cs := #[.int .i64 0, .slice none 0 0]) (t := 26) ?hr ?_; (case hd => rfl); (case hg => rfl); (case hr => first | (go_simp; done) | (go_simp; rfl))
   intro gb236 hg w186 hbox hb
   have n0_ := Aside0.mk (rB HO_188001.1 hb)
   have n1_ := Aside0.mk (rB HO_193001.1 hb)
   have n2_ := Aside0.mk (rB HO_198001.1 hb)
   have n3_ := Aside0.mk (rB HO_204001.1 hb)
   have n4_ := Aside0.mk (bB BK170.1 hb)
   have n5_ := Aside0.mk (bB BK171.1 hb)
   have n6_ := Aside0.mk (bB BK187.1 hb)
   have n7_ := Aside0.mk (bB BK192.1 hb)
   have n8_ := Aside0.mk (bB BK197.1 hb)
   have n9_ := Aside0.mk (bB BK203.1 hb)
   have n10_ := Aside0.mk (bS HB.1 hb)
   have n11_ := Aside0.mk (hbox)
   have n12_ := Aside0.mk (gX HB.1 hg)
   have n13_ := Aside0.mk (gX HB.1 hg)
   have n14_ := Aside0.mk (nB BK170.1 hg)
   have n15_ := Aside0.mk (nC BK170.1 hg)
   have n16_ := Aside0.mk (nB BK171.1 hg)
   have n17_ := Aside0.mk (nC BK171.1 hg)
   have n18_ := Aside0.mk (nB BK187.1 hg)
   have n19_ := Aside0.mk (nC BK187.1 hg)
   have n20_ := Aside0.mk (nB BK192.1 hg)
   have n21_ := Aside0.mk (nC BK192.1 hg)
   have n22_ := Aside0.mk (nB BK197.1 hg)
   have n23_ := Aside0.mk (nC BK197.1 hg)
   have n24_ := Aside0.mk (nB BK203.1 hg)
   have n25_ := Aside0.mk (nC BK203.1 hg)
   clear HO_188001
   clear HO_193001
   clear HO_198001
   clear HO_204001
   clear BK170
   clear BK171
   clear BK187
   clear BK192
   clear BK197
   clear BK203
   clear HB
   have HO_188001 := n0_
   have HO_193001 := n1_
   have HO_198001 := n2_
   have HO_204001 := n3_
   have BK170 := n4_
   have BK171 := n5_
   have BK187 := n6_
   have BK192 := n7_
   have BK197 := n8_
   have BK203 := n9_
   have HB := n10_
   have BK236 := n11_
   have GW236 := n12_
   have GE236 := n13_
   have NB170_236 := n14_
   have NB236_170 := n15_
   have NB171_236 := n16_
   have NB236_171 := n17_
   have NB187_236 := n18_
   have NB236_187 := n19_
   have NB192_236 := n20_
   have NB236_192 := n21_
   have NB197_236 := n22_
   have NB236_197 := n23_
   have NB203_236 := n24_
   have NB236_203 := n25_
   clear n0_ n1_ n2_ n3_ n4_ n5_ n6_ n7_ n8_ n9_ n10_ n11_ n12_ n13_ n14_ n15_ n16_ n17_ n18_ n19_ n20_ n21_ n22_ n23_ n24_ n25_
   clear hb hbox hg
   refine hK.out _ _ ⟨(blk_cell BK170.1 0).trans rfl, (blk_cell BK170.1 1).trans rfl, (blk_cell BK171.1 0).trans rfl, (blk_cell BK171.1 1).trans rfl⟩ (fun hHeld => ?_)
   clear hK K
   refine norm_ (a' := ?_) ?_ ?_
   rotate_left
   · show Act.put _ (some 17) _ = _
     simp only [Act.put, List.setIfInBounds_toArray, List.set_cons_zero, List.set_cons_succ, i64_w, i32_w]
     rfl
   refine one_ (i := 2) (N := some 101) #[Yy,Yy,Yy,Yy,Zz,Zz,Zz,Zz,Zz,Yy,Zz,Zz] rfl rfl (one_of HT_.1 (by kernel_rfl)) (by decide) (fun K hK => ?_)
   refine goes_ Try.func6 (by kernel_rfl) rfl #[.agg #[.int .i64 a1_0, .slice A1_1 l1_1.length c1_1]] (by rfl) rfl rfl (by (try simp only [List.map_toArray, List.map_cons, List.map_nil]); first | done | rfl | (simp only [List.length_drop, List.length_take]; rfl)) ?_
   with_reducible refine (laws_toTable.calls kj108 a1_0 _ _ l1_1 t223 t224 _ ?side1 ?side2 A172.1).mono ?_
   (case side1 => exact CB (C_below HR1_1.1 HB.1))
   (case side2 => exact HC1_1.1)
   rintro e w187 ⟨v225, rfl, ho0, hb⟩
   refine ⟨_, rfl, ?_⟩
   refine E13 (R_elder' (PR HO_188001.1) (R_base ho0) hb) (R_elder' (PR HO_193001.1) (R_base ho0) hb) (R_elder' (PR HO_198001.1) (R_base ho0) hb) (R_elder' (PR HO_204001.1) (R_base ho0) hb) (R_lower (R_new' (R_new' (R_new' (R_new' ho0 (R_lt (PR HO_188001.1))) (R_lt (PR HO_193001.1))) (R_lt (PR HO_198001.1))) (R_lt (PR HO_204001.1))) (bZ HB.1)) (bB BK170.1 hb) (bB BK171.1 hb) (bB BK187.1 hb) (bB BK192.1 hb) (bB BK197.1 hb) (bB BK203.1 hb) (bB BK236.1 hb) (bS HB.1 hb) ?_
   clear HO_188001 HO_193001 HO_198001 HO_204001 BK170 BK171 BK187 BK192 BK197 BK203 BK236 HB
   intro HO_188001 HO_193001 HO_198001 HO_204001 HO226 BK170 BK171 BK187 BK192 BK197 BK203 BK236 HB
   (try clear hb)
   (try clear hb2)
   (try clear hk)
   (try clear hi)
   (try clear ho0)
   refine hK.out _ _ ⟨(blk_cell BK170.1 0).trans rfl, (blk_cell BK170.1 1).trans rfl, (blk_cell BK171.1 0).trans rfl, (blk_cell BK171.1 1).trans rfl⟩ (fun hHeld => ?_)
   clear hK K
   refine norm_ (a' := ?_) ?_ ?_
   rotate_left
   · show Act.put _ (some 101) _ = _
     simp only [Act.put, List.setIfInBounds_toArray, List.set_cons_zero, List.set_cons_succ, i64_w, i32_w]
     rfl
   refine one_ (i := 4) (N := some 103) #[Yy,Yy,Yy,Yy,Yy,Zz,Zz,Zz,Zz,Yy,Zz,Zz] rfl rfl (one_of HT_.1 (by kernel_rfl)) (by decide) (fun K hK => ?_)
   refine goes_ Try.func6 (by kernel_rfl) rfl #[.agg #[.int .i64 a2_0, .slice A2_1 l2_1.length c2_1]] (by rfl) rfl rfl (by (try simp only [List.map_toArray, List.map_cons, List.map_nil]); first | done | rfl | (simp only [List.length_drop, List.length_take]; rfl)) ?_
   with_reducible refine (laws_toTable.calls kj108 a2_0 _ _ l2_1 t227 t228 _ ?side1 ?side2 A173.1).mono ?_
   (case side1 => exact CB (C_below HR2_1.1 HB.1))
   (case side2 => exact HC2_1.1)
   rintro e w188 ⟨v229, rfl, ho0, hb⟩
   refine ⟨_, rfl, ?_⟩
   refine E14 (R_elder' (PR HO_188001.1) (R_base ho0) hb) (R_elder' (PR HO_193001.1) (R_base ho0) hb) (R_elder' (PR HO_198001.1) (R_base ho0) hb) (R_elder' (PR HO_204001.1) (R_base ho0) hb) (R_elder' (PR HO226.1) (R_base ho0) hb) (R_lower (R_new' (R_new' (R_new' (R_new' (R_new' ho0 (R_lt (PR HO_188001.1))) (R_lt (PR HO_193001.1))) (R_lt (PR HO_198001.1))) (R_lt (PR HO_204001.1))) (R_lt (PR HO226.1))) (bZ HB.1)) (bB BK170.1 hb) (bB BK171.1 hb) (bB BK187.1 hb) (bB BK192.1 hb) (bB BK197.1 hb) (bB BK203.1 hb) (bB BK236.1 hb) (bS HB.1 hb) ?_
   clear HO_188001 HO_193001 HO_198001 HO_204001 HO226 BK170 BK171 BK187 BK192 BK197 BK203 BK236 HB
   intro HO_188001 HO_193001 HO_198001 HO_204001 HO226 HO230 BK170 BK171 BK187 BK192 BK197 BK203 BK236 HB
   (try clear hb)
   (try clear hb2)
   (try clear hk)
   (try clear hi)
   (try clear ho0)
   obtain ⟨Ao189, co189, eo189⟩ := R_slice HO226.1
   (first | subst eo189 | (injection eo189 with f1_ f2_ f3_; have f4_ := f1_.symm; have f5_ := f3_.symm; clear f1_ f2_ f3_; subst f4_; subst f5_))
   obtain ⟨Ao190, co190, eo190⟩ := R_slice HO230.1
   (first | subst eo190 | (injection eo190 with f1_ f2_ f3_; have f4_ := f1_.symm; have f5_ := f3_.symm; clear f1_ f2_ f3_; subst f4_; subst f5_))
   refine hK.out _ _ ⟨(blk_cell BK170.1 0).trans rfl, (blk_cell BK170.1 1).trans rfl, (blk_cell BK171.1 0).trans rfl, (blk_cell BK171.1 1).trans rfl⟩ (fun hHeld => ?_)
   clear hK K
   refine norm_ (a' := ?_) ?_ ?_
   rotate_left
   · show Act.put _ (some 103) _ = _
     simp only [Act.put, List.setIfInBounds_toArray, List.set_cons_zero, List.set_cons_succ, i64_w, i32_w]
     rfl
   refine one_ (i := 5) (N := some 104) #[Yy,Yy,Yy,Yy,Yy,Yy,Zz,Zz,Zz,Yy,Zz,Zz] rfl rfl (one_of HT_.1 (by kernel_rfl)) (by decide) (fun K hK => ?_)
   refine goes_ Try.func7 (by kernel_rfl) rfl #[.int .i64 a0, .agg #[.int .i64 t223, .slice Ao189 t224.length co189], .agg #[.int .i64 t227, .slice Ao190 t228.length co190]] (by rfl) rfl rfl (by (try simp only [List.map_toArray, List.map_cons, List.map_nil]); first | done | rfl | (simp only [List.length_drop, List.length_take]; rfl)) ?_
   with_reducible refine (impl_CombineTables.calls kj108 a0 t223 _ _ t224 t227 _ _ t228 t231 t232 t235 _ ?side1 ?side2 ?side3 ?side4 A174.1).mono ?_
   (case side1 => exact CB (R_reads' HO226.1).2.2)
   (case side2 => exact (R_reads' HO226.1).2.1)
   (case side3 => exact CB (R_reads' HO230.1).2.2)
   (case side4 => exact (R_reads' HO230.1).2.1)
   rintro e w191 ⟨v233, rfl, ho0, hb⟩
   refine ⟨_, rfl, ?_⟩
   refine E15 (R_elder' (PR HO_188001.1) (R_base ho0) hb) (R_elder' (PR HO_193001.1) (R_base ho0) hb) (R_elder' (PR HO_198001.1) (R_base ho0) hb) (R_elder' (PR HO_204001.1) (R_base ho0) hb) (R_elder' (PR HO226.1) (R_base ho0) hb) (R_elder' (PR HO230.1) (R_base ho0) hb) (R_lower (R_new' (R_new' (R_new' (R_new' (R_new' (R_new' ho0 (R_lt (PR HO_188001.1))) (R_lt (PR HO_193001.1))) (R_lt (PR HO_198001.1))) (R_lt (PR HO_204001.1))) (R_lt (PR HO226.1))) (R_lt (PR HO230.1))) (bZ HB.1)) (bB BK170.1 hb) (bB BK171.1 hb) (bB BK187.1 hb) (bB BK192.1 hb) (bB BK197.1 hb) (bB BK203.1 hb) (bB BK236.1 hb) (bS HB.1 hb) ?_
   clear HO_188001 HO_193001 HO_198001 HO_204001 HO226 HO230 BK170 BK171 BK187 BK192 BK197 BK203 BK236 HB
   intro HO_188001 HO_193001 HO_198001 HO_204001 HO226 HO230 HO234 BK170 BK171 BK187 BK192 BK197 BK203 BK236 HB
   (try clear hb)
   (try clear hb2)
   (try clear hk)
   (try clear hi)
   (try clear ho0)
   refine hK.out _ _ ⟨(blk_cell BK170.1 0).trans rfl, (blk_cell BK170.1 1).trans rfl, (blk_cell BK171.1 0).trans rfl, (blk_cell BK171.1 1).trans rfl⟩ (fun hHeld => ?_)
   clear hK K
   refine norm_ (a' := ?_) ?_ ?_
   rotate_left
   · show Act.put _ (some 104) _ = _
     simp only [Act.put, List.setIfInBounds_toArray, List.set_cons_zero, List.set_cons_succ, i64_w, i32_w]
     rfl
   refine pureF 6 (N := some 98) HT_.1 ?_
   refine pureF 7 (N := some 105) HT_.1 ?_
   refine pureF 8 (N := some 106) HT_.1 ?_
   exact norm_ NA (hCont (.slice Ao189 t224.length co189, .slice Ao190 t228.length co190, v233, gb236) _ ⟨hHeld, (RPE (R_mono HO226.1 (fun _ hk => ⟨hk.1.2, ⟨hk.2, ⟨hk.1.1.1.1.1.2, ⟨hk.1.1.1.1.2, ⟨hk.1.1.1.2, hk.1.1.2⟩⟩⟩⟩⟩))), (RPE (R_mono HO230.1 (fun _ hk => ⟨hk.1.2, ⟨hk.2, ⟨hk.1.1.1.1.1.2, ⟨hk.1.1.1.1.2, ⟨hk.1.1.1.2, hk.1.1.2⟩⟩⟩⟩⟩))), (RPE (R_mono HO234.1 (fun _ hk => ⟨hk.1.2, ⟨hk.2, ⟨hk.1.1.1.1.1.2, ⟨hk.1.1.1.1.2, ⟨hk.1.1.1.2, hk.1.1.2⟩⟩⟩⟩⟩))), (RPE (R_mono HO_188001.1 (fun _ hk => ⟨hk.1.1.2, ⟨hk.1.2, ⟨hk.2, ⟨hk.1.1.1.1, ⟨hk.1.1.1.2.1, hk.1.1.1.2.2⟩⟩⟩⟩⟩))), (RPE (R_mono HO_193001.1 (fun _ hk => ⟨hk.1.1.2, ⟨hk.1.2, ⟨hk.2, ⟨hk.1.1.1.1, ⟨hk.1.1.1.2.1, hk.1.1.1.2.2⟩⟩⟩⟩⟩))), (RPE (R_mono HO_198001.1 (fun _ hk => ⟨hk.1.1.2, ⟨hk.1.2, ⟨hk.2, ⟨hk.1.1.1.1, ⟨hk.1.1.1.2.1, hk.1.1.1.2.2⟩⟩⟩⟩⟩))), (RPE (R_mono HO_204001.1 (fun _ hk => ⟨hk.1.1.2, ⟨hk.1.2, ⟨hk.2, ⟨hk.1.1.1.1, ⟨hk.1.1.1.2.1, hk.1.1.1.2.2⟩⟩⟩⟩⟩))), (PB BK170.1), (PB BK171.1), (PB BK187.1), (PB BK192.1), (PB BK197.1), (PB BK203.1), (PB BK236.1), GW236.1, GE236.1, NB170_236.1, NB236_170.1, NB171_236.1, NB236_171.1, NB187_236.1, NB236_187.1, NB192_236.1, NB236_192.1, NB197_236.1, NB236_197.1, NB203_236.1, NB236_203.1, (BL HB.1)⟩)
 rintro ⟨v225, v229, v233, gb236⟩ w192 ⟨hS_, h0_, h1_, h2_, h3_, h4_, h5_, h6_, h7_, h8_, h9_, h10_, h11_, h12_, h13_, h14_, h15_, h16_, h17_, h18_, h19_, h20_, h21_, h22_, h23_, h24_, h25_, h26_, h27_, h28_⟩
 have n0_ : Aside0 (Kd.R (Kd.int .i64) 3 w192 w.heap.size (fun k_ => some k_ ≠ (v229 : Value).ownBlock /\ some k_ ≠ (v233 : Value).ownBlock /\ some k_ ≠ (.slice Ao43 t183.length co43 : Value).ownBlock /\ some k_ ≠ (.slice Ao53 t216.length co53 : Value).ownBlock /\ some k_ ≠ (.slice Ao63 t218.length co63 : Value).ownBlock /\ some k_ ≠ (.slice Ao73 t199.length co73 : Value).ownBlock) v225 t224) := ⟨h0_⟩
 have n1_ : Aside0 (Kd.R (Kd.int .i64) 3 w192 w.heap.size (fun k_ => some k_ ≠ (v225 : Value).ownBlock /\ some k_ ≠ (v233 : Value).ownBlock /\ some k_ ≠ (.slice Ao43 t183.length co43 : Value).ownBlock /\ some k_ ≠ (.slice Ao53 t216.length co53 : Value).ownBlock /\ some k_ ≠ (.slice Ao63 t218.length co63 : Value).ownBlock /\ some k_ ≠ (.slice Ao73 t199.length co73 : Value).ownBlock) v229 t228) := ⟨h1_⟩
 have n2_ : Aside0 (Kd.R (Kd.int .i64) 3 w192 w.heap.size (fun k_ => some k_ ≠ (v225 : Value).ownBlock /\ some k_ ≠ (v229 : Value).ownBlock /\ some k_ ≠ (.slice Ao43 t183.length co43 : Value).ownBlock /\ some k_ ≠ (.slice Ao53 t216.length co53 : Value).ownBlock /\ some k_ ≠ (.slice Ao63 t218.length co63 : Value).ownBlock /\ some k_ ≠ (.slice Ao73 t199.length co73 : Value).ownBlock) v233 t232) := ⟨h2_⟩
 have n3_ : Aside0 (Kd.R (Kd.int .i64) 3 w192 w.heap.size (fun k_ => some k_ ≠ (v225 : Value).ownBlock /\ some k_ ≠ (v229 : Value).ownBlock /\ some k_ ≠ (v233 : Value).ownBlock /\ some k_ ≠ (.slice Ao53 t216.length co53 : Value).ownBlock /\ some k_ ≠ (.slice Ao63 t218.length co63 : Value).ownBlock /\ some k_ ≠ (.slice Ao73 t199.length co73 : Value).ownBlock) (.slice Ao43 t183.length co43) t183) := ⟨h3_⟩
 have n4_ : Aside0 (Kd.R (Kd.int .i64) 3 w192 w.heap.size (fun k_ => some k_ ≠ (v225 : Value).ownBlock /\ some k_ ≠ (v229 : Value).ownBlock /\ some k_ ≠ (v233 : Value).ownBlock /\ some k_ ≠ (.slice Ao43 t183.length co43 : Value).ownBlock /\ some k_ ≠ (.slice Ao63 t218.length co63 : Value).ownBlock /\ some k_ ≠ (.slice Ao73 t199.length co73 : Value).ownBlock) (.slice Ao53 t216.length co53) t216) := ⟨h4_⟩
 have n5_ : Aside0 (Kd.R (Kd.int .i64) 3 w192 w.heap.size (fun k_ => some k_ ≠ (v225 : Value).ownBlock /\ some k_ ≠ (v229 : Value).ownBlock /\ some k_ ≠ (v233 : Value).ownBlock /\ some k_ ≠ (.slice Ao43 t183.length co43 : Value).ownBlock /\ some k_ ≠ (.slice Ao53 t216.length co53 : Value).ownBlock /\ some k_ ≠ (.slice Ao73 t199.length co73 : Value).ownBlock) (.slice Ao63 t218.length co63) t218) := ⟨h5_⟩
 have n6_ : Aside0 (Kd.R (Kd.int .i64) 3 w192 w.heap.size (fun k_ => some k_ ≠ (v225 : Value).ownBlock /\ some k_ ≠ (v229 : Value).ownBlock /\ some k_ ≠ (v233 : Value).ownBlock /\ some k_ ≠ (.slice Ao43 t183.length co43 : Value).ownBlock /\ some k_ ≠ (.slice Ao53 t216.length co53 : Value).ownBlock /\ some k_ ≠ (.slice Ao63 t218.length co63 : Value).ownBlock) (.slice Ao73 t199.length co73) t221) := ⟨h6_⟩
 have n7_ : Aside0 (w192.heap[gb170]? = some (.cells #[.int .i64 a1_0, .slice A1_1 l1_1.length c1_1] 24 (0, 0))) := ⟨h7_⟩
 have n8_ : Aside0 (w192.heap[gb171]? = some (.cells #[.int .i64 a2_0, .slice A2_1 l2_1.length c2_1] 24 (0, 0))) := ⟨h8_⟩
 have n9_ : Aside0 (w192.heap[gb187]? = some (.cells #[.int .i64 t182, .slice Ao43 t183.length co43] 26 (0, 0))) := ⟨h9_⟩
 have n10_ : Aside0 (w192.heap[gb192]? = some (.cells #[.int .i64 t188, .slice Ao53 t216.length co53] 26 (0, 0))) := ⟨h10_⟩
 have n11_ : Aside0 (w192.heap[gb197]? = some (.cells #[.int .i64 t193, .slice Ao63 t218.length co63] 26 (0, 0))) := ⟨h11_⟩
 have n12_ : Aside0 (w192.heap[gb203]? = some (.cells #[.int .i64 t198, .slice Ao73 t199.length co73] 26 (0, 0))) := ⟨h12_⟩
 have n13_ : Aside0 (w192.heap[gb236]? = some (.cells #[.int .i64 0, .slice none 0 0] 26 (0, 0))) := ⟨h13_⟩
 have n14_ : Aside0 (w.heap.size <= gb236) := ⟨h14_⟩
 have n15_ : Aside0 (w.heap.size <= gb236) := ⟨h15_⟩
 have n16_ : Aside0 (gb170 ≠ gb236) := ⟨h16_⟩
 have n17_ : Aside0 (gb236 ≠ gb170) := ⟨h17_⟩
 have n18_ : Aside0 (gb171 ≠ gb236) := ⟨h18_⟩
 have n19_ : Aside0 (gb236 ≠ gb171) := ⟨h19_⟩
 have n20_ : Aside0 (gb187 ≠ gb236) := ⟨h20_⟩
 have n21_ : Aside0 (gb236 ≠ gb187) := ⟨h21_⟩
 have n22_ : Aside0 (gb192 ≠ gb236) := ⟨h22_⟩
 have n23_ : Aside0 (gb236 ≠ gb192) := ⟨h23_⟩
 have n24_ : Aside0 (gb197 ≠ gb236) := ⟨h24_⟩
 have n25_ : Aside0 (gb236 ≠ gb197) := ⟨h25_⟩
 have n26_ : Aside0 (gb203 ≠ gb236) := ⟨h26_⟩
 have n27_ : Aside0 (gb236 ≠ gb203) := ⟨h27_⟩
 have n28_ : Aside0 (Below w.heap.size w w192) := ⟨h28_⟩
 clear HO_188001
 clear HO_193001
 clear HO_198001
 clear HO_204001
 clear BK170
 clear BK171
 clear BK187
 clear BK192
 clear BK197
 clear BK203
 clear HB
 clear h0_ h1_ h2_ h3_ h4_ h5_ h6_ h7_ h8_ h9_ h10_ h11_ h12_ h13_ h14_ h15_ h16_ h17_ h18_ h19_ h20_ h21_ h22_ h23_ h24_ h25_ h26_ h27_ h28_
 have HO226 := n0_
 have HO230 := n1_
 have HO234 := n2_
 have HO_188001 := n3_
 have HO_193001 := n4_
 have HO_198001 := n5_
 have HO_204001 := n6_
 have BK170 := n7_
 have BK171 := n8_
 have BK187 := n9_
 have BK192 := n10_
 have BK197 := n11_
 have BK203 := n12_
 have BK236 := n13_
 have GW236 := n14_
 have GE236 := n15_
 have NB170_236 := n16_
 have NB236_170 := n17_
 have NB171_236 := n18_
 have NB236_171 := n19_
 have NB187_236 := n20_
 have NB236_187 := n21_
 have NB192_236 := n22_
 have NB236_192 := n23_
 have NB197_236 := n24_
 have NB236_197 := n25_
 have NB203_236 := n26_
 have NB236_203 := n27_
 have HB := n28_
 clear n0_ n1_ n2_ n3_ n4_ n5_ n6_ n7_ n8_ n9_ n10_ n11_ n12_ n13_ n14_ n15_ n16_ n17_ n18_ n19_ n20_ n21_ n22_ n23_ n24_ n25_ n26_ n27_ n28_
 have hHeld : w192.cell? ⟨gb170, 0, none⟩ = some (.int .i64 a1_0) /\ w192.cell? ⟨gb170, 1, none⟩ = some (.slice A1_1 l1_1.length c1_1) /\ w192.cell? ⟨gb171, 0, none⟩ = some (.int .i64 a2_0) /\ w192.cell? ⟨gb171, 1, none⟩ = some (.slice A2_1 l2_1.length c2_1) := hS_
 obtain ⟨Ao194, co194, eo194⟩ := R_slice HO234.1
 (first | subst eo194 | (injection eo194 with f1_ f2_ f3_; have f4_ := f1_.symm; have f5_ := f3_.symm; clear f1_ f2_ f3_; subst f4_; subst f5_))
 refine norm_ (a' := ?_) ?_ ?_
 rotate_left
 · simp only [putAll, Act.put, List.setIfInBounds_toArray, List.set_cons_zero, List.set_cons_succ]
   rfl
 refine one_ (i := 10) (N := none) #[Yy,Yy,Yy,Yy,Yy,Yy,Yy,Yy,Yy,Yy,Yy,Zz] rfl rfl (one_of HT_.1 (by kernel_rfl)) (by decide) (fun K hK => ?_)
 obtain ⟨hs193, hs195, hfs193, hfs195⟩ := cz2 BK236.1
 have hns193_0 := NB170_236.1
 have hns193_1 := NB171_236.1
 have hns193_2 := NB187_236.1
 have hns193_3 := NB192_236.1
 have hns193_4 := NB197_236.1
 have hns193_5 := NB203_236.1
 have hms193_0 := NB236_170.1
 have hms193_1 := NB236_171.1
 have hms193_2 := NB236_187.1
 have hms193_3 := NB236_192.1
 have hms193_4 := NB236_197.1
 have hms193_5 := NB236_203.1
 refine skip_ (w1 := ?_) (by rfl) rfl ?_ ?_
 rotate_left
 · go_simp
   rfl
 refine hK.out _ _ ⟨(CF2 NB170_236.1 hHeld.1), (CF2 NB170_236.1 hHeld.2.1), (CF2 NB171_236.1 hHeld.2.2.1), (CF2 NB171_236.1 hHeld.2.2.2)⟩ (fun hHeld => ?_)
 clear hK K
 refine pureF 11 (N := some 18) HT_.1 ?_
 refine done_ (done_of HT_.1 (by kernel_rfl)) ?_
 go_upto_region 32 with (fail)
 go_cut [115] (fun v115 wc => ∃ (kq : Nat) (x115_174 : Bool), v115 = .bool x115_174 /\ Aside0 (laws_FnExactCombineTables.j2 kq t220 x115_174 t198 t221 = some true) /\ Aside0 (kq <= kj108) /\ Aside0 (Kd.R (Kd.int .i64) 3 wc w.heap.size (fun k_ => some k_ ≠ ((.slice Ao53 t216.length co53) : Value).ownBlock /\ some k_ ≠ ((.slice Ao63 t218.length co63) : Value).ownBlock /\ some k_ ≠ ((.slice Ao73 t199.length co73) : Value).ownBlock /\ some k_ ≠ ((.slice Ao194 t232.length co194) : Value).ownBlock) (.slice Ao43 t183.length co43) t183) /\ Aside0 (Kd.R (Kd.int .i64) 3 wc w.heap.size (fun k_ => some k_ ≠ ((.slice Ao43 t183.length co43) : Value).ownBlock /\ some k_ ≠ ((.slice Ao63 t218.length co63) : Value).ownBlock /\ some k_ ≠ ((.slice Ao73 t199.length co73) : Value).ownBlock /\ some k_ ≠ ((.slice Ao194 t232.length co194) : Value).ownBlock) (.slice Ao53 t216.length co53) t216) /\ Aside0 (Kd.R (Kd.int .i64) 3 wc w.heap.size (fun k_ => some k_ ≠ ((.slice Ao43 t183.length co43) : Value).ownBlock /\ some k_ ≠ ((.slice Ao53 t216.length co53) : Value).ownBlock /\ some k_ ≠ ((.slice Ao73 t199.length co73) : Value).ownBlock /\ some k_ ≠ ((.slice Ao194 t232.length co194) : Value).ownBlock) (.slice Ao63 t218.length co63) t218) /\ Aside0 (Kd.R (Kd.int .i64) 3 wc w.heap.size (fun k_ => some k_ ≠ ((.slice Ao43 t183.length co43) : Value).ownBlock /\ some k_ ≠ ((.slice Ao53 t216.length co53) : Value).ownBlock /\ some k_ ≠ ((.slice Ao63 t218.length co63) : Value).ownBlock /\ some k_ ≠ ((.slice Ao194 t232.length co194) : Value).ownBlock) (.slice Ao73 t199.length co73) t221) /\ Aside0 (Kd.R (Kd.int .i64) 3 wc w.heap.size (fun k_ => some k_ ≠ ((.slice Ao43 t183.length co43) : Value).ownBlock /\ some k_ ≠ ((.slice Ao53 t216.length co53) : Value).ownBlock /\ some k_ ≠ ((.slice Ao63 t218.length co63) : Value).ownBlock /\ some k_ ≠ ((.slice Ao73 t199.length co73) : Value).ownBlock) (.slice Ao194 t232.length co194) t232) /\ Aside0 (wc.heap[gb170]? = some (.cells #[.int .i64 a1_0, (.slice A1_1 l1_1.length c1_1)] 24 (0, 0))) /\ Aside0 (wc.heap[gb171]? = some (.cells #[.int .i64 a2_0, (.slice A2_1 l2_1.length c2_1)] 24 (0, 0))) /\ Aside0 (wc.heap[gb187]? = some (.cells #[.int .i64 t182, (.slice Ao43 t183.length co43)] 26 (0, 0))) /\ Aside0 (wc.heap[gb192]? = some (.cells #[.int .i64 t188, (.slice Ao53 t216.length co53)] 26 (0, 0))) /\ Aside0 (wc.heap[gb197]? = some (.cells #[.int .i64 t193, (.slice Ao63 t218.length co63)] 26 (0, 0))) /\ Aside0 (wc.heap[gb203]? = some (.cells #[.int .i64 t198, (.slice Ao73 t199.length co73)] 26 (0, 0))) /\ Aside0 (wc.heap[gb236]? = some (.cells #[.int .i64 t231, (.slice Ao194 t232.length co194)] 26 (0, 0))) /\ Aside0 (Below w.heap.size w wc))
 case first =>
  have H := HC175.1
  clear HC175
  replace H := bindA H; obtain ⟨t237, A196, H⟩ := H
  replace H := ifT H (by cases kj108 <;> simp [laws_FnExactCombineTables.j2]); obtain ⟨rfl, H⟩ := H
  have H' := Aside0.mk H
  clear H
  obtain ⟨hcz204_0, hcz204_1, hfz204_0, hfz204_1⟩ := cz2 BK236.1
  obtain ⟨hcz210_0, hcz210_1, hfz210_0, hfz210_1⟩ := cz2 BK187.1
  go_wp2_with (first | ((with_reducible refine gate_callee (f := 8) rfl ?_); refine goesM (N := (some 109)) #[.agg #[.int .i64 t231, .slice Ao194 t232.length co194], .agg #[.int .i64 t182, .slice Ao43 t183.length co43]] Try.func8 ?_; (with_reducible refine (laws_eqTable.calls kj108 t231 _ _ t232 t182 _ _ t183 true _ ?side1 ?side2 ?side3 ?side4 A196.1).mono ?_); (case side1 => refine (R_reads' (e := 3) (base := w.heap.size) (ok := fun k_ => (some k_ ≠ (v225 : Value).ownBlock /\ (some k_ ≠ (v229 : Value).ownBlock /\ (some k_ ≠ (.slice Ao43 t183.length co43 : Value).ownBlock /\ (some k_ ≠ (.slice Ao53 t216.length co53 : Value).ownBlock /\ (some k_ ≠ (.slice Ao63 t218.length co63 : Value).ownBlock /\ some k_ ≠ (.slice Ao73 t199.length co73 : Value).ownBlock)))))) (n := t232.length) (c := co194) ?_).2.2; exact (by (with_reducible repeat (first | apply R_alloc | apply R_drewN | apply R_drew)); exact (R_mono (RQ gb236 1 (RQ gb236 0 (R_types HO234.1 BK236.1 (by decide)) _) _) (fun _ h_ => h_.1)))); (case side2 => exact (R_reads' HO234.1).2.1); (case side3 => refine (R_reads' (e := 3) (base := w.heap.size) (ok := fun k_ => (some k_ ≠ (v225 : Value).ownBlock /\ (some k_ ≠ (v229 : Value).ownBlock /\ (some k_ ≠ (.slice Ao194 t232.length co194 : Value).ownBlock /\ (some k_ ≠ (.slice Ao53 t216.length co53 : Value).ownBlock /\ (some k_ ≠ (.slice Ao63 t218.length co63 : Value).ownBlock /\ some k_ ≠ (.slice Ao73 t199.length co73 : Value).ownBlock)))))) (n := t183.length) (c := co43) ?_).2.2; exact (by (with_reducible repeat (first | apply R_alloc | apply R_drewN | apply R_drew)); exact (R_mono (RQ gb236 1 (RQ gb236 0 (R_types HO_188001.1 BK236.1 (by decide)) _) _) (fun _ h_ => h_.1)))); (case side4 => exact (R_reads' HO_188001.1).2.1); rintro e w211 ⟨rfl, hb⟩; refine ⟨_, rfl, ?_⟩; refine E15 (R_below (by (with_reducible repeat (first | apply R_alloc | apply R_drewN | apply R_drew)); exact (R_mono (RQ gb236 1 (RQ gb236 0 (R_types HO_188001.1 BK236.1 (by decide)) _) _) (fun _ h_ => h_.1))) hb) (R_below (by (with_reducible repeat (first | apply R_alloc | apply R_drewN | apply R_drew)); exact (R_mono (RQ gb236 1 (RQ gb236 0 (R_types HO_193001.1 BK236.1 (by decide)) _) _) (fun _ h_ => h_.1))) hb) (R_below (by (with_reducible repeat (first | apply R_alloc | apply R_drewN | apply R_drew)); exact (R_mono (RQ gb236 1 (RQ gb236 0 (R_types HO_198001.1 BK236.1 (by decide)) _) _) (fun _ h_ => h_.1))) hb) (R_below (by (with_reducible repeat (first | apply R_alloc | apply R_drewN | apply R_drew)); exact (R_mono (RQ gb236 1 (RQ gb236 0 (R_types HO_204001.1 BK236.1 (by decide)) _) _) (fun _ h_ => h_.1))) hb) (R_below (by (with_reducible repeat (first | apply R_alloc | apply R_drewN | apply R_drew)); exact (R_mono (RQ gb236 1 (RQ gb236 0 (R_types HO226.1 BK236.1 (by decide)) _) _) (fun _ h_ => h_.1))) hb) (R_below (by (with_reducible repeat (first | apply R_alloc | apply R_drewN | apply R_drew)); exact (R_mono (RQ gb236 1 (RQ gb236 0 (R_types HO230.1 BK236.1 (by decide)) _) _) (fun _ h_ => h_.1))) hb) (R_below (by (with_reducible repeat (first | apply R_alloc | apply R_drewN | apply R_drew)); exact (R_mono (RQ gb236 1 (RQ gb236 0 (R_types HO234.1 BK236.1 (by decide)) _) _) (fun _ h_ => h_.1))) hb) (blk_below (g := gb170) (o := .cells #[.int .i64 a1_0, .slice A1_1 l1_1.length c1_1] 24 (0, 0)) (PF1 NB170_236.1 BK170.1) hb) (blk_below (g := gb171) (o := .cells #[.int .i64 a2_0, .slice A2_1 l2_1.length c2_1] 24 (0, 0)) (PF1 NB171_236.1 BK171.1) hb) (blk_below (g := gb187) (o := .cells #[.int .i64 t182, .slice Ao43 t183.length co43] 26 (0, 0)) (PF1 NB187_236.1 BK187.1) hb) (blk_below (g := gb192) (o := .cells #[.int .i64 t188, .slice Ao53 t216.length co53] 26 (0, 0)) (PF1 NB192_236.1 BK192.1) hb) (blk_below (g := gb197) (o := .cells #[.int .i64 t193, .slice Ao63 t218.length co63] 26 (0, 0)) (PF1 NB197_236.1 BK197.1) hb) (blk_below (g := gb203) (o := .cells #[.int .i64 t198, .slice Ao73 t199.length co73] 26 (0, 0)) (PF1 NB203_236.1 BK203.1) hb) (blk_below (g := gb236) (o := .cells #[.int .i64 t231, .slice Ao194 t232.length co194] 26 (0, 0)) (PF0 BK236.1) hb) (bS HB.1 hb) ?_; clear HO_188001 HO_193001 HO_198001 HO_204001 HO226 HO230 HO234 BK170 BK171 BK187 BK192 BK197 BK203 BK236 HB; intro HO_188001 HO_193001 HO_198001 HO_204001 HO226 HO230 HO234 BK170 BK171 BK187 BK192 BK197 BK203 BK236 HB; (try clear hb)))
  go_meet
  case rel => exact ⟨_, ((t235 != t186)), RG, H', ⟨by have := HJ25.1; have := HJ108.1; first | omega | exact Nat.le_refl _⟩, ⟨by (try simp only [hl193001_108]); (try simp only [hl198001_108]); (with_reducible repeat (first | apply R_alloc | apply R_drewN | apply R_drew)); exact R_mono HO_188001.1 (fun _ hk => ⟨hk.2.2.2.1, ⟨hk.2.2.2.2.1, ⟨hk.2.2.2.2.2, hk.2.2.1⟩⟩⟩)⟩, ⟨by (try simp only [hl193001_108]); (try simp only [hl198001_108]); (with_reducible repeat (first | apply R_alloc | apply R_drewN | apply R_drew)); exact R_mono HO_193001.1 (fun _ hk => ⟨hk.2.2.2.1, ⟨hk.2.2.2.2.1, ⟨hk.2.2.2.2.2, hk.2.2.1⟩⟩⟩)⟩, ⟨by (try simp only [hl193001_108]); (try simp only [hl198001_108]); (with_reducible repeat (first | apply R_alloc | apply R_drewN | apply R_drew)); exact R_mono HO_198001.1 (fun _ hk => ⟨hk.2.2.2.1, ⟨hk.2.2.2.2.1, ⟨hk.2.2.2.2.2, hk.2.2.1⟩⟩⟩)⟩, ⟨by (try simp only [hl193001_108]); (try simp only [hl198001_108]); (with_reducible repeat (first | apply R_alloc | apply R_drewN | apply R_drew)); exact R_mono HO_204001.1 (fun _ hk => ⟨hk.2.2.2.1, ⟨hk.2.2.2.2.1, ⟨hk.2.2.2.2.2, hk.2.2.1⟩⟩⟩)⟩, ⟨by (try simp only [hl193001_108]); (try simp only [hl198001_108]); (with_reducible repeat (first | apply R_alloc | apply R_drewN | apply R_drew)); exact R_mono HO234.1 (fun _ hk => ⟨hk.2.2.1, ⟨hk.2.2.2.1, ⟨hk.2.2.2.2.1, hk.2.2.2.2.2⟩⟩⟩)⟩, ⟨PB2 BK170.1 hl193001_108 hl198001_108⟩, ⟨PB2 BK171.1 hl193001_108 hl198001_108⟩, ⟨PB2 BK187.1 hl193001_108 hl198001_108⟩, ⟨PB2 BK192.1 hl193001_108 hl198001_108⟩, ⟨PB2 BK197.1 hl193001_108 hl198001_108⟩, ⟨PB2 BK203.1 hl193001_108 hl198001_108⟩, ⟨PB2 BK236.1 hl193001_108 hl198001_108⟩, ⟨BL HB.1⟩⟩
 clear HC175
 obtain ⟨kq, x115_174, rfl, HA, HJ174, HO_188001, HO_193001, HO_198001, HO_204001, HO_237001, BK170, BK171, BK187, BK192, BK197, BK203, BK236, HB⟩ := hcut
 have hl204001_174 := (R_reads' HO_204001.1).1
 rw [hl204001_174] at HO_204001
 (try simp only [hl204001_174])
 (try simp only [hl204001_174] at BK170)
 (try simp only [hl204001_174] at BK171)
 (try simp only [hl204001_174] at BK187)
 (try simp only [hl204001_174] at BK192)
 (try simp only [hl204001_174] at BK197)
 (try simp only [hl204001_174] at BK203)
 (try simp only [hl204001_174] at BK236)
 (try simp only [hl204001_174] at HO_188001)
 (try simp only [hl204001_174] at HO_193001)
 (try simp only [hl204001_174] at HO_198001)
 (try simp only [hl204001_174] at HO_237001)
 cases kq with
 | zero => exact absurd HA.1 (by simp [laws_FnExactCombineTables.j2])
 | succ kj174 => ?_
 have H := HA.1
 clear HA
 simp only [laws_FnExactCombineTables.j2] at H
 replace H := ifF H (by simp); obtain ⟨rfl, H⟩ := H
 replace H := bindA H; obtain ⟨t238, A227, H⟩ := H
 replace H := ifQ H; rcases H with ⟨c228, H⟩ | ⟨c228, H⟩
 · exact absurd H (by simp)
 have c228b0 := decide_eq_false c228
 clear c228
 first | replace H := ifP H | replace H := ifPf H
 obtain ⟨c237, H⟩ := H
 have c237b0 := beq_iff_eq.mpr c237
 have c237b1 := bne_eq_false_iff_eq.mpr c237
 clear c237
 first | (obtain rfl := Option.some.inj H) | clear H
 obtain ⟨hcz244_0, hcz244_1, hfz244_0, hfz244_1⟩ := cz2 BK203.1
 go_wp2_with (first | ((with_reducible refine gate_callee (f := 10) rfl ?_); refine goesM (N := (some 118)) #[.agg #[.int .i64 t198, .slice Ao73 t221.length co73], .int .i64 1] Try.func10 ?_; (with_reducible refine (laws_heldTable.calls kj174 t198 _ _ t221 1 t238 _ ?side1 ?side2 A227.1).mono ?_); (case side1 => exact CB (R_reads' HO_204001.1).2.2); (case side2 => exact (R_reads' HO_204001.1).2.1); rintro e w245 ⟨rfl, hb⟩; refine ⟨_, rfl, ?_⟩; refine E13 (rB HO_188001.1 hb) (rB HO_193001.1 hb) (rB HO_198001.1 hb) (rB HO_204001.1 hb) (rB HO_237001.1 hb) (bB BK170.1 hb) (bB BK171.1 hb) (bB BK187.1 hb) (bB BK192.1 hb) (bB BK197.1 hb) (bB BK203.1 hb) (bB BK236.1 hb) (bS HB.1 hb) ?_; clear HO_188001 HO_193001 HO_198001 HO_204001 HO_237001 BK170 BK171 BK187 BK192 BK197 BK203 BK236 HB; intro HO_188001 HO_193001 HO_198001 HO_204001 HO_237001 BK170 BK171 BK187 BK192 BK197 BK203 BK236 HB; (try clear hb)))
 go_ret
 exact ⟨RF, BL HB.1⟩
end Go.Proofs.Ytifojdcnhlofkaa.P
