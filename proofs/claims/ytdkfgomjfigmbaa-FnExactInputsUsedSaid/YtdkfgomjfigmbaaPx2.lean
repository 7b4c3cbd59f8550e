-- PRINTED by print.py (a twelfth state) out of the translation. Not trusted: Lean checks it.
import Derived.Test.YtdkfgomjfigmbaaPx0
namespace Go.Proofs.Ytdkfgomjfigmbaa.P
open Go.RowKit Go.Proofs.YtdkfgomjfigmbaaW.PrintWords Go.Proofs.YtdkfgomjfigmbaaW.PrintLast Go.Proofs.YtdkfgomjfigmbaaW.PrintMore
attribute [local go_sem] max2_int min2_int max_two min_two max_three min_three max_four min_four   -- for this text's walks alone
set_option linter.unusedVariables false
set_option linter.unusedSimpArgs false
set_option maxHeartbeats 8000000
set_option maxRecDepth 100000

-- NOT PRINTED: function 87 (spec_ddBuild_node)

-- NOT PRINTED: function 78 (spec_ddBuild_build)

/-! ### spec_ddMake: function 52 -/
open Kd
attribute [local go_sem] max2_int min2_int max_two min_two max_three min_three max_four min_four
theorem deqA63 (d : Nat) (w : World) (x0 y0 : Int) (x1 y1 : Int) (x2 y2 : Int) :
 (Op.equalIn (d + 2) 63 (.agg #[.int .i64 x0, .int .i64 x1, .int .i64 x2]) (.agg #[.int .i64 y0, .int .i64 y1, .int .i64 y2])).run Try.prog w = .ok (x0 == y0 && (x1 == y1 && (x2 == y2))) w := by
 refine eqA_of Try.underlying63 (by kernel_rfl) ?_
 refine eqf_cons (by rfl) (by go_simp; rfl) (by go_simp; rfl) (by go_simp) ?_
 refine eqf_cons (by rfl) (by go_simp; rfl) (by go_simp; rfl) (by go_simp) ?_
 exact eqf_last (by rfl) (by go_simp; rfl) (by go_simp; rfl) (by go_simp)
attribute [local go_sem high] deqA63
deriving instance DecidableEq for S63
/-- The place of the first equal node. -/
def dplace (x : S63) : List S63 -> Nat
 | [] => 0
 | y :: t => if x = y then 0 else dplace x t + 1
theorem dplace_skip {x : S63} : ∀ (ns : List S63) (i : Nat), i <= ns.length -> (∀ j, j < i -> ns[j]? ≠ some x) -> dplace x ns = i + dplace x (ns.drop i) /\ (x ∈ ns ↔ x ∈ ns.drop i)
 | ns, 0, _, _ => by simp
 | [], i + 1, h, _ => by simp at h
 | y :: t, i + 1, h, hn => by
  have h0 : x ≠ y := fun e => hn 0 (by omega) (by rw [e]; rfl)
  obtain ⟨q1, q2⟩ := dplace_skip t i (by simpa using h) (fun j hj => by simpa using hn (j + 1) (by omega))
  refine ⟨?_, by simp only [List.drop_succ_cons, List.mem_cons, h0, false_or, q2]⟩
  simp only [dplace, List.drop_succ_cons]
  rw [if_neg h0, q1]
  omega
/-- The reference's node: the one that is there, or a new one. -/
def dnode (ns : List S63) (x : S63) : List S63 × Int :=
 if x.f1 = x.f2 then (ns, x.f1) else if x ∈ ns then (ns, 2 + (dplace x ns : Int)) else (ns ++ [x], 2 + (ns.length : Int))
/-- A builder's nodes: block p holds the row. -/
def DSt (base p : Nat) (ns : List S63) (w : World) : Prop := ∃ v, w.heap[p]? = some (.cells #[v] 93 (0, 0)) /\ Kd.R k63 63 w base (fun _ => True) v ns
/-- What stays: the blocks of all other types. -/
def Stay (w w' : World) : Prop := w.heap.size <= w'.heap.size /\ ∀ (k : Nat) (cs : Array Value) (t : TypeId), w.heap[k]? = some (.cells cs t (0, 0)) -> t ≠ 93 -> t ≠ 63 -> w'.heap[k]? = some (.cells cs t (0, 0))
theorem Stay.of_below {w w' : World} (h : Below w.heap.size w w') : Stay w w' := ⟨below_size h, fun k cs t hk _ _ => blk_below hk h⟩
theorem Stay.trans {w w1 w2 : World} (h : Stay w w1) (h' : Stay w1 w2) : Stay w w2 := ⟨Nat.le_trans h.1 h'.1, fun k cs t hk a b => h'.2 k cs t (h.2 k cs t hk a b) a b⟩
theorem DSt.below {base p : Nat} {ns : List S63} {w w' : World} (h : DSt base p ns w) (hb : Below w.heap.size w w') : DSt base p ns w' := by
 obtain ⟨v, h1, h2⟩ := h
 exact ⟨v, blk_below h1 hb, R_below h2 hb⟩
theorem below_down {b b' : Nat} {w w' : World} (h : Below b w w') (hb : b' <= b) : Below b' w w' := h.mono hb
theorem dinfo63 : (Try.prog.info? 63).map (fun i => (i.zero, i.size, i.bytes)) = some (some (.agg #[.int .i64 0, .int .i64 0, .int .i64 0]), 3, 24) := by kernel_rfl
theorem cell_alloc_lt {w : World} {g j : Nat} {u : Value} {o : Obj} (h : w.cell? ⟨g, j, none⟩ = some u) (hg : g < w.heap.size) : (w.alloc o).cell? ⟨g, j, none⟩ = some u := ((Below.refl w.heap.size w).alloc (Nat.le_refl _) o |>.cell (p := ⟨g, j, none⟩) hg).trans h
theorem ddnode_same (p : Nat) (x : S63) (w : World) (hx : x.f1 = x.f2) :
 Calls Try.prog 87 #[.pointer (some ⟨p, 0, none⟩), .agg #[.int .i64 x.f0, .int .i64 x.f1, .int .i64 x.f2]] w fun e w' => e = .returned (.int .i64 x.f1) /\ Below w.heap.size w w' := by
 have hu63 := Try.underlying63
 have HB := Aside0.mk (Below.refl w.heap.size w)
 have c0 : (x.f1 == x.f2) = true := beq_iff_eq.mpr hx
 go_enter Try.func87, Try.ntmps87
 go_wp2_with (first | ((with_reducible refine gate_dst (N := 3) rfl ?_); refine boxE (cs := #[.int .i64 x.f0, .int .i64 x.f1, .int .i64 x.f2]) (t := 63) ?_; intro gb103 hg w4 hbox hb; refine E4b HB.1 hg hbox hb ?_; clear HB; intro HB BK103 GW103 GE103; clear hb hbox hg; obtain ⟨hcz5_0, hcz5_1, hcz5_2, hfz5_0, hfz5_1, hfz5_2⟩ := cz3 BK103.1))
 go_ret
 exact ⟨RF, BL HB.1⟩
theorem at_eq {ns : List S63} {x : S63} {i : Nat} (h : i < ns.length) : (x.f0 == (rd_T63 ns (i : Int)).f0 && (x.f1 == (rd_T63 ns (i : Int)).f1 && x.f2 == (rd_T63 ns (i : Int)).f2)) = decide (ns[i]? = some x) := by
 have e : rd_T63 ns (i : Int) = ns[i] := by simp [rd_T63, List.getD, h]
 rw [e, List.getElem?_eq_getElem h, Bool.eq_iff_iff]
 obtain ⟨a, b, c⟩ := x
 generalize ns[i] = y
 obtain ⟨a', b', c'⟩ := y
 simp
 constructor
 · rintro ⟨rfl, rfl, rfl⟩; exact ⟨rfl, rfl, rfl⟩
 · rintro ⟨rfl, rfl, rfl⟩; exact ⟨rfl, rfl, rfl⟩
theorem ddnode_calls (base p : Nat) (ns : List S63) (x0 x1 x2 : Int) (w : World) (h : DSt base p ns w) (hl : ns.length <= 1000) (hp : base <= p) (hbw : base <= w.heap.size) :
 Calls Try.prog 87 #[.pointer (some ⟨p, 0, none⟩), .agg #[.int .i64 x0, .int .i64 x1, .int .i64 x2]] w fun e w' => e = .returned (.int .i64 (dnode ns ⟨x0, x1, x2⟩).2) /\ DSt base p (dnode ns ⟨x0, x1, x2⟩).1 w' /\ Stay w w' /\ Below base w w' := by
 by_cases hx : x1 = x2
 · refine (ddnode_same p ⟨x0, x1, x2⟩ w hx).mono ?_
   rintro e w' ⟨rfl, hb⟩
   rw [show dnode ns ⟨x0, x1, x2⟩ = (ns, x1) from if_pos hx]
   exact ⟨rfl, h.below hb, Stay.of_below hb, hb.mono hbw⟩
 have hu63 := Try.underlying63
 have hu93 := Try.underlying93
 obtain ⟨v, hv, hR⟩ := h
 obtain ⟨A, c, ev, hc0, hC⟩ := R_reads hR
 subst ev
 have HC := Aside0.mk hC
 have HR := Aside0.mk hR
 have HV := Aside0.mk hv
 clear hC hR
 have HB := Aside0.mk (Below.refl w.heap.size w)
 have hcp : w.cell? ⟨p, 0, none⟩ = some (.slice A ns.length c) := (blk_cell hv 0).trans rfl
 have hfp := blk_frozen hv 0
 have hpl : p < w.heap.size := blk_lt hv
 clear hv
 have c0 : (x1 == x2) = false := beq_eq_false_iff_ne.mpr hx
 go_enter Try.func87, Try.ntmps87
 go_wp2_with (first | ((with_reducible refine gate_dst (N := 3) rfl ?_); refine boxE (cs := #[.int .i64 x0, .int .i64 x1, .int .i64 x2]) (t := 63) ?_; intro gb103 hg w4 hbox hb; refine E4b HB.1 hg hbox hb ?_; clear HB; intro HB BK103 GW103 GE103; clear hbox hg; obtain ⟨hcz5_0, hcz5_1, hcz5_2, hfz5_0, hfz5_1, hfz5_2⟩ := cz3 BK103.1; replace hcp := (hb.cell (p := ⟨p, 0, none⟩) hpl).trans hcp; clear hb))
 go_loopg [19] (ns.length + 1) (fun kq v19 w' => ∃ (x19 : Int) (i : Nat), v19 = .int .i64 x19 /\ Aside0 (x19 = (i : Int)) /\ Aside0 (kq + i = ns.length + 1) /\ Aside0 (i <= ns.length) /\ Aside0 (∀ j, j < i -> ns[j]? ≠ some ⟨x0, x1, x2⟩) /\ Aside0 (w'.heap[gb103]? = some (.cells #[.int .i64 x0, .int .i64 x1, .int .i64 x2] 63 (0, 0))) /\ Aside0 (Below w.heap.size w w'))
 case atStart => exact ⟨0, 0, rfl, ⟨rfl⟩, ⟨rfl⟩, ⟨Nat.zero_le _⟩, ⟨fun j h => by omega⟩, ⟨PB BK103.1⟩, ⟨BL HB.1⟩⟩
 clear hcz5_0 hcz5_1 hcz5_2 hfz5_0 hfz5_1 hfz5_2 hcp
 obtain ⟨x19, i, rfl, HI, HK, HL, HN, BK103, HB⟩ := hrel
 have hin : i <= ns.length := HL.1
 cases gk with
 | zero => have := HK.1; omega
 | succ k1 => ?_
 by_cases hi : i < ns.length
 · have c8 : decide (x19 < (ns.length : Int)) = true := decide_eq_true (by have := HI.1; omega)
   have c8b : decide (0 <= x19) = true := decide_eq_true (by have := HI.1; omega)
   have p104 : 0 <= (x19 : Int) := OD
   have q104 : x19 < (ns.length : Int) := OD
   obtain ⟨ad104, e104, hx104_0, hx104_1, hx104_2⟩ := at_T63 HC.1 x19 p104 q104
   cases e104
   replace hx104_0 := (HB.1.cell (World.block_lt_of_cell? w _ hx104_0)).trans hx104_0
   replace hx104_1 := (HB.1.cell (World.block_lt_of_cell? w _ hx104_1)).trans hx104_1
   replace hx104_2 := (HB.1.cell (World.block_lt_of_cell? w _ hx104_2)).trans hx104_2
   replace p104 := eq_true p104
   replace q104 := eq_true q104
   have he0 := at_eq (x := ⟨x0, x1, x2⟩) hi
   rw [<- HI.1] at he0
   by_cases he : ns[i]? = some ⟨x0, x1, x2⟩
   · have c11 : (x0 == (rd_T63 ns x19).f0 && (x1 == (rd_T63 ns x19).f1 && (x2 == (rd_T63 ns x19).f2))) = true := he0.trans (decide_eq_true he)
     have c11b : decide (x0 = (rd_T63 ns x19).f0 && (x1 == (rd_T63 ns x19).f1 && (x2 == (rd_T63 ns x19).f2))) = true := by simpa using c11
     clear he0
     go_wp2_with (first | ((with_reducible refine gate_dst (N := 6) rfl ?_); refine boxE (cs := #[.int .i64 0, .int .i64 0, .int .i64 0]) (t := 63) ?_; intro gb105 hg w12 hbox hb; refine E7 (bB BK103.1 hb) (bS HB.1 hb) (hbox) (gX HB.1 hg) (gX HB.1 hg) (nB BK103.1 hg) (nC BK103.1 hg) ?_; clear BK103 HB; intro BK103 HB BK105 GW105 GE105 NB103_105 NB105_103; clear hb hbox hg; have hnb13 := NB105_103.1; have hnc13 := NB103_105.1; obtain ⟨hcz14_0, hcz14_1, hcz14_2, hfz14_0, hfz14_1, hfz14_2⟩ := cz3 BK105.1; obtain ⟨hcz15_0, hcz15_1, hcz15_2, hfz15_0, hfz15_1, hfz15_2⟩ := cz3 BK103.1))
     go_ret
     obtain ⟨q1, q2⟩ := dplace_skip ns i hin HN.1
     have hd : ns.drop i = ns[i] :: ns.drop (i + 1) := List.drop_eq_getElem_cons hi
     have hxi : ns[i] = ⟨x0, x1, x2⟩ := by rw [List.getElem?_eq_getElem hi] at he; exact Option.some.inj he
     rw [hd, hxi] at q1 q2
     simp only [dplace, if_true, Nat.add_zero] at q1
     have hm : (⟨x0, x1, x2⟩ : S63) ∈ ns := q2.2 List.mem_cons_self
     rw [show dnode ns ⟨x0, x1, x2⟩ = (ns, 2 + (dplace ⟨x0, x1, x2⟩ ns : Int)) from (if_neg hx).trans (if_pos hm), q1]
     have ew : wrap64 (2 + x19) = 2 + (i : Int) := by
      have := HI.1
      unfold wrap64; omega
     refine ⟨?_, (fun hB2 => ⟨⟨_, blk_below HV.1 hB2, R_below HR.1 hB2⟩, Stay.of_below hB2, hB2.mono hbw⟩) (BL HB.1)⟩
     show Ending.returned (.int .i64 (wrap64 (2 + x19))) = .returned (.int .i64 (2 + (i : Int)))
     rw [ew]
   · have c11 : (x0 == (rd_T63 ns x19).f0 && (x1 == (rd_T63 ns x19).f1 && (x2 == (rd_T63 ns x19).f2))) = false := he0.trans (decide_eq_false he)
     have c11b : decide (x0 = (rd_T63 ns x19).f0 && (x1 == (rd_T63 ns x19).f1 && (x2 == (rd_T63 ns x19).f2))) = false := by simpa using c11
     have c11c : ¬ (x0 = (rd_T63 ns x19).f0 && (x1 == (rd_T63 ns x19).f1 && (x2 == (rd_T63 ns x19).f2))) := by simpa using c11
     clear he0
     go_wp2_with (first | ((with_reducible refine gate_dst (N := 6) rfl ?_); refine boxE (cs := #[.int .i64 0, .int .i64 0, .int .i64 0]) (t := 63) ?_; intro gb105 hg w16 hbox hb; refine E7 (bB BK103.1 hb) (bS HB.1 hb) (hbox) (gX HB.1 hg) (gX HB.1 hg) (nB BK103.1 hg) (nC BK103.1 hg) ?_; clear BK103 HB; intro BK103 HB BK105 GW105 GE105 NB103_105 NB105_103; clear hb hbox hg; have hnb17 := NB105_103.1; have hnc17 := NB103_105.1; obtain ⟨hcz18_0, hcz18_1, hcz18_2, hfz18_0, hfz18_1, hfz18_2⟩ := cz3 BK105.1; obtain ⟨hcz19_0, hcz19_1, hcz19_2, hfz19_0, hfz19_1, hfz19_2⟩ := cz3 BK103.1))
     go_roundg k1
     case measure => exact Nat.lt_succ_self _
     case rel =>
      refine ⟨(wrap64 (x19 + 1)), i + 1, RG, ⟨?_⟩, ⟨by have := HK.1; omega⟩, ⟨by omega⟩, ⟨fun j hj => ?_⟩, ⟨PF1 NB103_105.1 BK103.1⟩, ⟨BL HB.1⟩⟩
      · have := HI.1
        unfold wrap64; omega
      · by_cases e : j = i
        · rw [e]; exact he
        · exact HN.1 j (by omega)
 · have c8 : decide (x19 < (ns.length : Int)) = false := decide_eq_false (by have := HI.1; omega)
   have hcp : wr.cell? ⟨p, 0, none⟩ = some (.slice A ns.length c) := (HB.1.cell (p := ⟨p, 0, none⟩) hpl).trans ((blk_cell HV.1 0).trans rfl)
   obtain ⟨hcz19_0, hcz19_1, hcz19_2, hfz19_0, hfz19_1, hfz19_2⟩ := cz3 BK103.1
   have HRr := Aside0.mk (R_below HR.1 HB.1)
   have hnp : gb103 ≠ p := fun e => by have := GW103.1; omega
   go_wp2_with fail
   refine start_ (n := 11) (S := fun w' => w'.cell? ⟨p, 0, none⟩ = some (.slice A ns.length c) /\ w'.cell? ⟨gb103, 0, none⟩ = some (.int .i64 x0) /\ w'.cell? ⟨gb103, 1, none⟩ = some (.int .i64 x1) /\ w'.cell? ⟨gb103, 2, none⟩ = some (.int .i64 x2)) (ds := [7, 10]) #[Zz,Zz,Zz,Zz,Zz,Zz,Zz,Zz,Zz,Zz,Zz] (by kernel_rfl) rfl rfl ⟨hcp, hcz19_0, hcz19_1, hcz19_2⟩ (fun hHeld => ?_)
   have hBr : Below w.heap.size w wr.drew := below_drew1 HB.1
   have hRr : Kd.R k63 63 wr.drew base (fun _ => True) (.slice A ns.length c) ns := R_drew HRr.1
   have hVr : wr.drew.heap[p]? = some (.cells #[.slice A ns.length c] 93 (0, 0)) := blk_drew (blk_below HV.1 HB.1)
   have hgl : gb103 < wr.drew.heap.size := blk_lt (blk_drew BK103.1)
   clear hcp hcz19_0 hcz19_1 hcz19_2 hfz19_0 hfz19_1 hfz19_2
   generalize wr.drew = w22 at hHeld hBr hRr hVr hgl ⊢
   obtain ⟨hcp, hcz19_0, hcz19_1, hcz19_2⟩ := hHeld
   have hHeld := (⟨hcp, hcz19_0, hcz19_1, hcz19_2⟩ : _ /\ _ /\ _ /\ _)
   refine pureF 0 (N := some 30) rfl ?_
   refine pureF 1 (N := some 31) rfl ?_
   refine pureF 2 (N := some 32) rfl ?_
   refine pureF 3 (N := some 33) rfl ?_
   refine takeF 4 (N := some 34) hHeld ?_
   refine takeF 5 (N := some 35) hHeld ?_
   refine one_ (i := 6) (N := some 36) #[Yy,Yy,Yy,Yy,Yy,Yy,Yy,Zz,Zz,Zz,Zz] rfl rfl (by kernel_rfl) (by decide) (fun K hK => ?_)
   refine value_ (w1 := ?_) (v := ?_) (by rfl) rfl ?_ ?_
   rotate_left 2
   · go_simp
     constructor
     · rfl
     rfl
   refine hK.out _ _ ⟨(cell_alloc_lt hcp (blk_lt hVr)), (cell_alloc_lt hcz19_0 hgl), (cell_alloc_lt hcz19_1 hgl), (cell_alloc_lt hcz19_2 hgl)⟩ (fun hHeld => ?_)
   clear hK K
   refine norm_ (a' := ?_) ?_ ?_
   rotate_left
   · show Act.put _ (some 36) _ = _
     simp only [Act.put, List.setIfInBounds_toArray, List.set_cons_zero, List.set_cons_succ, i64_w, i32_w]
     rfl
   refine last_ (i := 7) (N := some 37) #[Yy,Yy,Yy,Yy,Yy,Yy,Yy,Yy,Zz,Zz,Zz] rfl rfl (by kernel_rfl) (by decide) (fun K hK => ?_)
   refine R_append_step k63 (w0 := w) base (by rfl) (.tmp 34) (.tmp 36) 27 63 (.agg #[.int .i64 0, .int .i64 0, .int .i64 0]) 24 rfl Try.underlying27 dinfo63 rfl (by decide) (by omega) (.slice A ns.length c) ns ⟨x0, x1, x2⟩ [.int .i64 x0, .int .i64 x1, .int .i64 x2] (fun _ => True) (fun _ => False) rfl rfl (k63_mkM _ _ _ ⟨x0, x1, x2⟩) (fun _ hk => hk.elim) (fun _ _ => trivial) hRr (hBr.mono hbw) (Nat.le_trans hbw hBr.size) (by omega) ?_
   intro v1 w24 ho hb hg hat
   obtain ⟨A1, cc1, ev1⟩ := R_slice ho
   subst ev1
   refine hK.out _ _ ?_
   clear hK K
   refine norm_ (a' := ?_) ?_ ?_
   rotate_left
   · show Act.put _ (some 37) _ = _
     simp only [Act.put, List.setIfInBounds_toArray, List.set_cons_zero, List.set_cons_succ, i64_w, i32_w]
     rfl
   have hV24 := blk_grown hVr hg (R_ne hRr hVr (by decide))
   have hcp : w24.cell? ⟨p, 0, none⟩ = some (.slice A ns.length c) := (blk_cell hV24 0).trans rfl
   have hfp2 := blk_frozen hV24 0
   refine pureF 8 (N := some 38) rfl ?_
   refine pureF 9 (N := some 39) rfl ?_
   refine last_ (i := 10) (N := none) #[Yy,Yy,Yy,Yy,Yy,Yy,Yy,Yy,Yy,Yy,Yy] rfl rfl (by kernel_rfl) (by decide) (fun K hK => ?_)
   refine skip_ (w1 := w24.setCell ⟨p, 0, none⟩ (.slice A1 (ns ++ [(⟨x0, x1, x2⟩ : S63)]).length cc1)) (by rfl) rfl ?_ ?_
   · go_simp
   refine hK.out _ _ ?_
   clear hK K
   refine done_ (by kernel_rfl) ?_
   have hV25 : (w24.setCell ⟨p, 0, none⟩ (.slice A1 (ns ++ [(⟨x0, x1, x2⟩ : S63)]).length cc1)).heap[p]? = some (.cells #[.slice A1 (ns ++ [(⟨x0, x1, x2⟩ : S63)]).length cc1] 93 (0, 0)) := (blk_put hV24 0 _ rfl).trans rfl
   have hR25 := R_set ho hV24 (by decide) 0 (.slice A1 (ns ++ [(⟨x0, x1, x2⟩ : S63)]).length cc1)
   have hB25 := hb.setCell (p := ⟨p, 0, none⟩) hp (.slice A1 (ns ++ [(⟨x0, x1, x2⟩ : S63)]).length cc1)
   have hS25 : Stay w (w24.setCell ⟨p, 0, none⟩ (.slice A1 (ns ++ [(⟨x0, x1, x2⟩ : S63)]).length cc1)) := by
    refine ⟨by have := hb.size; have := hBr.size; have := hg.size; simp [World.setCell]; omega, fun k cs t hk h93 h63 => ?_⟩
    have h1 := blk_below hk hBr
    refine blk_far (blk_grown h1 hg (R_ne hRr h1 (Ne.symm h63))) (fun e => ?_) _
    subst e
    rw [hVr] at h1
    cases h1
    exact h93 rfl
   have hcp25 := (blk_cell hV25 0).trans rfl
   generalize w24.setCell ⟨p, 0, none⟩ (.slice A1 (ns ++ [(⟨x0, x1, x2⟩ : S63)]).length cc1) = w25 at hV25 hR25 hB25 hS25 hcp25 ⊢
   go_wp2
   go_ret
   obtain ⟨q1, q2⟩ := dplace_skip ns i hin HN.1
   have hm : (⟨x0, x1, x2⟩ : S63) ∉ ns := fun h => by
    have := q2.1 h
    rw [List.drop_of_length_le (by omega)] at this
    simp at this
   rw [show dnode ns ⟨x0, x1, x2⟩ = (ns ++ [⟨x0, x1, x2⟩], 2 + (ns.length : Int)) from (if_neg hx).trans (if_neg hm)]
   refine ⟨?_, ⟨_, hV25, hR25⟩, hS25, hB25⟩
   show Ending.returned (.int .i64 (1 + ((ns.length : Int) + 1))) = .returned (.int .i64 (2 + (ns.length : Int)))
   rw [show 1 + ((ns.length : Int) + 1) = 2 + (ns.length : Int) by omega]
/-- The nodes and the reference for a table's values from an input on. -/
def dbld (vs : List Int) : Nat -> Nat -> Nat -> List S63 -> List S63 × Int
 | 0, _, f, ns => (ns, rd vs (f : Int))
 | d + 1, i, f, ns => dnode (dbld vs d (i + 1) (f + 2 ^ i) (dbld vs d (i + 1) f ns).1).1 ⟨(i : Int), (dbld vs d (i + 1) f ns).2, (dbld vs d (i + 1) (f + 2 ^ i) (dbld vs d (i + 1) f ns).1).2⟩
theorem dnode_len (ns : List S63) (x : S63) : (dnode ns x).1.length <= ns.length + 1 := by
 unfold dnode
 split
 · simp
 · split <;> simp
theorem dbld_len (vs : List Int) : ∀ (d i f : Nat) (ns : List S63), (dbld vs d i f ns).1.length + 1 <= ns.length + 2 ^ d
 | 0, _, _, _ => by simp [dbld]
 | d + 1, i, f, ns => by
  have h1 := dbld_len vs d (i + 1) f ns
  have h2 := dbld_len vs d (i + 1) (f + 2 ^ i) (dbld vs d (i + 1) f ns).1
  have h3 := dnode_len (dbld vs d (i + 1) (f + 2 ^ i) (dbld vs d (i + 1) f ns).1).1 ⟨(i : Int), (dbld vs d (i + 1) f ns).2, (dbld vs d (i + 1) (f + 2 ^ i) (dbld vs d (i + 1) f ns).1).2⟩
  simp only [dbld]
  rw [Nat.pow_succ]
  omega
theorem pow_le16 {i : Nat} (h : i <= 4) : (2 : Nat) ^ i <= 16 := Nat.le_trans (Nat.pow_le_pow_right (by decide) h) (by decide)
theorem u64_small {x : Int} (h0 : 0 <= x) (h1 : x <= 100) : IntKind.u64.wrap x = x := by
 unfold IntKind.wrap
 simp [IntKind.bits, IntKind.signed]
 omega
theorem wrap_small {x : Int} (h0 : 0 <= x) (h1 : x <= 1000000) : wrap64 x = x := by unfold wrap64; omega
theorem ddbuild_calls (W0 : World) (p n : Nat) (A : Option Addr) (c : Nat) (vs : List Int) (hC : Kd.C (Kd.int .i64) W0 A vs.length vs) (hn : n <= 4) (hvs : vs.length = 2 ^ n) (hp : W0.heap.size <= p) : ∀ (d i f : Nat) (xi xf xn : Int) (ns : List S63) (w : World), i + d = n -> f < 2 ^ i -> xi = (i : Int) -> xf = (f : Int) -> xn = (n : Int) -> ns.length + 2 ^ d <= 1000 -> Below W0.heap.size W0 w -> DSt W0.heap.size p ns w ->
 Calls Try.prog 78 #[.pointer (some ⟨p, 0, none⟩), .agg #[.int .i64 xn, .slice A vs.length c], .int .i64 xi, .int .i64 xf] w fun e w' => e = .returned (.int .i64 (dbld vs d i f ns).2) /\ DSt W0.heap.size p (dbld vs d i f ns).1 w' /\ Stay w w' /\ Below W0.heap.size W0 w' := by
 intro d
 have hu41 := Try.underlying41
 have hu63 := Try.underlying63
 have HC := Aside0.mk hC
 have HVS := Aside0.mk hvs
 clear hC hvs
 induction d with
 | zero =>
  intro i f xi xf xn ns w hi hf hxi hxf hxn hl hB hD
  have HB := Aside0.mk (Below.refl w.heap.size w)
  have HB0 := Aside0.mk hB
  have HD := Aside0.mk hD
  clear hB hD
  have c0 : (xi == xn) = true := beq_iff_eq.mpr (by omega)
  have hin : i = n := by omega
  have p104 : 0 <= (xf : Int) := by omega
  have q104 : xf < (vs.length : Int) := by rw [HVS.1, <- hin]; omega
  have HF := Aside0.mk hxf
  clear hxi hxf hxn hi hin hf
  obtain ⟨ad104, e104, hx104_0⟩ := Kd.at_int HC.1 xf p104 q104
  cases e104
  replace hx104_0 := (HB0.1.cell (World.block_lt_of_cell? W0 _ hx104_0)).trans hx104_0
  have hlt104 := World.block_lt_of_cell? w _ hx104_0
  replace p104 := eq_true p104
  replace q104 := eq_true q104
  go_enter Try.func78, Try.ntmps78
  go_wp2_with (first | ((with_reducible refine gate_dst (N := 5) rfl ?_); refine boxE (cs := #[.int .i64 xn, .slice (some ad104) vs.length c]) (t := 41) ?_; intro gb103 hg w4 hbox hb; refine E4b HB.1 hg hbox hb ?_; clear HB; intro HB BK103 GW103 GE103; clear hbox hg; obtain ⟨hcz5_0, hcz5_1, hfz5_0, hfz5_1⟩ := cz2 BK103.1; replace hx104_0 := (hb.cell hlt104).trans hx104_0; clear hb))
  go_ret
  refine ⟨?_, (fun hB2 => ⟨HD.1.below hB2, Stay.of_below hB2, HB0.1.trans (hB2.mono HB0.1.size)⟩) (BL HB.1)⟩
  show Ending.returned (.int .i64 (rd vs xf)) = .returned (.int .i64 (rd vs (f : Int)))
  rw [HF.1]
 | succ d ih =>
  intro i f xi xf xn ns w hi hf hxi hxf hxn hl hB hD
  have hp2 : (2 : Nat) ^ (i + 1) = 2 ^ i + 2 ^ i := by rw [Nat.pow_succ]; omega
  have hpd : (2 : Nat) ^ (d + 1) = 2 ^ d + 2 ^ d := by rw [Nat.pow_succ]; omega
  have hi16 := pow_le16 (show i <= 4 by omega)
  have hpos := Nat.two_pow_pos d
  have e1 : wrap64 (xi + 1) = ((i + 1 : Nat) : Int) := by rw [wrap_small (by omega) (by omega)]; omega
  have e2 : wrap64 (xf + wrap64 (2 ^ min (IntKind.u64.wrap xi).toNat 64)) = ((f + 2 ^ i : Nat) : Int) := by
   rw [u64_small (by omega) (by omega), hxi, show min (i : Int).toNat 64 = i by omega, show (2 : Int) ^ i = ((2 ^ i : Nat) : Int) by simp, hxf]
   have hz := hi16
   generalize (2 : Nat) ^ i = z at hf hz ⊢
   rw [wrap_small (x := (z : Int)) (by omega) (by omega), wrap_small (by omega) (by omega)]
   omega
  have hA := ih (i + 1) f (wrap64 (xi + 1)) xf xn ns
  have hB2 := ih (i + 1) (f + 2 ^ i) (wrap64 (xi + 1)) (wrap64 (xf + wrap64 (2 ^ min (IntKind.u64.wrap xi).toNat 64))) xn (dbld vs d (i + 1) f ns).1
  have l1 := dbld_len vs d (i + 1) f ns
  have l2 := dbld_len vs d (i + 1) (f + 2 ^ i) (dbld vs d (i + 1) f ns).1
  have hE : dbld vs (d + 1) i f ns = dnode (dbld vs d (i + 1) (f + 2 ^ i) (dbld vs d (i + 1) f ns).1).1 ⟨(i : Int), (dbld vs d (i + 1) f ns).2, (dbld vs d (i + 1) (f + 2 ^ i) (dbld vs d (i + 1) f ns).1).2⟩ := rfl
  rw [hE]
  clear hE
  generalize dbld vs d (i + 1) (f + 2 ^ i) (dbld vs d (i + 1) f ns).1 = R2 at *
  generalize dbld vs d (i + 1) f ns = R1 at *
  obtain ⟨n2, hi2⟩ := R2
  obtain ⟨n1, lo⟩ := R1
  simp only at *
  have hA1 : ∀ w, Below W0.heap.size W0 w -> DSt W0.heap.size p ns w -> _ := fun w => hA w (by omega) (by omega) e1 hxf hxn (by omega)
  have hA2 : ∀ w, Below W0.heap.size W0 w -> DSt W0.heap.size p n1 w -> _ := fun w => hB2 w (by omega) (by omega) e1 e2 hxn (by omega)
  have HA1 := Aside0.mk hA1
  have HA2 := Aside0.mk hA2
  have hl2 : n2.length <= 1000 := by omega
  have c0 : (xi == xn) = false := beq_eq_false_iff_ne.mpr (by omega)
  have cs : decide (0 <= IntKind.u64.wrap xi) = true := decide_eq_true (by rw [u64_small (by omega) (by omega)]; omega)
  have HXI := Aside0.mk hxi
  clear hA hB2 hA1 hA2 hpos l1 l2 hxi hxf hxn hi hf hl e1 e2 hp2 hpd hi16 ih
  rw [<- HXI.1]
  have HB0 := Aside0.mk hB
  have HD := Aside0.mk hD
  have HS := Aside0.mk (Stay.of_below (Below.refl w.heap.size w))
  clear hB hD
  go_enter Try.func78, Try.ntmps78
  go_wp2_with (first
   | ((with_reducible refine gate_dst (N := 5) rfl ?_); refine boxE (cs := #[.int .i64 xn, .slice A vs.length c]) (t := 41) ?_; intro gb103 hg w4 hbox hb; have n0_ := Aside0.mk (HB0.1.trans (hb.mono HB0.1.size)); have n1_ := Aside0.mk (HD.1.below hb); have n2_ := Aside0.mk (Stay.of_below hb); have BK103 := Aside0.mk hbox; clear HB0 HD HS; have HB0 := n0_; have HD := n1_; have HS := n2_; clear n0_ n1_ n2_ hbox hg hb; obtain ⟨hcz5_0, hcz5_1, hfz5_0, hfz5_1⟩ := cz2 BK103.1)
   | ((with_reducible refine gate_dst (N := 25) rfl ?_); refine goesM (N := some 25) #[.pointer (some ⟨p, 0, none⟩), .agg #[.int .i64 xn, .slice A vs.length c], .int .i64 (wrap64 (xi + 1)), .int .i64 xf] Try.func78 ?_; refine (HA1.1 _ HB0.1 HD.1).mono ?_; rintro e w6 ⟨rfl, hD6, hS6, hB6⟩; refine ⟨_, rfl, ?_⟩; refine E4 (hB6) (hD6) (HS.1.trans hS6) (hS6.2 _ _ _ BK103.1 (by decide) (by decide)) ?_; clear HB0 HD HS BK103 hcz5_0 hcz5_1 hfz5_0 hfz5_1 hD6 hS6 hB6; intro HB0 HD HS BK103; obtain ⟨hcz5_0, hcz5_1, hfz5_0, hfz5_1⟩ := cz2 BK103.1)
   | ((with_reducible refine gate_dst (N := 35) rfl ?_); refine goesM (N := some 35) #[.pointer (some ⟨p, 0, none⟩), .agg #[.int .i64 xn, .slice A vs.length c], .int .i64 (wrap64 (xi + 1)), .int .i64 (wrap64 (xf + wrap64 (2 ^ min (IntKind.u64.wrap xi).toNat 64)))] Try.func78 ?_; refine (HA2.1 _ HB0.1 HD.1).mono ?_; rintro e w6 ⟨rfl, hD6, hS6, hB6⟩; refine ⟨_, rfl, ?_⟩; refine E3 (hB6) (hD6) (HS.1.trans hS6) ?_; clear HB0 HD HS BK103 hcz5_0 hcz5_1 hfz5_0 hfz5_1 hD6 hS6 hB6; intro HB0 HD HS)
   | ((with_reducible refine gate_dst (N := 41) rfl ?_); refine goesM (N := some 41) #[.pointer (some ⟨p, 0, none⟩), .agg #[.int .i64 xi, .int .i64 lo, .int .i64 hi2]] Try.func87 ?_; refine (ddnode_calls W0.heap.size p n2 xi lo hi2 _ HD.1 hl2 hp HB0.1.size).mono ?_; rintro e w6 ⟨rfl, hD6, hS6, hB6⟩; refine ⟨_, rfl, ?_⟩; refine E3 (HB0.1.trans hB6) (hD6) (HS.1.trans hS6) ?_; clear HB0 HD HS hD6 hS6 hB6; intro HB0 HD HS))
  go_ret
  exact ⟨rfl, HD.1, HS.1, HB0.1⟩
def spec_ddMake.f (a0_0 : Int) (l0_1 : List Int) : Option (Int × List (S63) × Int) := if 0 <= a0_0 /\ a0_0 <= 4 /\ l0_1.length = 2 ^ a0_0.toNat then some (a0_0, (dbld l0_1 a0_0.toNat 0 0 []).1, (dbld l0_1 a0_0.toNat 0 0 []).2) else none
theorem ddmake_calls (n : Nat) (xn : Int) (A : Option Addr) (c : Nat) (vs : List Int) (w : World) (hC : Kd.C (Kd.int .i64) w A vs.length vs) (hxn : xn = (n : Int)) (hn : n <= 4) (hvs : vs.length = 2 ^ n) :
 Calls Try.prog 52 #[.agg #[.int .i64 xn, .slice A vs.length c]] w fun e w' => ∃ v1_ : Value, e = .returned (.agg #[.int .i64 xn, v1_, .int .i64 (dbld vs n 0 0 []).2]) /\ Kd.R k63 63 w' w.heap.size (fun _ => True) v1_ (dbld vs n 0 0 []).1 /\ Below w.heap.size w w' := by
 have hu41 := Try.underlying41
 have hu29 := Try.underlying29
 have hu93 := Try.underlying93
 have hB := fun p (hp : w.heap.size <= p) => ddbuild_calls w p n A c vs hC hn hvs hp n 0 0 0 0 xn [] 
 generalize dbld vs n 0 0 [] = R at *
 obtain ⟨ns, r⟩ := R
 simp only at *
 have hp16 := pow_le16 hn
 have hB1 := fun p (hp : w.heap.size <= p) w1 => hB p hp w1 (by omega) (by omega) rfl rfl hxn (by simp; omega)
 have HB1 := Aside0.mk hB1
 clear hB hB1 hxn hvs hn hp16 hC
 have HB := Aside0.mk (Below.refl w.heap.size w)
 go_enter Try.func52, Try.ntmps52
 go_wp2_with (first
  | ((with_reducible refine gate_dst (N := 1) rfl ?_); refine boxE (cs := #[.int .i64 xn, .slice A vs.length c]) (t := 41) ?_; intro gb1 hg w4 hbox hb; have n0_ := Aside0.mk (HB.1.trans (hb.mono HB.1.size)); have BK1 := Aside0.mk hbox; have GE1 := Aside0.mk (hg ▸ HB.1.size : w.heap.size <= gb1); clear HB; have HB := n0_; clear n0_ hbox hg hb; obtain ⟨hcz1_0, hcz1_1, hfz1_0, hfz1_1⟩ := cz2 BK1.1)
  | ((with_reducible refine gate_dst (N := 2) rfl ?_); refine boxE (cs := #[.int .i64 0, .slice none 0 0, .int .i64 0]) (t := 29) ?_; intro gb2 hg w5 hbox hb; have n0_ := Aside0.mk (HB.1.trans (hb.mono HB.1.size)); have n1_ := Aside0.mk (blk_below BK1.1 hb); have BK2 := Aside0.mk hbox; have GE2 := Aside0.mk (hg ▸ HB.1.size : w.heap.size <= gb2); have N12 := Aside0.mk (nB BK1.1 hg); clear HB BK1; have HB := n0_; have BK1 := n1_; clear n0_ n1_ hbox hg hb)
  | ((with_reducible refine gate_dst (N := 6) rfl ?_); refine boxE (cs := #[.slice none 0 0]) (t := 93) ?_; intro gb6 hg w6 hbox hb; have n0_ := Aside0.mk (HB.1.trans (hb.mono HB.1.size)); have n1_ := Aside0.mk (blk_below BK1.1 hb); have n2_ := Aside0.mk (blk_below BK2.1 hb); have BK6 := Aside0.mk hbox; have GE6 := Aside0.mk (hg ▸ HB.1.size : w.heap.size <= gb6); have N26 := Aside0.mk (nB BK2.1 hg); clear HB BK1 BK2; have HB := n0_; have BK1 := n1_; have BK2 := n2_; clear n0_ n1_ n2_ hbox hg hb; (try clear hcz1_0 hcz1_1 hfz1_0 hfz1_1); obtain ⟨hcz1_0, hcz1_1, hfz1_0, hfz1_1⟩ := cz2 BK1.1)
  | ((with_reducible refine gate_dst (N := 9) rfl ?_); refine goesM (N := some 9) #[.pointer (some ⟨gb6, 0, none⟩), .agg #[.int .i64 xn, .slice A vs.length c], .int .i64 0, .int .i64 0] Try.func78 ?_; refine (HB1.1 gb6 GE6.1 _ HB.1 ⟨_, BK6.1, R_nil _ _ _ _ _⟩).mono ?_; rintro e w7 ⟨rfl, hD6, hS6, hB6⟩; refine ⟨_, rfl, ?_⟩; refine E3 (hB6) (hS6.2 _ _ _ BK1.1 (by decide) (by decide)) (hS6.2 _ _ _ BK2.1 (by decide) (by decide)) ?_; clear HB BK1 BK2 BK6 hcz1_0 hcz1_1 hfz1_0 hfz1_1 hS6 hB6; intro HB BK1 BK2; obtain ⟨v, hv, hR⟩ := hD6; obtain ⟨A1, c1, ev⟩ := R_slice hR; subst ev; have HR := Aside0.mk hR; have BK6 := Aside0.mk hv; clear hv hR))
 obtain ⟨hcz1_0, hcz1_1, hfz1_0, hfz1_1⟩ := cz2 BK1.1
 have hcp : w7.cell? ⟨gb6, 0, none⟩ = some (.slice A1 ns.length c1) := (blk_cell BK6.1 0).trans rfl
 refine start_ (n := 9) (S := fun w' => w'.cell? ⟨gb1, 0, none⟩ = some (.int .i64 xn) /\ w'.cell? ⟨gb6, 0, none⟩ = some (.slice A1 ns.length c1)) (ds := [8]) #[Zz,Zz,Zz,Zz,Zz,Zz,Zz,Zz,Zz] (by kernel_rfl) rfl rfl ⟨hcz1_0, hcp⟩ (fun hHeld => ?_)
 refine E3 (below_drew1 HB.1) (R_drew HR.1) (blk_drew BK2.1) ?_
 clear HB HR BK1 BK2 BK6 hcz1_0 hcz1_1 hfz1_0 hfz1_1 hcp
 intro HB HR BK2
 generalize w7.drew = w8 at hHeld HB HR BK2 ⊢
 obtain ⟨hcz2_0, hcz2_1, hcz2_2, hfz2_0, hfz2_1, hfz2_2⟩ := cz3 BK2.1
 refine pureF 0 (N := some 10) rfl ?_
 refine pureF 2 (N := some 12) rfl ?_
 refine pureF 3 (N := some 13) rfl ?_
 refine pureF 4 (N := some 14) rfl ?_
 refine pureF 6 (N := some 16) rfl ?_
 refine takeF 1 (N := some 11) hHeld ?_
 refine takeF 5 (N := some 15) hHeld ?_
 refine pureF 7 (N := some 17) rfl ?_
 refine last_ (i := 8) (N := none) #[Yy,Yy,Yy,Yy,Yy,Yy,Yy,Yy,Yy] rfl rfl (by kernel_rfl) (by decide) (fun K hK => ?_)
 refine skip_ (w1 := ?_) (by rfl) rfl ?_ ?_
 rotate_left
 · go_simp
   rfl
 refine hK.out _ _ ?_
 clear hK K
 refine done_ (by kernel_rfl) ?_
 go_wp2
 refine bodyPost_ret (results_cell_row rfl _ _ gb2 29 #[.int .i64 xn, .slice A1 ns.length c1, .int .i64 r] (0, 0) _ rfl (PF0 BK2.1) Try.underlying29 rfl (by kernel_rfl)) rfl ?_
 exact ⟨_, rfl, R_set (R_set (R_set HR.1 BK2.1 (by decide) 0 _) (PF0 BK2.1) (by decide) 1 _) (PF0 BK2.1) (by decide) 2 _, BL HB.1⟩
theorem spec_ddMake.calls (a0_0 : Int) (A0_1 : Option Addr) (c0_1 : Nat) (l0_1 : List Int) (r1 : Int) (r2 : List (S63)) (r3 : Int) (w : World) (hr0_1 : Kd.C (Kd.int .i64) w A0_1 l0_1.length l0_1) (hc0_1 : l0_1.length <= c0_1) (h : spec_ddMake.f a0_0 l0_1 = some (r1, r2, r3)) :
 Calls Try.prog 52 #[.agg #[.int .i64 a0_0, .slice A0_1 l0_1.length c0_1]] w fun e w' => ∃ v1_ : Value, e = .returned (.agg #[.int .i64 r1, v1_, .int .i64 r3]) /\ Kd.R k63 63 w' w.heap.size (fun _ => True) v1_ r2 /\ Below w.heap.size w w' := by
 unfold spec_ddMake.f at h
 obtain ⟨⟨h0, h1, h2⟩, h⟩ := ifP h
 cases h
 exact ddmake_calls a0_0.toNat a0_0 A0_1 c0_1 l0_1 w hr0_1 (by omega) (by omega) h2

/-! ### spec_l1In: function 73 -/
open Kd
def spec_l1In.f (a0 : Int) (a1 : Int) (a2 : Int) : Option (Bool) := if a0 ≥ a1 then (some (decide (a0 <= a2))) else (some false)
theorem spec_l1In.calls (a0 : Int) (a1 : Int) (a2 : Int) (r : Bool) (w : World) (h : spec_l1In.f a0 a1 a2 = some r) :
 Calls Try.prog 73 #[.int .i64 a0, .int .i64 a1, .int .i64 a2] w fun e w' => e = .returned (.bool r) /\ Drawn0 w w' := by
 have H := h
 clear h
 unfold spec_l1In.f at H
 replace H := ifQ H; rcases H with ⟨c4, H⟩ | ⟨c4, H⟩
 · have c4b0 : decide (a1 <= a0) = true := decide_eq_true c4
   clear c4
   obtain rfl := Option.some.inj H
   go_enter Try.func73, Try.ntmps73
   go_wp2
   go_ret
   exact ⟨RG, DR⟩
 have c4b0 : decide (a1 <= a0) = false := decide_eq_false c4
 clear c4
 obtain rfl := Option.some.inj H
 go_enter Try.func73, Try.ntmps73
 go_wp2
 go_ret
 exact ⟨RG, DR⟩
/-! ### spec_ttInputs: function 72 -/
open Kd
def spec_ttInputs.f (a0 : Int) : Option (Bool) := (spec_l1In.f a0 0 4).bind fun t121 => (some t121)
theorem spec_ttInputs.calls (a0 : Int) (r : Bool) (w : World) (h : spec_ttInputs.f a0 = some r) :
 Calls Try.prog 72 #[.int .i64 a0] w fun e w' => e = .returned (.bool r) /\ Drawn0 w w' := by
 have H := h
 clear h
 unfold spec_ttInputs.f at H
 replace H := bindA H; obtain ⟨t121, A2, H⟩ := H
 obtain rfl := Option.some.inj H
 go_enter Try.func72, Try.ntmps72
 go_wp2_with (first | ((with_reducible refine gate_callee (f := 73) rfl ?_); refine goesM (N := (some 4)) #[.int .i64 a0, .int .i64 0, .int .i64 4] Try.func73 ?_; (with_reducible refine (spec_l1In.calls a0 0 4 t121 _ A2.1).mono ?_); rintro e w' ⟨rfl, ⟨nd, rfl⟩⟩; refine ⟨_, rfl, ?_⟩))
 go_ret
 exact ⟨RG, DR⟩

-- NOT PRINTED: function 62 (impl_ordersOf)

-- NOT PRINTED: function 30 (impl_BestOrder)

-- NOT PRINTED: function 7 (laws_FnExactBestOrder)

end Go.Proofs.Ytdkfgomjfigmbaa.P
