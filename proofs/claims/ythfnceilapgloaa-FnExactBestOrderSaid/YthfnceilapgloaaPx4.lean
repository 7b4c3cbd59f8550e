-- PRINTED by print.py (a twelfth state) out of the translation. Not trusted: Lean checks it.
import Derived.Test.YthfnceilapgloaaPx0
import Derived.Test.YthfnceilapgloaaPx2
namespace Go.Proofs.Ythfnceilapgloaa.P
open Go.RowKit Go.Proofs.YthfnceilapgloaaW.PrintWords Go.Proofs.YthfnceilapgloaaW.PrintLast Go.Proofs.YthfnceilapgloaaW.PrintMore
attribute [local go_sem] max2_int min2_int max_two min_two max_three min_three max_four min_four   -- for this text's walks alone
set_option linter.unusedVariables false
set_option linter.unusedSimpArgs false
set_option maxHeartbeats 8000000
set_option maxRecDepth 100000

/-! ### impl_ordersOf: function 20 -/
open Kd
attribute [local go_sem] max2_int min2_int max_two min_two max_three min_three max_four min_four
theorem oty_ne {w : World} {a b : Nat} {t t' : TypeId} {cs cs' : Array Value} (ha : w.heap[a]? = some (.cells cs t (0, 0))) (hb : w.heap[b]? = some (.cells cs' t' (0, 0))) (h : t ≠ t') : a ≠ b := by
 rintro rfl
 rw [ha] at hb
 cases hb
 exact h rfl
theorem ostore_func {a : Addr} {m : Mode} {P : Program} {w : World} (f : Fn) (x y : Array Value) : (store a (.func f x y) m).run P w = stored P w a (.func f x y) m := run_store P w a _ m rfl
theorem ogoesC {P : Program} {ops : Array Oper} {Q : Exit -> Act -> World -> Prop} {oi : Oper} {N : Option Tmp} {a : Act} {w : World} {K : Act -> World -> Prop} {f : FuncId} {fn : Func} {xs_ : Array Operand} {ts : Array TypeId} (hf : P.funcs[f]? = some fn) (hname : (fn.name == "runtime.NumGoroutine") = false) (hb : fn.body.isSome = true) (x : Operand) (caps : Array Value) (hx : a.eval x = .func (.func f) #[] caps) (args : Array Value)
 (hw : Region.wanted oi (yielded ops a.tmps) = true) (hN : oi.dst = N) (hop : oi.op = .call { callee := .value x, args := xs_, argTypes := ts }) (hargs : xs_.map a.eval ++ caps = args)
 (h : Calls P f args w fun e w' => ∃ v, e = .returned v /\ K (a.put N v) w') : if Region.wanted oi (yielded ops a.tmps) = true then Oper.wp P oi a w K Q else K (a.put N undef) w := by
 refine call_ f args hw hN ?_ h
 have he := enters_ hf hname hb args w
 unfold execOp
 simp [hop, resolve, Deferred.ofValue, invoke, hx, hargs, he]
theorem contains_l0 (l : List Int) (x : Int) (hl : l.length <= 100) : ∀ (m i : Nat), l.length - i <= m -> i <= l.length -> ∃ r, slices_Index_int_int.l0 (m + 1) l x (l.length : Int) (i : Int) = some r /\ (0 <= r ↔ x ∈ l.drop i) := by
 intro m
 induction m with
 | zero =>
  intro i h1 h2
  have e : i = l.length := by omega
  refine ⟨-1, ?_, ?_⟩
  · unfold slices_Index_int_int.l0
    rw [if_neg (by omega)]
  · rw [e]; simp
 | succ m ih =>
  intro i h1 h2
  by_cases hi : i < l.length
  · unfold slices_Index_int_int.l0
    rw [if_pos (by omega), if_pos (by omega), if_pos (by omega)]
    have hd : l.drop i = l[i] :: l.drop (i + 1) := List.drop_eq_getElem_cons hi
    have hr : rd l (i : Int) = l[i] := by simp [rd, List.getD, hi]
    by_cases hx : x = rd l (i : Int)
    · rw [if_pos hx]
      refine ⟨_, rfl, ?_⟩
      rw [hd, hx, hr]
      exact ⟨fun _ => List.mem_cons_self, fun _ => by omega⟩
    · rw [if_neg hx]
      have hw : wrap64 ((i : Int) + 1) = ((i + 1 : Nat) : Int) := by unfold wrap64; omega
      rw [hw]
      obtain ⟨r, h3, h4⟩ := ih (i + 1) (by omega) (by omega)
      refine ⟨r, h3, h4.trans ?_⟩
      rw [hd, List.mem_cons]
      rw [hr] at hx
      exact ⟨.inr, fun h => h.resolve_left hx⟩
  · have e : i = l.length := by omega
    refine ⟨-1, ?_, ?_⟩
    · unfold slices_Index_int_int.l0
      rw [if_neg (by omega)]
    · rw [e]; simp
theorem contains_f (l : List Int) (x : Int) (hl : l.length <= 100) : slices_Contains_int_int.f (l.length + 1) l x = some (decide (x ∈ l)) := by
 obtain ⟨r, h1, h2⟩ := contains_l0 l x hl l.length 0 (by omega) (by omega)
 unfold slices_Contains_int_int.f slices_Index_int_int.f
 rw [show (0 : Int) = ((0 : Nat) : Int) from rfl, h1]
 simp only [Option.bind_some, Option.some.injEq]
 rw [List.drop_zero] at h2
 exact decide_eq_decide.mpr h2
/-- The orders that begin with o, in the program's order. -/
def exts (n : Nat) : Nat -> List Int -> List (List Int)
 | 0, _ => []
 | q + 1, o => if o.length = n then [o] else (List.range n).flatMap fun (i : Nat) => if (i : Int) ∈ o then [] else exts n q (o ++ [(i : Int)])
/-- Of them those whose next number is below i. -/
def extr (n q : Nat) (o : List Int) (i : Nat) : List (List Int) := (List.range i).flatMap fun (i : Nat) => if (i : Int) ∈ o then [] else exts n q (o ++ [(i : Int)])
theorem extr_succ (n q : Nat) (o : List Int) (i : Nat) : extr n q o (i + 1) = extr n q o i ++ (if (i : Int) ∈ o then [] else exts n q (o ++ [(i : Int)])) := by
 unfold extr
 rw [List.range_succ, List.flatMap_append, List.flatMap_singleton]
theorem extr_mono (n q : Nat) (o : List Int) {i j : Nat} (h : i <= j) : (extr n q o i).length <= (extr n q o j).length := by
 induction j with
 | zero => rw [show i = 0 by omega]; exact Nat.le_refl _
 | succ j ih =>
  rcases Nat.lt_or_ge j i with h1 | h1
  · rw [show i = j + 1 by omega]; exact Nat.le_refl _
  · have := ih h1
    rw [extr_succ, List.length_append]
    omega
def OFix (pn pe po : Nat) (n : Int) (w : World) : Prop := w.heap[pn]? = some (.cells #[.int .i64 n] 3 (0, 0)) /\ w.heap[pe]? = some (.cells #[.func (.func 30) #[] #[.pointer (some ⟨pn, 0, none⟩), .pointer (some ⟨po, 0, none⟩), .pointer (some ⟨pe, 0, none⟩)]] 55 (0, 0))
def OSt (base po : Nat) (out : List (List Int)) (w : World) : Prop := ∃ v, w.heap[po]? = some (.cells #[v] 36 (0, 0)) /\ Kd.S (Kd.slice 3 (Kd.int .i64)) 22 w base (fun _ => True) v out
/-- What stays: the blocks of all other types. -/
def OStay (w w' : World) : Prop := w.heap.size <= w'.heap.size /\ ∀ (k : Nat) (cs : Array Value) (t : TypeId), w.heap[k]? = some (.cells cs t (0, 0)) -> t ≠ 36 -> t ≠ 22 -> w'.heap[k]? = some (.cells cs t (0, 0))
theorem OStay.refl (w : World) : OStay w w := ⟨Nat.le_refl _, fun _ _ _ h _ _ => h⟩
theorem OStay.trans {w w1 w2 : World} (h : OStay w w1) (h' : OStay w1 w2) : OStay w w2 := ⟨Nat.le_trans h.1 h'.1, fun k cs t hk a b => h'.2 k cs t (h.2 k cs t hk a b) a b⟩
theorem OStay.below {w w1 w2 : World} (h : OStay w w1) (hb : Below w1.heap.size w1 w2) : OStay w w2 := h.trans ⟨hb.size, fun k cs t hk _ _ => blk_below hk hb⟩
theorem OFix.stay {pn pe po : Nat} {n : Int} {w w' : World} (h : OFix pn pe po n w) (hs : OStay w w') : OFix pn pe po n w' := ⟨hs.2 _ _ _ h.1 (by decide) (by decide), hs.2 _ _ _ h.2 (by decide) (by decide)⟩
theorem R_stay {w w' : World} {base : Nat} {v : Value} {xs : List Int} (h : Kd.R (Kd.int .i64) 3 w base (fun _ => True) v xs) (hs : OStay w w') : Kd.R (Kd.int .i64) 3 w' base (fun _ => True) v xs := by
 refine R_mono (R_move (R_bound h) (fun k hk => ?_)) (fun _ _ => trivial)
 obtain ⟨_, _, _, q, hq, cs, hc⟩ := hk
 have hE : (Kd.int .i64).E = [] := rfl
 rw [hE, List.mem_singleton] at hq
 subst hq
 rw [hs.2 k cs 3 hc (by decide) (by decide), hc]
structure OAll (W0 : World) (pn pe po : Nat) (n : Int) (out : List (List Int)) (w0 w : World) : Prop where
 hb : Below W0.heap.size W0 w
 fx : OFix pn pe po n w
 st : OSt W0.heap.size po out w
 sy : OStay w0 w
section
variable {W0 : World} {pn pe po : Nat} {n : Int} {out out' : List (List Int)} {w0 w w' : World}
theorem OAll.below (h : OAll W0 pn pe po n out w0 w) (hb : Below w.heap.size w w') : OAll W0 pn pe po n out w0 w' := by
 obtain ⟨v, h1, h2⟩ := h.st
 exact ⟨h.hb.trans (hb.mono h.hb.size), h.fx.stay ((OStay.refl w).below hb), ⟨v, blk_below h1 hb, S_below h2 hb⟩, h.sy.below hb⟩
theorem OAll.call (h : OAll W0 pn pe po n out w0 w) (h1 : OSt W0.heap.size po out' w') (h2 : OStay w w') (h3 : Below W0.heap.size W0 w') : OAll W0 pn pe po n out' w0 w' := ⟨h3, h.fx.stay h2, h1, h.sy.trans h2⟩
theorem OAll.cells (h : OAll W0 pn pe po n out w0 w) : w.cell? ⟨pn, 0, none⟩ = some (.int .i64 n) /\ w.cell? ⟨pe, 0, none⟩ = some (.func (.func 30) #[] #[.pointer (some ⟨pn, 0, none⟩), .pointer (some ⟨po, 0, none⟩), .pointer (some ⟨pe, 0, none⟩)]) :=
 ⟨(blk_cell h.fx.1 0).trans rfl, (blk_cell h.fx.2 0).trans rfl⟩
end
def ext.T6 : Bool × List (List Nat × List Nat) := (true, [([], []), ([], []), ([], []), ([1, 2], [1, 2]), ([], []), ([4], [4]), ([3, 5, 3], [3, 5]), ([0, 6, 6], [0, 6])])
def ext.B6 : List Nat := [0, 0, 0, 6, 0, 16, 62, 127]
theorem ext.tab6 : rtab .any (opsOf Try.f30 6) = ext.T6 := by kernel_rfl
theorem ext.bits6 : waitsOk ext.T6.2 ext.B6 = true := by kernel_rfl
theorem ext_calls (W0 : World) (pn pe po n : Nat) (hn : n <= 4) (hpo : W0.heap.size <= po) :
 ∀ (q : Nat) (o : List Int) (out : List (List Int)) (A : Option Addr) (c : Nat) (w : World), o.length <= n -> n < q + o.length -> out.length + (exts n q o).length <= 1000000 -> Below W0.heap.size W0 w -> OFix pn pe po (n : Int) w -> OSt W0.heap.size po out w -> Kd.R (Kd.int .i64) 3 w W0.heap.size (fun _ => True) (.slice A o.length c) o ->
 Calls Try.prog 30 #[.slice A o.length c, .pointer (some ⟨pn, 0, none⟩), .pointer (some ⟨po, 0, none⟩), .pointer (some ⟨pe, 0, none⟩)] w fun e w' => e = .returned (.tuple #[]) /\ OSt W0.heap.size po (out ++ exts n q o) w' /\ OStay w w' /\ Below W0.heap.size W0 w' := by
 intro q
 have hu36 := Try.underlying36
 have hu22 := Try.underlying22
 induction q with
 | zero => intro o out A c w h1 h2; omega
 | succ q ih =>
  intro o out A c w ho hq hl hB hF hO hR
  have HV := Aside0.mk (OAll.mk hB hF hO (OStay.refl w))
  have HR := Aside0.mk hR
  clear hB hF hO hR
  obtain ⟨hcn, hce⟩ := HV.1.cells
  by_cases c1 : o.length = n
  · have e : exts n (q + 1) o = [o] := if_pos c1
    rw [e] at hl ⊢
    have hl2 : (out.length + 1) * 24 <= 140737488355328 := by
     simp only [List.length_singleton] at hl
     omega
    have ho8 : (([] : List Int).length + o.length) * 8 <= 140737488355328 := by
     simp only [List.length_nil]
     omega
    have c1b : ((o.length : Int) == (n : Int)) = true := beq_iff_eq.mpr (by omega)
    have HL2 := Aside0.mk hl2
    have HO8 := Aside0.mk ho8
    obtain ⟨ov, hov, hS⟩ := HV.1.st
    obtain ⟨Aq, cq, eq_⟩ := R_slice (S_R hS)
    subst eq_
    have HOV := Aside0.mk hov
    have HS := Aside0.mk hS
    have hco : w.cell? ⟨po, 0, none⟩ = some (.slice Aq out.length cq) := (blk_cell hov 0).trans rfl
    clear ih hl hl2 ho8 e ho hq hov hS c1
    go_enter Try.func30, Try.ntmps30
    go_wp2_with fail
    refine start_ (n := 7) (S := fun w' => w'.cell? ⟨po, 0, none⟩ = some (.slice Aq out.length cq) /\ True) (ds := [5, 6]) #[Zz,Zz,Zz,Zz,Zz,Zz,Zz] (by kernel_rfl) rfl rfl ⟨hco, trivial⟩ (fun hHeld => ?_)
    refine E4 (HV.1.below (below_drew1 (Below.refl _ _))) (R_drew HR.1) (S_drew HS.1) (blk_drew HOV.1) ?_
    clear HV HR HS HOV hcn hce hco
    intro HV HR HS HOV
    generalize w.drew = w1 at hHeld HV HR HS HOV ⊢
    have hpl : po < w1.heap.size := blk_lt HOV.1
    have hpx := (blk_cell HOV.1 0).trans rfl
    refine pureF 2 (N := some 12) rfl ?_
    refine takeF 0 (N := some 10) hHeld ?_
    refine one_ (i := 1) (N := some 11) #[Yy,Yy,Yy,Zz,Zz,Zz,Zz] rfl rfl (by kernel_rfl) (by decide) (fun K hK => ?_)
    refine R_lit_step (Kd.int .i64) _ 3 ?hg (N := 11) ?hd (xs := ([] : List Int)) (inner := []) (ok := fun _ => True) (okp := fun _ => True) ?hr ?hp (fun _ hk => hk) trivial (Below.refl _ _) (Nat.le_refl _) (by simp) ?_; (case hd => rfl); (case hg => rfl); (case hr => first | (go_simp; done) | (go_simp; rfl)); (case hp => exact (Reps.none _ _))
    intro v11 w11 ho12 hb hg_ hnew_
    clear hg_ hnew_
    have HB := Aside0.mk hb
    have HO12 := Aside0.mk ho12
    clear hb ho12
    refine hK.out _ _ ⟨(HB.1.cell (p := ⟨po, 0, none⟩) hpl).trans hpx, trivial⟩ (fun hHeld => ?_)
    clear hK K
    refine norm_ (a' := ?_) ?_ ?_
    rotate_left
    · show Act.put _ (some 11) _ = _
      simp only [Act.put, List.setIfInBounds_toArray, List.set_cons_zero, List.set_cons_succ, i64_w, i32_w]
      rfl
    refine one_ (i := 3) (N := some 13) #[Yy,Yy,Yy,Yy,Zz,Zz,Zz] rfl rfl (by kernel_rfl) (by decide) (fun K hK => ?_)
    refine R_append_rows_step (Kd.int .i64) (w0 := w1) w1.heap.size (by rfl) (.tmp 11) (.tmp 12) 22 3 (.int .i64 0) 8 rfl Try.underlying22 info3 rfl (by decide) (by omega) v11 [] o _ _ _ (fun _ => True) (fun _ => False) rfl rfl HO12.1 (C_below (R_reads' HR.1).2.2 HB.1) (fun _ _ h => h) (fun _ h => h.elim) (fun _ _ => trivial) HB.1 HB.1.size HO8.1 ?_
    intro v13 w13 ho hb hg hat
    rw [List.nil_append] at ho
    have HO13 := Aside0.mk ho
    clear HB ho hg hat
    have HB := Aside0.mk hb
    clear hb
    obtain ⟨Ao, co, eo⟩ := R_slice HO13.1
    subst eo
    refine hK.out _ _ ⟨(HB.1.cell (p := ⟨po, 0, none⟩) hpl).trans hpx, trivial⟩ (fun hHeld => ?_)
    clear hK K
    refine norm_ (a' := ?_) ?_ ?_
    rotate_left
    · show Act.put _ (some 13) _ = _
      simp only [Act.put, List.setIfInBounds_toArray, List.set_cons_zero, List.set_cons_succ, i64_w, i32_w]
      rfl
    refine one_ (i := 4) (N := some 14) #[Yy,Yy,Yy,Yy,Yy,Zz,Zz] rfl rfl (by kernel_rfl) (by decide) (fun K hK => ?_)
    refine value_ (w1 := ?_) (v := ?_) (by rfl) rfl ?_ ?_
    rotate_left 2
    · go_simp
      constructor
      · rfl
      rfl
    refine hK.out _ _ ⟨cell_alloc_lt ((HB.1.cell (p := ⟨po, 0, none⟩) hpl).trans hpx) (Nat.lt_of_lt_of_le hpl HB.1.size), trivial⟩ (fun hHeld => ?_)
    clear hK K
    refine norm_ (a' := ?_) ?_ ?_
    rotate_left
    · show Act.put _ (some 14) _ = _
      simp only [Act.put, List.setIfInBounds_toArray, List.set_cons_zero, List.set_cons_succ, i64_w, i32_w]
      rfl
    have hbs := HV.1.hb.size
    refine last_ (i := 5) (N := some 15) #[Yy,Yy,Yy,Yy,Yy,Yy,Zz] rfl rfl (by kernel_rfl) (by decide) (fun K hK => ?_)
    refine S_append_step (Kd.slice 3 (Kd.int .i64)) (w0 := W0) W0.heap.size (by rfl) (.tmp 10) (.tmp 14) 36 22 (.slice none 0 0) 24 rfl Try.underlying36 info22 rfl (by decide) (by omega) (.slice Aq out.length cq) out o [.slice Ao o.length co] (fun _ => True) (fun k => w1.heap.size <= k) rfl rfl (M_row (R_lower (R_mono (R_bound HO13.1) (fun _ hk => hk.2.1)) hbs)) (fun k hk => ⟨trivial, fun e => by have := S_lt HS.1 k e.symm; omega⟩) (fun _ _ => trivial) (S_below (S_mono (S_bound HS.1) (fun k hk => ⟨trivial, by have := hk.2.2.1; omega⟩)) HB.1) (HV.1.hb.trans (HB.1.mono hbs)) (Nat.le_trans hbs HB.1.size) HL2.1 ?_
    intro v1 w24 ho4 hb4 hg4 hat4
    obtain ⟨A1, cc1, ev1⟩ := R_slice (S_R ho4)
    subst ev1
    have HO4 := Aside0.mk ho4
    have HB4 := Aside0.mk hb4
    have HG4 := Aside0.mk hg4
    clear ho4 hb4 hg4 hat4
    refine hK.out _ _ ?_
    clear hK K
    refine norm_ (a' := ?_) ?_ ?_
    rotate_left
    · show Act.put _ (some 15) _ = _
      simp only [Act.put, List.setIfInBounds_toArray, List.set_cons_zero, List.set_cons_succ, i64_w, i32_w]
      rfl
    have HV24 := Aside0.mk (blk_grown (blk_below HOV.1 HB.1) HG4.1 (R_ne (S_R HS.1) HOV.1 (by decide)))
    have hcp : w24.cell? ⟨po, 0, none⟩ = some (.slice Aq out.length cq) := (blk_cell HV24.1 0).trans rfl
    have hfp2 := blk_frozen HV24.1 0
    refine last_ (i := 6) (N := none) #[Yy,Yy,Yy,Yy,Yy,Yy,Yy] rfl rfl (by kernel_rfl) (by decide) (fun K hK => ?_)
    refine skip_ (w1 := w24.setCell ⟨po, 0, none⟩ (.slice A1 (out ++ [o]).length cc1)) (by rfl) rfl ?_ ?_
    · go_simp
    refine hK.out _ _ ?_
    clear hK K hcp hfp2
    refine done_ (by kernel_rfl) ?_
    have HP := Aside0.mk (blk_put HV24.1 0 (.slice A1 (out ++ [o]).length cc1) rfl)
    have HS5 := Aside0.mk (S_set HO4.1 HV24.1 (by decide) 0 (.slice A1 (out ++ [o]).length cc1))
    have HB5 := Aside0.mk (HB4.1.setCell (p := ⟨po, 0, none⟩) hpo (.slice A1 (out ++ [o]).length cc1))
    have HY5 : Aside0 (OStay w (w24.setCell ⟨po, 0, none⟩ (.slice A1 (out ++ [o]).length cc1))) := ⟨by
     refine ⟨?_, fun k cs t hk a b => ?_⟩
     · have h1 := HV.1.sy.1
       have h2 := HB.1.size
       have h3 := HG4.1.size
       simp [World.setCell]
       omega
     · have h8 := blk_below (HV.1.sy.2 k cs t hk a b) HB.1
       have h9 := blk_grown h8 HG4.1 (R_ne (S_R (S_below HS.1 HB.1)) h8 (Ne.symm b))
       exact blk_far h9 (oty_ne h9 HV24.1 a) _⟩
    generalize w24.setCell ⟨po, 0, none⟩ (.slice A1 (out ++ [o]).length cc1) = w25 at HP HS5 HB5 HY5 ⊢
    go_wp2
    first | go_end0 | ((try simp only [Exit.inBlock, Exit.then]); refine bodyPost_ret (results_none rfl _ _ _) rfl ?_)
    exact ⟨rfl, ⟨_, HP.1, HS5.1⟩, HY5.1, HB5.1⟩
  · have e : exts n (q + 1) o = extr n q o n := if_neg c1
    rw [e] at hl ⊢
    have c1b : ((o.length : Int) == (n : Int)) = false := beq_eq_false_iff_ne.mpr (by omega)
    have HL := Aside0.mk hl
    have HQ := Aside0.mk hq
    have HO := Aside0.mk (show o.length < n by omega)
    have HIH := Aside0.mk ih
    clear ih hl hq ho e c1
    go_enter Try.func30, Try.ntmps30
    go_wp2
    go_loopg [5] (n + 1) (fun kq v5 w' => ∃ (x5 : Int) (i : Nat), v5 = .int .i64 x5 /\ Aside0 (x5 = (i : Int)) /\ Aside0 (kq + i = n + 1) /\ Aside0 (i <= n) /\ Aside0 (OAll W0 pn pe po (n : Int) (out ++ extr n q o i) w w'))
    case atStart => exact ⟨0, 0, rfl, ⟨rfl⟩, ⟨rfl⟩, ⟨Nat.zero_le _⟩, ⟨by simpa [extr] using HV.1⟩⟩
    clear hcn hce
    have HV0 := HR
    clear HV
    obtain ⟨x5, i, rfl, HI, HK, HLI, HV⟩ := hrel
    cases gk with
    | zero => have := HK.1; have := HLI.1; omega
    | succ k1 => ?_
    obtain ⟨hcn, hce⟩ := HV.1.cells
    have HRr := Aside0.mk (R_stay HR.1 HV.1.sy)
    by_cases hi : i < n
    · have c8 : decide (x5 < (n : Int)) = true := decide_eq_true (by have := HI.1; omega)
      have hcon := contains_f o x5 (by have := HO.1; omega)
      have HCON := Aside0.mk hcon
      clear hcon
      by_cases hm : x5 ∈ o
      · have hd : decide (x5 ∈ o) = true := decide_eq_true hm
        rw [hd] at HCON
        have HM := Aside0.mk hm
        clear hm hd
        go_wp2_with (first | ((with_reducible refine gate_callee (f := 31) rfl ?_); refine goesM (N := (some 23)) #[.slice A o.length c, .int .i64 x5] Try.func31 ?_; (with_reducible refine (slices_Contains_int_int.calls _ _ _ o x5 true _ ?side1 ?side2 HCON.1).mono ?_); (case side1 => repeat (first | exact (R_reads' HRr.1).2.2 | (with_reducible refine C_alloc ?_ _) | (with_reducible refine C_drewN ?_ _) | (with_reducible refine C_drew ?_))); (case side2 => exact (R_reads' HRr.1).2.1); rintro e w' ⟨rfl, ⟨nd, rfl⟩⟩; refine ⟨_, rfl, ?_⟩))
        go_roundg k1
        case measure => exact Nat.lt_succ_self _
        case rel =>
         refine ⟨wrap64 (x5 + 1), i + 1, RG, ⟨?_⟩, ⟨by have := HK.1; omega⟩, ⟨by omega⟩, ⟨?_⟩⟩
         · have := HI.1
           unfold wrap64; omega
         · have hx : (i : Int) ∈ o := by rw [<- HI.1]; exact HM.1
           rw [extr_succ, if_pos hx, List.append_nil]
           exact HV.1.below (pw_below_drewN (Below.refl _ _) _)
      · have hd : decide (x5 ∈ o) = false := decide_eq_false hm
        rw [hd] at HCON
        have HM := Aside0.mk hm
        clear hm hd
        go_wp2_with (first | ((with_reducible refine gate_callee (f := 31) rfl ?_); refine goesM (N := (some 23)) #[.slice A o.length c, .int .i64 x5] Try.func31 ?_; (with_reducible refine (slices_Contains_int_int.calls _ _ _ o x5 false _ ?side1 ?side2 HCON.1).mono ?_); (case side1 => repeat (first | exact (R_reads' HRr.1).2.2 | (with_reducible refine C_alloc ?_ _) | (with_reducible refine C_drewN ?_ _) | (with_reducible refine C_drew ?_))); (case side2 => exact (R_reads' HRr.1).2.1); rintro e w' ⟨rfl, ⟨nd, rfl⟩⟩; refine ⟨_, rfl, ?_⟩))
        refine E2 (HV.1.below (pw_below_drewN (Below.refl _ _) nd)) (R_drewN HRr.1 nd) ?_
        clear HV HRr hcn hce
        intro HV HRr
        generalize wr.drewN nd = wb at HV HRr ⊢
        have hpl : pe < wb.heap.size := blk_lt HV.1.fx.2
        have hpx := HV.1.cells.2
        have HC := Aside0.mk (R_reads' HRr.1).2.2
        obtain ⟨y1, hy1⟩ : ∃ y, y = ([] : List Int) := ⟨_, rfl⟩
        obtain ⟨y2, hy2⟩ : ∃ y, y = y1 ++ o := ⟨_, rfl⟩
        obtain ⟨y3, hy3⟩ : ∃ y, y = [x5] := ⟨_, rfl⟩
        obtain ⟨y4, hy4⟩ : ∃ y, y = y2 ++ y3 := ⟨_, rfl⟩
        have LM1 := Aside0.mk (show y1.length + o.length < 17592186044416 by rw [hy1]; have := HO.1; simp only [List.length_nil]; omega)
        have LM2 := Aside0.mk (show y2.length + y3.length < 17592186044416 by rw [hy2, hy3, hy1]; have := HO.1; simp only [List.nil_append, List.length_singleton]; omega)
        have E4 := Aside0.mk (show y4 = o ++ [(i : Int)] by rw [hy4, hy3, hy2, hy1, List.nil_append, HI.1])
        have Ny1 := Aside0.mk hy1
        have Ny2 := Aside0.mk hy2
        have Ny3 := Aside0.mk hy3
        have Ny4 := Aside0.mk hy4
        clear hy1 hy2 hy3 hy4
        refine start_ (n := 8) (S := fun w' => w'.cell? ⟨pe, 0, none⟩ = some (.func (.func 30) #[] #[.pointer (some ⟨pn, 0, none⟩), .pointer (some ⟨po, 0, none⟩), .pointer (some ⟨pe, 0, none⟩)]) /\ True) (ds := [7]) #[Zz,Zz,Zz,Zz,Zz,Zz,Zz,Zz] (by kernel_rfl) rfl rfl ⟨hpx, trivial⟩ (fun hHeld => ?_); refine with_tabW ext.tab6 ext.bits6 (fun HT_ HW_ => ?_)
        have HB := Aside0.mk (below_drew1 (Below.refl wb.heap.size wb))
        generalize wb.drew = w6 at HB hHeld ⊢
        refine pureF 2 (N := some 27) HT_.1 ?_
        refine pureF 4 (N := some 29) HT_.1 ?_
        refine takeE 0 (N := some 25) HT_.1 HW_.1 hHeld ?_
        refine join_ (σ := Value × Value × Value) 2 #[Yy,Yy,Yy,Yy,Yy,Yy,Zz,Zz] (fun s_ => [(26, s_.1), (28, s_.2.1), (30, s_.2.2)]) (fun s_ w' => (Kd.R (Kd.int .i64) 3 w' wb.heap.size (fun k_ => some k_ ≠ (s_.2.2 : Value).ownBlock) s_.2.1 y2) /\ (Kd.R (Kd.int .i64) 3 w' wb.heap.size (fun k_ => some k_ ≠ (s_.2.1 : Value).ownBlock) s_.2.2 y3) /\ (Below wb.heap.size wb w')) ?_ ?_
        rotate_left
        · intro hCont
          refine two_ (i := 1) (j := 5) (Ni := some 26) (Nj := some 30) #[Yy,Yy,Yy,Zz,Yy,Zz,Zz,Zz] #[Yy,Zz,Yy,Zz,Yy,Yy,Zz,Zz] rfl rfl rfl rfl (two_of HT_.1 (by kernel_rfl)) (by decide) (by decide) (fun K hK => ?_) (fun K hK => ?_)
          · skip
            refine R_lit_step (Kd.int .i64) _ 3 ?hg (N := 26) ?hd (xs := ([] : List Int)) (inner := []) (ok := fun _ => True) (okp := fun _ => True) ?hr ?hp (fun _ hk => hk) trivial (Below.refl _ _) (Nat.le_refl _) (by simp) ?_; (case hd => rfl); (case hg => rfl); (case hr => first | (go_simp; done) | (go_simp; rfl)); (case hp => exact (Reps.none _ _))
            intro v178 w7 ho8 hb hg_ hnew_
            clear hg_ hnew_
            (first | rw [<- Ny1.1] at ho8 | (simp only [Int.reduceToNat] at ho8; rw [<- Ny1.1] at ho8))
            refine E2 (R_lower ho8 (bZ HB.1)) (bS HB.1 hb) ?_
            clear HB
            intro HO179 HB
            clear hb ho8
            refine hK.out _ _ ⟨(HB.1.cell (p := ⟨pe, 0, none⟩) hpl).trans hpx, trivial⟩ (fun hHeld => ?_)
            clear hK K
            refine norm_ (a' := ?_) ?_ ?_
            rotate_left
            · show Act.put _ (some 26) _ = _
              simp only [Act.put, List.setIfInBounds_toArray, List.set_cons_zero, List.set_cons_succ, i64_w, i32_w]
              rfl
            refine two_ (i := 3) (j := 5) (Ni := some 28) (Nj := some 30) #[Yy,Yy,Yy,Yy,Yy,Zz,Zz,Zz] #[Yy,Yy,Yy,Zz,Yy,Yy,Zz,Zz] rfl rfl rfl rfl (two_of HT_.1 (by kernel_rfl)) (by decide) (by decide) (fun K hK => ?_) (fun K hK => ?_)
            · skip
              refine R_append_rows_step (Kd.int .i64) (w0 := wb) wb.heap.size (by rfl) (.tmp 26) (.tmp 27) 22 3 (.int .i64 0) 8 rfl Try.underlying22 info3 rfl (by decide) (by omega) v178 y1 o _ _ _ (fun _ => True) (fun _ => False) rfl rfl ?aO ?aR (fun _ _ h => h) (fun _ h => h.elim) ?aF ?aB ?aS ?aL ?_
              (case aR => repeat (first | exact (C_below HC.1 HB.1) | (with_reducible refine C_alloc ?_ _) | (with_reducible refine C_drewN ?_ _) | (with_reducible refine C_drew ?_)))
              (case aB => exact (BL HB.1))
              (case aF => exact (fun _ _ => trivial))
              (case aO => exact (PR HO179.1))
              (case aS => exact (bZ HB.1))
              (case aL => have := LM1.1; omega)
              intro v181 w9 ho hb hg hat
              rw [<- Ny2.1] at ho
              refine E2 (hb) (ho) ?_
              clear HB HO179
              intro HB HO182
              clear ho hb hg hat
              refine hK.out _ _ ⟨(HB.1.cell (p := ⟨pe, 0, none⟩) hpl).trans hpx, trivial⟩ (fun hHeld => ?_)
              clear hK K
              refine norm_ (a' := ?_) ?_ ?_
              rotate_left
              · show Act.put _ (some 28) _ = _
                simp only [Act.put, List.setIfInBounds_toArray, List.set_cons_zero, List.set_cons_succ, i64_w, i32_w]
                rfl
              refine one_ (i := 5) (N := some 30) #[Yy,Yy,Yy,Yy,Yy,Yy,Zz,Zz] rfl rfl (one_of HT_.1 (by kernel_rfl)) (by decide) (fun K hK => ?_)
              refine R_lit_step (Kd.int .i64) _ 3 ?hg (N := 30) ?hd (xs := ([x5] : List Int)) (inner := [.int .i64 x5]) (ok := fun _ => True) (okp := fun _ => True) ?hr ?hp (fun _ hk => hk) trivial (Below.refl _ _) (Nat.le_refl _) (by simp) ?_; (case hd => rfl); (case hg => rfl); (case hr => first | (go_simp; done) | (go_simp; rfl)); (case hp => exact (Reps.one (show Kd.M (Kd.int .i64) _ _ _ x5 [.int .i64 x5] from rfl) (Reps.none _ _)))
              intro v184 w10 ho11 hb hg_ hnew_
              clear hg_ hnew_
              (first | rw [<- Ny3.1] at ho11 | (simp only [Int.reduceToNat] at ho11; rw [<- Ny3.1] at ho11))
              refine E3 (R_elder' (PR HO182.1) (R_base ho11) hb) (R_lower (R_new' ho11 (R_lt (PR HO182.1))) (bZ HB.1)) (bS HB.1 hb) ?_
              clear HO182 HB
              intro HO182 HO185 HB
              clear hb ho11
              refine hK.out _ _ ⟨(HB.1.cell (p := ⟨pe, 0, none⟩) hpl).trans hpx, trivial⟩ (fun hHeld => ?_)
              clear hK K
              refine norm_ (a' := ?_) ?_ ?_
              rotate_left
              · show Act.put _ (some 30) _ = _
                simp only [Act.put, List.setIfInBounds_toArray, List.set_cons_zero, List.set_cons_succ, i64_w, i32_w]
                rfl
              exact norm_ NA (hCont (v178, v181, v184) _ ⟨(RPE (R_mono HO182.1 (fun _ hk => hk.2))), (RPE (R_mono HO185.1 (fun _ hk => hk.2))), (BL HB.1)⟩)
            skip
            refine R_lit_step (Kd.int .i64) _ 3 ?hg (N := 30) ?hd (xs := ([x5] : List Int)) (inner := [.int .i64 x5]) (ok := fun _ => True) (okp := fun _ => True) ?hr ?hp (fun _ hk => hk) trivial (Below.refl _ _) (Nat.le_refl _) (by simp) ?_; (case hd => rfl); (case hg => rfl); (case hr => first | (go_simp; done) | (go_simp; rfl)); (case hp => exact (Reps.one (show Kd.M (Kd.int .i64) _ _ _ x5 [.int .i64 x5] from rfl) (Reps.none _ _)))
            intro v184 w9 ho10 hb hg_ hnew_
            clear hg_ hnew_
            (first | rw [<- Ny3.1] at ho10 | (simp only [Int.reduceToNat] at ho10; rw [<- Ny3.1] at ho10))
            refine E3 (R_elder' (PR HO179.1) (R_base ho10) hb) (R_lower (R_new' ho10 (R_lt (PR HO179.1))) (bZ HB.1)) (bS HB.1 hb) ?_
            clear HO179 HB
            intro HO179 HO185 HB
            clear hb ho10
            refine hK.out _ _ ⟨(HB.1.cell (p := ⟨pe, 0, none⟩) hpl).trans hpx, trivial⟩ (fun hHeld => ?_)
            clear hK K
            refine norm_ (a' := ?_) ?_ ?_
            rotate_left
            · show Act.put _ (some 30) _ = _
              simp only [Act.put, List.setIfInBounds_toArray, List.set_cons_zero, List.set_cons_succ, i64_w, i32_w]
              rfl
            refine one_ (i := 3) (N := some 28) #[Yy,Yy,Yy,Yy,Yy,Yy,Zz,Zz] rfl rfl (one_of HT_.1 (by kernel_rfl)) (by decide) (fun K hK => ?_)
            refine R_append_rows_step (Kd.int .i64) (w0 := wb) wb.heap.size (by rfl) (.tmp 26) (.tmp 27) 22 3 (.int .i64 0) 8 rfl Try.underlying22 info3 rfl (by decide) (by omega) v178 y1 o _ _ _ (fun k_ => some k_ ≠ (v184 : Value).ownBlock) (fun _ => False) rfl rfl ?aO ?aR (fun _ _ h => h) (fun _ h => h.elim) ?aF ?aB ?aS ?aL ?_
            (case aR => repeat (first | exact (C_below HC.1 HB.1) | (with_reducible refine C_alloc ?_ _) | (with_reducible refine C_drewN ?_ _) | (with_reducible refine C_drew ?_)))
            (case aB => exact (BL HB.1))
            (case aF => exact (fun k_ hk => Kd.fresh' (R_lt (PR HO185.1)) k_ hk))
            (case aO => exact (RPE (R_mono HO179.1 (fun _ hk => hk.2))))
            (case aS => exact (bZ HB.1))
            (case aL => have := LM1.1; omega)
            intro v181 w11 ho hb hg hat
            rw [<- Ny2.1] at ho
            refine E3 (R_after (ok := (fun _ => True)) (PR HO185.1) hg hat) (hb) (ho) ?_
            clear HO185 HB HO179
            intro HO185 HB HO182
            clear ho hb hg hat
            refine hK.out _ _ ⟨(HB.1.cell (p := ⟨pe, 0, none⟩) hpl).trans hpx, trivial⟩ (fun hHeld => ?_)
            clear hK K
            refine norm_ (a' := ?_) ?_ ?_
            rotate_left
            · show Act.put _ (some 28) _ = _
              simp only [Act.put, List.setIfInBounds_toArray, List.set_cons_zero, List.set_cons_succ, i64_w, i32_w]
              rfl
            exact norm_ NA (hCont (v178, v181, v184) _ ⟨(PR HO182.1), (RPE (R_mono HO185.1 (fun _ hk => hk.2))), (BL HB.1)⟩)
          skip
          refine R_lit_step (Kd.int .i64) _ 3 ?hg (N := 30) ?hd (xs := ([x5] : List Int)) (inner := [.int .i64 x5]) (ok := fun _ => True) (okp := fun _ => True) ?hr ?hp (fun _ hk => hk) trivial (Below.refl _ _) (Nat.le_refl _) (by simp) ?_; (case hd => rfl); (case hg => rfl); (case hr => first | (go_simp; done) | (go_simp; rfl)); (case hp => exact (Reps.one (show Kd.M (Kd.int .i64) _ _ _ x5 [.int .i64 x5] from rfl) (Reps.none _ _)))
          intro v184 w7 ho8 hb hg_ hnew_
          clear hg_ hnew_
          (first | rw [<- Ny3.1] at ho8 | (simp only [Int.reduceToNat] at ho8; rw [<- Ny3.1] at ho8))
          refine E2 (R_lower ho8 (bZ HB.1)) (bS HB.1 hb) ?_
          clear HB
          intro HO185 HB
          clear hb ho8
          refine hK.out _ _ ⟨(HB.1.cell (p := ⟨pe, 0, none⟩) hpl).trans hpx, trivial⟩ (fun hHeld => ?_)
          clear hK K
          refine norm_ (a' := ?_) ?_ ?_
          rotate_left
          · show Act.put _ (some 30) _ = _
            simp only [Act.put, List.setIfInBounds_toArray, List.set_cons_zero, List.set_cons_succ, i64_w, i32_w]
            rfl
          refine one_ (i := 1) (N := some 26) #[Yy,Yy,Yy,Zz,Yy,Yy,Zz,Zz] rfl rfl (one_of HT_.1 (by kernel_rfl)) (by decide) (fun K hK => ?_)
          refine R_lit_step (Kd.int .i64) _ 3 ?hg (N := 26) ?hd (xs := ([] : List Int)) (inner := []) (ok := fun _ => True) (okp := fun _ => True) ?hr ?hp (fun _ hk => hk) trivial (Below.refl _ _) (Nat.le_refl _) (by simp) ?_; (case hd => rfl); (case hg => rfl); (case hr => first | (go_simp; done) | (go_simp; rfl)); (case hp => exact (Reps.none _ _))
          intro v178 w9 ho10 hb hg_ hnew_
          clear hg_ hnew_
          (first | rw [<- Ny1.1] at ho10 | (simp only [Int.reduceToNat] at ho10; rw [<- Ny1.1] at ho10))
          refine E3 (R_elder' (PR HO185.1) (R_base ho10) hb) (R_lower (R_new' ho10 (R_lt (PR HO185.1))) (bZ HB.1)) (bS HB.1 hb) ?_
          clear HO185 HB
          intro HO185 HO179 HB
          clear hb ho10
          refine hK.out _ _ ⟨(HB.1.cell (p := ⟨pe, 0, none⟩) hpl).trans hpx, trivial⟩ (fun hHeld => ?_)
          clear hK K
          refine norm_ (a' := ?_) ?_ ?_
          rotate_left
          · show Act.put _ (some 26) _ = _
            simp only [Act.put, List.setIfInBounds_toArray, List.set_cons_zero, List.set_cons_succ, i64_w, i32_w]
            rfl
          refine one_ (i := 3) (N := some 28) #[Yy,Yy,Yy,Yy,Yy,Yy,Zz,Zz] rfl rfl (one_of HT_.1 (by kernel_rfl)) (by decide) (fun K hK => ?_)
          refine R_append_rows_step (Kd.int .i64) (w0 := wb) wb.heap.size (by rfl) (.tmp 26) (.tmp 27) 22 3 (.int .i64 0) 8 rfl Try.underlying22 info3 rfl (by decide) (by omega) v178 y1 o _ _ _ (fun k_ => some k_ ≠ (v184 : Value).ownBlock) (fun _ => False) rfl rfl ?aO ?aR (fun _ _ h => h) (fun _ h => h.elim) ?aF ?aB ?aS ?aL ?_
          (case aR => repeat (first | exact (C_below HC.1 HB.1) | (with_reducible refine C_alloc ?_ _) | (with_reducible refine C_drewN ?_ _) | (with_reducible refine C_drew ?_)))
          (case aB => exact (BL HB.1))
          (case aF => exact (fun k_ hk => Kd.fresh' (R_lt (PR HO185.1)) k_ hk))
          (case aO => exact (RPE (R_mono HO179.1 (fun _ hk => hk.2))))
          (case aS => exact (bZ HB.1))
          (case aL => have := LM1.1; omega)
          intro v181 w11 ho hb hg hat
          rw [<- Ny2.1] at ho
          refine E3 (R_after (ok := (fun _ => True)) (PR HO185.1) hg hat) (hb) (ho) ?_
          clear HO185 HB HO179
          intro HO185 HB HO182
          clear ho hb hg hat
          refine hK.out _ _ ⟨(HB.1.cell (p := ⟨pe, 0, none⟩) hpl).trans hpx, trivial⟩ (fun hHeld => ?_)
          clear hK K
          refine norm_ (a' := ?_) ?_ ?_
          rotate_left
          · show Act.put _ (some 28) _ = _
            simp only [Act.put, List.setIfInBounds_toArray, List.set_cons_zero, List.set_cons_succ, i64_w, i32_w]
            rfl
          exact norm_ NA (hCont (v178, v181, v184) _ ⟨(PR HO182.1), (RPE (R_mono HO185.1 (fun _ hk => hk.2))), (BL HB.1)⟩)
        rintro ⟨v178, v181, v184⟩ w12 ⟨h0_, h1_, h2_⟩
        refine E3 (show Kd.R (Kd.int .i64) 3 w12 wb.heap.size (fun k_ => some k_ ≠ (v184 : Value).ownBlock) v181 y2 from h0_) (show Kd.R (Kd.int .i64) 3 w12 wb.heap.size (fun k_ => some k_ ≠ (v181 : Value).ownBlock) v184 y3 from h1_) (show Below wb.heap.size wb w12 from h2_) ?_
        clear HB h0_ h1_ h2_
        intro HO182 HO185 HB
        have hHeld := True.intro
        obtain ⟨Ao14, co14, eo14⟩ := R_slice HO185.1
        (first | subst eo14 | (injection eo14 with f1_ f2_ f3_; have f4_ := f1_.symm; have f5_ := f3_.symm; clear f1_ f2_ f3_; subst f4_; subst f5_))
        refine norm_ (a' := ?_) ?_ ?_
        rotate_left
        · simp only [putAll, Act.put, List.setIfInBounds_toArray, List.set_cons_zero, List.set_cons_succ]
          rfl
        refine one_ (i := 6) (N := some 31) #[Yy,Yy,Yy,Yy,Yy,Yy,Yy,Zz] rfl rfl (one_of HT_.1 (by kernel_rfl)) (by decide) (fun K hK => ?_)
        refine R_append_rows_step (Kd.int .i64) (w0 := wb) wb.heap.size (by rfl) (.tmp 28) (.tmp 30) 22 3 (.int .i64 0) 8 rfl Try.underlying22 info3 rfl (by decide) (by omega) v181 y2 y3 _ _ _ (fun k_ => some k_ ≠ (.slice Ao14 y3.length co14 : Value).ownBlock) (fun _ => False) rfl rfl ?aO ?aR (fun _ _ h => h) (fun _ h => h.elim) ?aF ?aB ?aS ?aL ?_
        (case aR => repeat (first | exact (R_reads' HO185.1).2.2 | (with_reducible refine C_alloc ?_ _) | (with_reducible refine C_drewN ?_ _) | (with_reducible refine C_drew ?_)))
        (case aB => exact (BL HB.1))
        (case aF => exact (fun k_ hk => Kd.fresh' (R_lt (PR HO185.1)) k_ hk))
        (case aO => exact (PR HO182.1))
        (case aS => exact (bZ HB.1))
        (case aL => have := LM2.1; omega)
        intro v187 w13 ho hb hg hat
        rw [<- Ny4.1] at ho
        refine E3 (R_after (ok := (fun _ => True)) (RPE (R_mono HO185.1 (fun _ hk => ⟨trivial, hk⟩))) hg hat) (hb) (ho) ?_
        clear HO185 HB HO182
        intro HO185 HB HO188
        clear ho hb hg hat
        obtain ⟨Ao15, co15, eo15⟩ := R_slice HO188.1
        (first | subst eo15 | (injection eo15 with f1_ f2_ f3_; have f4_ := f1_.symm; have f5_ := f3_.symm; clear f1_ f2_ f3_; subst f4_; subst f5_))
        refine hK.out _ _ ⟨(HB.1.cell (p := ⟨pe, 0, none⟩) hpl).trans hpx, trivial⟩ (fun hHeld => ?_)
        clear hK K
        refine norm_ (a' := ?_) ?_ ?_
        rotate_left
        · show Act.put _ (some 31) _ = _
          simp only [Act.put, List.setIfInBounds_toArray, List.set_cons_zero, List.set_cons_succ, i64_w, i32_w]
          rfl
        have n0_ := Aside0.mk (HV.1.below HB.1)
        have n1_ := Aside0.mk (R_mono (R_lower HO188.1 HV.1.hb.size) (fun _ _ => trivial))
        clear HV HB hHeld
        have HV := n0_
        clear n0_
        have hlen : y4.length = o.length + 1 := by rw [E4.1, List.length_append, List.length_singleton]
        have hlb : (out ++ extr n q o i).length + (exts n q y4).length <= 1000000 := by
         have h1 := extr_mono n q o (show i + 1 <= n by omega)
         have h2 := HL.1
         rw [extr_succ, if_neg (by rw [<- HI.1]; exact HM.1), List.length_append, <- E4.1] at h1
         rw [List.length_append]
         omega
        have a1 := HIH.1 y4 (out ++ extr n q o i) Ao15 co15 w13 (by have := HO.1; omega) (by have := HQ.1; omega) hlb HV.1.hb HV.1.fx HV.1.st n1_.1
        have HA1 := Aside0.mk a1
        clear a1 n1_ hlb hlen
        refine last_ (i := 7) (N := some 32) #[Yy,Yy,Yy,Yy,Yy,Yy,Yy,Yy] rfl rfl (one_of HT_.1 (by kernel_rfl)) (by decide) (fun K hK => ?_)
        refine ogoesC Try.func30 (by kernel_rfl) rfl (.tmp 25) #[.pointer (some ⟨pn, 0, none⟩), .pointer (some ⟨po, 0, none⟩), .pointer (some ⟨pe, 0, none⟩)] rfl #[.slice Ao15 y4.length co15, .pointer (some ⟨pn, 0, none⟩), .pointer (some ⟨po, 0, none⟩), .pointer (some ⟨pe, 0, none⟩)] (by rfl) rfl rfl (by simp only [List.map_toArray, List.map_cons, List.map_nil, List.append_toArray, List.cons_append, List.nil_append]; rfl) ?_
        refine HA1.1.mono ?_
        rintro e w9 ⟨rfl, q1, q2, q3⟩
        refine ⟨_, rfl, ?_⟩
        refine E1 (HV.1.call q1 q2 q3) ?_
        clear HV q1 q2 q3
        intro HV
        refine hK.out _ _ ?_
        clear hK K
        refine norm_ (a' := ?_) ?_ ?_
        rotate_left
        · show Act.put _ (some 32) _ = _
          simp only [Act.put, List.setIfInBounds_toArray, List.set_cons_zero, List.set_cons_succ, i64_w, i32_w]
          rfl
        refine done_ (done_of HT_.1 (by kernel_rfl)) ?_
        go_wp2
        go_roundg k1
        case measure => exact Nat.lt_succ_self _
        case rel =>
         refine ⟨wrap64 (x5 + 1), i + 1, RG, ⟨?_⟩, ⟨by have := HK.1; omega⟩, ⟨by omega⟩, ⟨?_⟩⟩
         · have := HI.1
           unfold wrap64; omega
         · have hx : (i : Int) ∉ o := by rw [<- HI.1]; exact HM.1
           rw [extr_succ, if_neg hx, <- E4.1, <- List.append_assoc]
           exact HV.1
    · have hin : i = n := by have := HLI.1; omega
      subst hin
      have c8 : decide (x5 < (i : Int)) = false := decide_eq_false (by have := HI.1; omega)
      go_wp2
      first | go_end0 | ((try simp only [Exit.inBlock, Exit.then]); refine bodyPost_end (results_none rfl _ _ _) rfl ?_)
      exact ⟨rfl, HV.1.st, HV.1.sy, HV.1.hb⟩
attribute [local go_sem] ostore_func
theorem exts_few : ∀ n, n <= 4 -> (exts n 5 []).length <= 24
 | 0, _ => by decide +kernel
 | 1, _ => by decide +kernel
 | 2, _ => by decide +kernel
 | 3, _ => by decide +kernel
 | 4, _ => by decide +kernel
 | n + 5, h => by omega
theorem orders_calls (n : Nat) (hn : n <= 4) (w : World) :
 Calls Try.prog 20 #[.int .i64 (n : Int)] w fun e w' => ∃ v0_ : Value, e = .returned (v0_) /\ Kd.S (Kd.slice 3 (Kd.int .i64)) 22 w' w.heap.size (fun _ => True) v0_ (exts n 5 []) /\ Below w.heap.size w w' := by
 have hu36 := Try.underlying36
 have hX := fun pn pe po (hpo : w.heap.size <= po) w1 => ext_calls w pn pe po n hn hpo 5 [] [] none 0 w1 (Nat.zero_le _) (by simp only [List.length_nil]; omega) (by have := exts_few n hn; simp only [List.length_nil]; omega)
 have HX := Aside0.mk hX
 clear hX
 have HB := Aside0.mk (Below.refl w.heap.size w)
 go_enter Try.func20, Try.ntmps20
 go_wp2_with (first
  | ((with_reducible refine gate_dst (N := 1) rfl ?_); refine boxE (cs := #[.int .i64 (n : Int)]) (t := 3) ?_; intro pn hg w4 hbox hb; have n0_ := Aside0.mk (HB.1.trans (hb.mono HB.1.size)); have BKn := Aside0.mk hbox; clear HB; have HB := n0_; clear n0_ hbox hg hb)
  | ((with_reducible refine gate_dst (N := 5) rfl ?_); refine S_lit (Kd.slice 3 (Kd.int .i64)) _ 22 ?hg (N := 5) ?hd (xs := ([] : List (List Int))) (inner := []) (ok := fun _ => True) (okp := fun _ => True) ?hr ?hp (fun _ hk => hk) trivial (Below.refl _ _) (Nat.le_refl _) (by simp) ?_; (case hd => rfl); (case hg => rfl); (case hr => first | (go_simp; done) | (go_simp; rfl)); (case hp => exact (Reps.none _ _)); intro v8 w8 ho hb hg_ hnew_; clear hg_ hnew_; obtain ⟨A8, c8, e8⟩ := R_slice (S_R ho); subst e8; have n0_ := Aside0.mk (HB.1.trans (hb.mono HB.1.size)); have n1_ := Aside0.mk (blk_below BKn.1 hb); have OO := Aside0.mk (S_lower ho HB.1.size); clear HB BKn ho hb; have HB := n0_; have BKn := n1_; clear n0_ n1_)
  | ((with_reducible refine gate_dst (N := 3) rfl ?_); refine boxE (cs := #[.slice none 0 0]) (t := 36) ?_; intro po hg w9 hbox hb; have n0_ := Aside0.mk (HB.1.trans (hb.mono HB.1.size)); have n1_ := Aside0.mk (blk_below BKn.1 hb); have n2_ := Aside0.mk (S_below OO.1 hb); have BKo := Aside0.mk hbox; have GEo := Aside0.mk (hg ▸ HB.1.size : w.heap.size <= po); clear HB BKn OO; have HB := n0_; have BKn := n1_; have OO := n2_; clear n0_ n1_ n2_ hg hb; have hco := (blk_cell hbox 0).trans rfl; have hfo := blk_frozen hbox 0; clear hbox)
  | ((with_reducible refine gate_store (t := 36) (p := 3) rfl ?_); refine storeE (t := 36) (p := 3) (w1 := w9.setCell ⟨po, 0, none⟩ (.slice A8 ([] : List (List Int)).length c8)) ?_; intro w10 hw; have n0_ := Aside0.mk (HB.1.setCell (p := ⟨po, 0, none⟩) GEo.1 (.slice A8 ([] : List (List Int)).length c8)); have n1_ := Aside0.mk (blk_far BKn.1 (oty_ne BKn.1 BKo.1 (by decide)) (p := ⟨po, 0, none⟩) (.slice A8 ([] : List (List Int)).length c8)); have n2_ := Aside0.mk (S_set OO.1 BKo.1 (by decide) 0 (.slice A8 ([] : List (List Int)).length c8)); have n3_ := Aside0.mk (blk_put BKo.1 0 (.slice A8 ([] : List (List Int)).length c8) rfl); rw [<- hw] at n0_ n1_ n2_ n3_; clear HB BKn OO BKo hco hfo hw; have HB := n0_; have BKn := n1_; have OO := n2_; have BKo := n3_; clear n0_ n1_ n2_ n3_)
  | ((with_reducible refine gate_dst (N := 4) rfl ?_); refine boxE (cs := #[.nilFunc]) (t := 55) ?_; intro pe hg w11 hbox hb; have n0_ := Aside0.mk (HB.1.trans (hb.mono HB.1.size)); have n1_ := Aside0.mk (blk_below BKn.1 hb); have n2_ := Aside0.mk (S_below OO.1 hb); have n3_ := Aside0.mk (blk_below BKo.1 hb); have BKe := Aside0.mk hbox; have GEe := Aside0.mk (hg ▸ HB.1.size : w.heap.size <= pe); clear HB BKn OO BKo; have HB := n0_; have BKn := n1_; have OO := n2_; have BKo := n3_; clear n0_ n1_ n2_ n3_ hg hb; have hce : w11.cell? ⟨pe, 0, none⟩ = some .nilFunc := (blk_cell hbox 0).trans rfl; have hfe := blk_frozen hbox 0; clear hbox)
  | ((with_reducible refine gate_store (t := 55) (p := 4) rfl ?_); refine storeE (t := 55) (p := 4) (w1 := w11.setCell ⟨pe, 0, none⟩ (.func (.func 30) #[] #[.pointer (some ⟨pn, 0, none⟩), .pointer (some ⟨po, 0, none⟩), .pointer (some ⟨pe, 0, none⟩)])) ?_; intro w12 hw; have n0_ := Aside0.mk (HB.1.setCell (p := ⟨pe, 0, none⟩) GEe.1 (.func (.func 30) #[] #[.pointer (some ⟨pn, 0, none⟩), .pointer (some ⟨po, 0, none⟩), .pointer (some ⟨pe, 0, none⟩)])); have n1_ := Aside0.mk (blk_far BKn.1 (oty_ne BKn.1 BKe.1 (by decide)) (p := ⟨pe, 0, none⟩) (.func (.func 30) #[] #[.pointer (some ⟨pn, 0, none⟩), .pointer (some ⟨po, 0, none⟩), .pointer (some ⟨pe, 0, none⟩)])); have n2_ := Aside0.mk (S_set OO.1 BKe.1 (by decide) 0 (.func (.func 30) #[] #[.pointer (some ⟨pn, 0, none⟩), .pointer (some ⟨po, 0, none⟩), .pointer (some ⟨pe, 0, none⟩)])); have n3_ := Aside0.mk (blk_far BKo.1 (oty_ne BKo.1 BKe.1 (by decide)) (p := ⟨pe, 0, none⟩) (.func (.func 30) #[] #[.pointer (some ⟨pn, 0, none⟩), .pointer (some ⟨po, 0, none⟩), .pointer (some ⟨pe, 0, none⟩)])); have n4_ := Aside0.mk (blk_put BKe.1 0 (.func (.func 30) #[] #[.pointer (some ⟨pn, 0, none⟩), .pointer (some ⟨po, 0, none⟩), .pointer (some ⟨pe, 0, none⟩)]) rfl); rw [<- hw] at n0_ n1_ n2_ n3_ n4_; clear HB BKn OO BKo BKe hce hfe hw; have HB := n0_; have HF := Aside0.mk (show OFix pn pe po (n : Int) w12 from ⟨n1_.1, n4_.1⟩); have HT := Aside0.mk (show OSt w.heap.size po ([] : List (List Int)) w12 from ⟨_, n3_.1, n2_.1⟩); have hce : w12.cell? ⟨pe, 0, none⟩ = some (.func (.func 30) #[] #[.pointer (some ⟨pn, 0, none⟩), .pointer (some ⟨po, 0, none⟩), .pointer (some ⟨pe, 0, none⟩)]) := (blk_cell n4_.1 0).trans rfl; clear n0_ n1_ n2_ n3_ n4_)
  | (go_at_call 30; refine (HX.1 pn pe po GEo.1 _ HB.1 HF.1 HT.1 (R_nil _ _ _ _ _)).mono ?_; rintro e w13 ⟨rfl, q1, q2, q3⟩; clear HB HF HT hce q2; obtain ⟨v, o3, o4⟩ := q1; obtain ⟨Ao, co, eo⟩ := R_slice (S_R o4); subst eo; have O4 := Aside0.mk o4; have HB := Aside0.mk q3; have hpo' : w13.cell? ⟨po, 0, none⟩ = some (.slice Ao (([] : List (List Int)) ++ exts n 5 []).length co) := (blk_cell o3 0).trans rfl; clear o3 o4 q3))
 go_ret
 exact ⟨_, rfl, O4.1, HB.1⟩
/-- All orders of the numbers below a0. -/
def impl_ordersOf.f (a0 : Int) : Option (List (List Int)) := if 0 <= a0 /\ a0 <= 4 then some (exts a0.toNat 5 []) else none
theorem impl_ordersOf.calls (a0 : Int) (r : List (List Int)) (w : World) (h : impl_ordersOf.f a0 = some r) :
 Calls Try.prog 20 #[.int .i64 a0] w fun e w' => ∃ v0_ : Value, e = .returned (v0_) /\ Kd.S (Kd.slice 3 (Kd.int .i64)) 22 w' w.heap.size (fun _ => True) v0_ r /\ Below w.heap.size w w' := by
  unfold impl_ordersOf.f at h
  obtain ⟨⟨h0, h1⟩, h⟩ := ifP h
  cases h
  have h2 := orders_calls a0.toNat (by omega) w
  rw [Int.toNat_of_nonneg h0] at h2
  exact h2

/-! ### impl_diagramOf: function 21 -/
open Kd
attribute [local go_sem] max2_int min2_int max_two min_two max_three min_three max_four min_four
attribute [local go_sem high] deqA63
/-! the program's builder: a closure over the table, itself and the diagram -/
theorem dor_nat (a b : Nat) (ha : a < 2 ^ 62) (hb : b < 2 ^ 62) : Go.bits .or .i64 (a : Int) (b : Int) = ((a ||| b : Nat) : Int) := (bits_nat .i64 62 (by decide) (fun n h0 h1 => by rw [IntKind.wrap_i64]; omega) a b ha hb).2
theorem dor_pow {a i : Nat} (h : a < 2 ^ i) : a ||| 2 ^ i = a + 2 ^ i := by
 have := Nat.two_pow_add_eq_or_of_lt h 1
 rw [Nat.mul_one, Nat.or_comm] at this
 rw [<- this, Nat.add_comm]
theorem ine_type {w : World} {a b : Nat} {t t' : TypeId} {cs cs' : Array Value} (ha : w.heap[a]? = some (.cells cs t (0, 0))) (hb : w.heap[b]? = some (.cells cs' t' (0, 0))) (h : t ≠ t') : a ≠ b := by
 rintro rfl
 rw [ha] at hb
 cases hb
 exact h rfl
theorem at_eqI {ns : List S57} {x : S57} {i : Nat} (h : i < ns.length) : ((rd_T57 ns (i : Int)).f0 == x.f0 && ((rd_T57 ns (i : Int)).f1 == x.f1 && (rd_T57 ns (i : Int)).f2 == x.f2)) = decide (ns[i]? = some x) := by
 have e : rd_T57 ns (i : Int) = ns[i] := by simp [rd_T57, List.getD, h]
 rw [e, List.getElem?_eq_getElem h, Bool.eq_iff_iff]
 obtain ⟨a, b, c⟩ := x
 generalize ns[i] = y
 obtain ⟨a', b', c'⟩ := y
 simp
def IFix (pt pb pd : Nat) (t0 t1 : Value) (w : World) : Prop := w.heap[pt]? = some (.cells #[t0, t1] 28 (0, 0)) /\ w.heap[pb]? = some (.cells #[.func (.func 32) #[] #[.pointer (some ⟨pt, 0, none⟩), .pointer (some ⟨pb, 0, none⟩), .pointer (some ⟨pd, 0, none⟩)]] 53 (0, 0))
def ISt (base pd : Nat) (d0 : Value) (ns : List S57) (w : World) : Prop := ∃ v, w.heap[pd]? = some (.cells #[d0, v, .int .i64 0] 40 (0, 0)) /\ Kd.R k57 57 w base (fun _ => True) v ns
def IStay (pd : Nat) (w w' : World) : Prop := w.heap.size <= w'.heap.size /\ ∀ (k : Nat) (cs : Array Value) (t : TypeId), w.heap[k]? = some (.cells cs t (0, 0)) -> (t ≠ 40 ∨ k ≠ pd) -> t ≠ 57 -> w'.heap[k]? = some (.cells cs t (0, 0))
theorem IStay.refl (pd : Nat) (w : World) : IStay pd w w := ⟨Nat.le_refl _, fun _ _ _ h _ _ => h⟩
theorem IStay.trans {pd : Nat} {w w1 w2 : World} (h : IStay pd w w1) (h' : IStay pd w1 w2) : IStay pd w w2 := ⟨Nat.le_trans h.1 h'.1, fun k cs t hk a b => h'.2 k cs t (h.2 k cs t hk a b) a b⟩
theorem IStay.below {pd : Nat} {w w1 w2 : World} (h : IStay pd w w1) (hb : Below w1.heap.size w1 w2) : IStay pd w w2 := h.trans ⟨hb.size, fun k cs t hk _ _ => blk_below hk hb⟩
theorem IFix.stay {pt pb pd : Nat} {t0 t1 : Value} {w w' : World} (h : IFix pt pb pd t0 t1 w) (hs : IStay pd w w') : IFix pt pb pd t0 t1 w' := ⟨hs.2 _ _ _ h.1 (.inl (by decide)) (by decide), hs.2 _ _ _ h.2 (.inl (by decide)) (by decide)⟩
structure IAll (W0 : World) (pt pb pd : Nat) (d0 t0 t1 : Value) (ns : List S57) (w0 w : World) : Prop where
 hb : Below W0.heap.size W0 w
 fx : IFix pt pb pd t0 t1 w
 st : ISt W0.heap.size pd d0 ns w
 sy : IStay pd w0 w
section
variable {W0 : World} {pt pb pd : Nat} {d0 t0 t1 : Value} {ns ns' : List S57} {w0 w w' : World}
theorem IAll.below (h : IAll W0 pt pb pd d0 t0 t1 ns w0 w) (hb : Below w.heap.size w w') : IAll W0 pt pb pd d0 t0 t1 ns w0 w' := by
 obtain ⟨v, h1, h2⟩ := h.st
 exact ⟨h.hb.trans (hb.mono h.hb.size), h.fx.stay ((IStay.refl _ w).below hb), ⟨v, blk_below h1 hb, R_below h2 hb⟩, h.sy.below hb⟩
theorem IAll.call (h : IAll W0 pt pb pd d0 t0 t1 ns w0 w) (h1 : ISt W0.heap.size pd d0 ns' w') (h2 : IStay pd w w') (h3 : Below W0.heap.size W0 w') : IAll W0 pt pb pd d0 t0 t1 ns' w0 w' := ⟨h3, h.fx.stay h2, h1, h.sy.trans h2⟩
theorem IAll.cells (h : IAll W0 pt pb pd d0 t0 t1 ns w0 w) : w.cell? ⟨pt, 0, none⟩ = some t0 /\ w.cell? ⟨pt, 1, none⟩ = some t1 /\ w.cell? ⟨pb, 0, none⟩ = some (.func (.func 32) #[] #[.pointer (some ⟨pt, 0, none⟩), .pointer (some ⟨pb, 0, none⟩), .pointer (some ⟨pd, 0, none⟩)]) :=
 ⟨(blk_cell h.fx.1 0).trans rfl, (blk_cell h.fx.1 1).trans rfl, (blk_cell h.fx.2 0).trans rfl⟩
end
theorem dgoesC {P : Program} {ops : Array Oper} {Q : Exit -> Act -> World -> Prop} {oi : Oper} {N : Option Tmp} {a : Act} {w : World} {K : Act -> World -> Prop} {f : FuncId} {fn : Func} {xs_ : Array Operand} {ts : Array TypeId} (hf : P.funcs[f]? = some fn) (hname : (fn.name == "runtime.NumGoroutine") = false) (hb : fn.body.isSome = true) (x : Operand) (caps : Array Value) (hx : a.eval x = .func (.func f) #[] caps) (args : Array Value)
 (hw : Region.wanted oi (yielded ops a.tmps) = true) (hN : oi.dst = N) (hop : oi.op = .call { callee := .value x, args := xs_, argTypes := ts }) (hargs : xs_.map a.eval ++ caps = args)
 (h : Calls P f args w fun e w' => ∃ v, e = .returned v /\ K (a.put N v) w') : if Region.wanted oi (yielded ops a.tmps) = true then Oper.wp P oi a w K Q else K (a.put N undef) w := by
 refine call_ f args hw hN ?_ h
 have he := enters_ hf hname hb args w
 unfold execOp
 simp [hop, resolve, Deferred.ofValue, invoke, hx, hargs, he]
theorem dclos_calls (W0 : World) (pt pb pd n : Nat) (d0 : Value) (A : Option Addr) (c : Nat) (vs : List Int) (hC : Kd.C (Kd.int .i64) W0 A vs.length vs) (hn : n <= 4) (hvs : vs.length = 2 ^ n) (hp : W0.heap.size <= pd) (xn : Int) (hxn : xn = (n : Int)) : ∀ (d i f : Nat) (xi xf : Int) (ns : List S57) (w : World), i + d = n -> f < 2 ^ i -> xi = (i : Int) -> xf = (f : Int) -> ns.length + 2 ^ d <= 1000 -> Below W0.heap.size W0 w -> IFix pt pb pd (.int .i64 xn) (.slice A vs.length c) w -> ISt W0.heap.size pd d0 ns w ->
 Calls Try.prog 32 #[.int .i64 xi, .int .i64 xf, .pointer (some ⟨pt, 0, none⟩), .pointer (some ⟨pb, 0, none⟩), .pointer (some ⟨pd, 0, none⟩)] w fun e w' => e = .returned (.int .i64 (dbld vs d i f ns).2) /\ ISt W0.heap.size pd d0 (dbld vs d i f ns).1 w' /\ IStay pd w w' /\ Below W0.heap.size W0 w' := by
 intro d
 have hu28 := Try.underlying28
 have hu40 := Try.underlying40
 have hu57 := Try.underlying57
 have HC := Aside0.mk hC
 have HVS := Aside0.mk hvs
 have HXN := Aside0.mk hxn
 clear hC hvs hxn
 induction d with
 | zero =>
  intro i f xi xf ns w hi hf hxi hxf hl hB hF hD
  have HV := Aside0.mk (IAll.mk hB hF hD (IStay.refl _ w))
  have c0 : (xi == xn) = true := beq_iff_eq.mpr (by have := HXN.1; omega)
  have hin : i = n := by omega
  have p104 : 0 <= (xf : Int) := by omega
  have q104 : xf < (vs.length : Int) := by rw [HVS.1, <- hin]; omega
  obtain ⟨ad104, e104, hx104_0⟩ := Kd.at_int HC.1 xf p104 q104
  cases e104
  replace hx104_0 := (hB.cell (World.block_lt_of_cell? W0 _ hx104_0)).trans hx104_0
  obtain ⟨hc1, hc2, hc3⟩ := HV.1.cells
  have HXF := Aside0.mk hxf
  clear hB hD hF hxi hxf hi hin hf
  replace p104 := eq_true p104
  replace q104 := eq_true q104
  go_enter Try.func32, Try.ntmps32
  go_wp2
  go_ret
  refine ⟨?_, HV.1.st, HV.1.sy, HV.1.hb⟩
  show Ending.returned (.int .i64 (rd vs xf)) = .returned (.int .i64 (rd vs (f : Int)))
  rw [HXF.1]
 | succ d ih =>
  intro i f xi xf ns w hi hf hxi hxf hl hB hF hD
  have hp2 : (2 : Nat) ^ (i + 1) = 2 ^ i + 2 ^ i := by rw [Nat.pow_succ]; omega
  have hpd : (2 : Nat) ^ (d + 1) = 2 ^ d + 2 ^ d := by rw [Nat.pow_succ]; omega
  have hi16 := pow_le16 (show i <= 4 by omega)
  have hpos := Nat.two_pow_pos d
  have e1 : wrap64 (xi + 1) = ((i + 1 : Nat) : Int) := by rw [wrap_small (by omega) (by omega)]; omega
  have e2 : Go.bits .or .i64 xf (wrap64 (2 ^ min xi.toNat 64)) = ((f + 2 ^ i : Nat) : Int) := by
   rw [hxi, show min (i : Int).toNat 64 = i by omega, show (2 : Int) ^ i = ((2 ^ i : Nat) : Int) by simp, hxf, wrap_small (x := ((2 ^ i : Nat) : Int)) (by omega) (by omega), dor_nat f (2 ^ i) (by omega) (by omega), dor_pow hf]
  have hA := ih (i + 1) f (wrap64 (xi + 1)) xf ns
  have hB2 := ih (i + 1) (f + 2 ^ i) (wrap64 (xi + 1)) (Go.bits .or .i64 xf (wrap64 (2 ^ min xi.toNat 64))) (dbld vs d (i + 1) f ns).1
  have l1 := dbld_len vs d (i + 1) f ns
  have l2 := dbld_len vs d (i + 1) (f + 2 ^ i) (dbld vs d (i + 1) f ns).1
  have hE : dbld vs (d + 1) i f ns = dnode (dbld vs d (i + 1) (f + 2 ^ i) (dbld vs d (i + 1) f ns).1).1 ⟨(i : Int), (dbld vs d (i + 1) f ns).2, (dbld vs d (i + 1) (f + 2 ^ i) (dbld vs d (i + 1) f ns).1).2⟩ := rfl
  rw [hE]
  clear hE
  generalize dbld vs d (i + 1) (f + 2 ^ i) (dbld vs d (i + 1) f ns).1 = R2 at *
  generalize dbld vs d (i + 1) f ns = R1 at *
  obtain ⟨n2, hi2⟩ := R2
  obtain ⟨n1, lo⟩ := R1
  simp only at *
  have hA1 := fun w => hA w (by omega) (by omega) e1 hxf (by omega)
  have hA2 := fun w => hB2 w (by omega) (by omega) e1 e2 (by omega)
  have HA1 := Aside0.mk hA1
  have HA2 := Aside0.mk hA2
  have hl2 : n2.length <= 1000 := by omega
  have c0 : (xi == xn) = false := beq_eq_false_iff_ne.mpr (by have := HXN.1; omega)
  have cs : decide (0 <= xi) = true := decide_eq_true (by omega)
  have cs1 : (0 <= xi) = True := eq_true (by omega)
  have cs3 : decide (xi < 0) = false := decide_eq_false (by omega)
  have cs4 : (xi < 0) = False := eq_false (by omega)
  have HXI := Aside0.mk hxi
  have HV := Aside0.mk (IAll.mk hB hF hD (IStay.refl _ w))
  have hWw := hB.size
  obtain ⟨hc1, hc2, hc3⟩ := HV.1.cells
  clear hA hB2 hA1 hA2 hpos l1 l2 hxi hxf hi hf hl e1 e2 hp2 hpd hi16 ih hB hF hD
  rw [<- HXI.1]
  go_enter Try.func32, Try.ntmps32
  go_wp2_with (first
   | (go_at_call 32; refine (HA1.1 _ HV.1.hb HV.1.fx HV.1.st).mono ?_; rintro e w7 ⟨rfl, q1, q2, q3⟩; refine E1 (HV.1.call q1 q2 q3) ?_; clear HV hc1 hc2 hc3 q1 q2 q3; intro HV; obtain ⟨hc1, hc2, hc3⟩ := HV.1.cells))
  refine start_ (n := 9) (S := fun w' => w'.cell? ⟨pb, 0, none⟩ = some (.func (.func 32) #[] #[.pointer (some ⟨pt, 0, none⟩), .pointer (some ⟨pb, 0, none⟩), .pointer (some ⟨pd, 0, none⟩)]) /\ w'.cell? ⟨pt, 0, none⟩ = some (.int .i64 xn)) (ds := [7]) #[Zz,Zz,Zz,Zz,Zz,Zz,Zz,Zz,Zz] (by kernel_rfl) rfl rfl ⟨hc3, hc1⟩ (fun hHeld => ?_)
  refine E1 (HV.1.below (below_drew1 (Below.refl _ _))) ?_
  clear HV hc1 hc2 hc3
  intro HV
  generalize w7.drew = w8 at hHeld HV ⊢
  refine pureF 1 (N := some 28) rfl ?_
  refine pureF 2 (N := some 29) rfl ?_
  refine pureF 3 (N := some 30) rfl ?_
  refine pureF 4 (N := some 31) rfl ?_
  refine pureF 5 (N := some 32) rfl ?_
  refine pureF 6 (N := some 33) rfl ?_
  refine takeF 0 (N := some 27) hHeld ?_
  refine last_ (i := 7) (N := some 34) #[Yy,Yy,Yy,Yy,Yy,Yy,Yy,Yy,Zz] rfl rfl (by kernel_rfl) (by decide) (fun K hK => ?_)
  refine dgoesC Try.func32 (by kernel_rfl) rfl (.tmp 27) #[.pointer (some ⟨pt, 0, none⟩), .pointer (some ⟨pb, 0, none⟩), .pointer (some ⟨pd, 0, none⟩)] rfl #[.int .i64 (wrap64 (xi + 1)), .int .i64 (Go.bits .or .i64 xf (wrap64 (2 ^ min xi.toNat 64))), .pointer (some ⟨pt, 0, none⟩), .pointer (some ⟨pb, 0, none⟩), .pointer (some ⟨pd, 0, none⟩)] (by rfl) rfl rfl (by simp only [List.map_toArray, List.map_cons, List.map_nil, List.append_toArray, List.cons_append, List.nil_append]; rfl) ?_
  refine (HA2.1 _ HV.1.hb HV.1.fx HV.1.st).mono ?_
  rintro e w9 ⟨rfl, q1, q2, q3⟩
  refine ⟨_, rfl, ?_⟩
  refine E1 (HV.1.call q1 q2 q3) ?_
  clear HV q1 q2 q3 hHeld
  intro HV
  refine hK.out _ _ ?_
  clear hK K
  refine norm_ (a' := ?_) ?_ ?_
  rotate_left
  · show Act.put _ (some 34) _ = _
    simp only [Act.put, List.setIfInBounds_toArray, List.set_cons_zero, List.set_cons_succ, i64_w, i32_w]
    rfl
  refine pureF 8 (N := some 9) rfl ?_
  refine done_ (by kernel_rfl) ?_
  obtain ⟨hc1, hc2, hc3⟩ := HV.1.cells
  by_cases hx : lo = hi2
  · have c5 : (lo == hi2) = true := beq_iff_eq.mpr hx
    have hd := Aside0.mk (show dnode n2 ⟨xi, lo, hi2⟩ = (n2, lo) from if_pos hx)
    clear hx
    go_wp2
    go_ret
    rw [hd.1]
    exact ⟨rfl, HV.1.st, HV.1.sy, HV.1.hb⟩
  have c5 : (lo == hi2) = false := beq_eq_false_iff_ne.mpr hx
  have HX := Aside0.mk hx
  clear hx
  obtain ⟨v, hv, hR⟩ := HV.1.st
  obtain ⟨A2, c2, ev, hc0, hC2⟩ := R_reads hR
  subst ev
  have HC2 := Aside0.mk hC2
  have HR := Aside0.mk hR
  have HD := Aside0.mk hv
  have HY := Aside0.mk HV.1.sy
  have HB0 := Aside0.mk HV.1.hb
  have HB := Aside0.mk (Below.refl w9.heap.size w9)
  have hcd : w9.cell? ⟨pd, 1, none⟩ = some (.slice A2 n2.length c2) := (blk_cell hv 1).trans rfl
  clear hv hR hC2 HV hc1 hc2 hc3 HA1 HA2
  go_wp2_with (first
   | ((with_reducible refine gate_dst (N := 10) rfl ?_); refine boxE (cs := #[.int .i64 0, .int .i64 0, .int .i64 0]) (t := 57) ?_; intro gn hg w10 hbox hb; have n0_ := Aside0.mk (HB.1.trans hb); have BK := Aside0.mk hbox; have GE := Aside0.mk (hg ▸ Nat.le_refl _ : w9.heap.size <= gn); clear HB hcd; have HB := n0_; clear n0_ hbox hg hb; obtain ⟨hcz_0, hcz_1, hcz_2, hfz_0, hfz_1, hfz_2⟩ := cz3 BK.1)
   | ((with_reducible refine gate_store (t := 57) (p := 10) rfl ?_); refine storeE (t := 57) (p := 10) (w1 := ((w10.setCell ⟨gn, 0, none⟩ (.int .i64 xi)).setCell ⟨gn, 1, none⟩ (.int .i64 lo)).setCell ⟨gn, 2, none⟩ (.int .i64 hi2)) ?_; intro w11 hw; have b3 := Aside0.mk (blk_put (blk_put (blk_put BK.1 0 (.int .i64 xi) rfl) 1 (.int .i64 lo) rfl) 2 (.int .i64 hi2) rfl); have n0_ := Aside0.mk (((HB.1.setCell (p := ⟨gn, 0, none⟩) GE.1 (.int .i64 xi)).setCell (p := ⟨gn, 1, none⟩) GE.1 (.int .i64 lo)).setCell (p := ⟨gn, 2, none⟩) GE.1 (.int .i64 hi2)); rw [<- hw] at n0_ b3; clear BK HB hcz_0 hcz_1 hcz_2 hfz_0 hfz_1 hfz_2 hw; have HB := n0_; have BK := b3; clear n0_ b3; have hcd : w11.cell? ⟨pd, 1, none⟩ = some (.slice A2 n2.length c2) := (HB.1.cell (p := ⟨pd, 1, none⟩) (blk_lt HD.1)).trans ((blk_cell HD.1 1).trans rfl)))
  go_loopg [46] (n2.length + 1) (fun kq v46 w' => ∃ (x46 : Int) (k : Nat), v46 = .int .i64 x46 /\ Aside0 (x46 = (k : Int)) /\ Aside0 (kq + k = n2.length + 1) /\ Aside0 (k <= n2.length) /\ Aside0 (∀ j, j < k -> n2[j]? ≠ some ⟨xi, lo, hi2⟩) /\ Aside0 (w'.heap[gn]? = some (.cells #[.int .i64 xi, .int .i64 lo, .int .i64 hi2] 57 (0, 0))) /\ Aside0 (Below w9.heap.size w9 w'))
  case atStart => exact ⟨0, 0, rfl, ⟨rfl⟩, ⟨rfl⟩, ⟨Nat.zero_le _⟩, ⟨fun j h => by omega⟩, ⟨PB BK.1⟩, ⟨HB.1⟩⟩
  clear hcd
  obtain ⟨x46, k, rfl, HI, HK, HL, HN, BK, HB⟩ := hrel
  have hin : k <= n2.length := HL.1
  cases gk with
  | zero => have := HK.1; omega
  | succ k1 => ?_
  by_cases hk : k < n2.length
  · have c8 : decide (x46 < (n2.length : Int)) = true := decide_eq_true (by have := HI.1; omega)
    have c8b : decide (0 <= x46) = true := decide_eq_true (by have := HI.1; omega)
    have p104 : 0 <= (x46 : Int) := OD
    have q104 : x46 < (n2.length : Int) := OD
    obtain ⟨ad104, e104, hx104_0, hx104_1, hx104_2⟩ := at_T57 HC2.1 x46 p104 q104
    cases e104
    replace hx104_0 := (HB.1.cell (World.block_lt_of_cell? w9 _ hx104_0)).trans hx104_0
    replace hx104_1 := (HB.1.cell (World.block_lt_of_cell? w9 _ hx104_1)).trans hx104_1
    replace hx104_2 := (HB.1.cell (World.block_lt_of_cell? w9 _ hx104_2)).trans hx104_2
    replace p104 := eq_true p104
    replace q104 := eq_true q104
    have he0 := at_eqI (x := ⟨xi, lo, hi2⟩) hk
    rw [<- HI.1] at he0
    by_cases he : n2[k]? = some ⟨xi, lo, hi2⟩
    · have c11 : ((rd_T57 n2 x46).f0 == xi && ((rd_T57 n2 x46).f1 == lo && ((rd_T57 n2 x46).f2 == hi2))) = true := he0.trans (decide_eq_true he)
      clear he0
      go_wp2_with (first | ((with_reducible refine gate_dst (N := 12) rfl ?_); refine boxE (cs := #[.int .i64 0, .int .i64 0, .int .i64 0]) (t := 57) ?_; intro gb105 hg w12 hbox hb; refine E7 (bB BK.1 hb) (bS HB.1 hb) (hbox) (gX HB.1 hg) (gX HB.1 hg) (nB BK.1 hg) (nC BK.1 hg) ?_; clear BK HB; intro BK HB BK105 GW105 GE105 NB103_105 NB105_103; clear hb hbox hg; have hnb13 := NB105_103.1; have hnc13 := NB103_105.1; obtain ⟨hcz14_0, hcz14_1, hcz14_2, hfz14_0, hfz14_1, hfz14_2⟩ := cz3 BK105.1; obtain ⟨hcz15_0, hcz15_1, hcz15_2, hfz15_0, hfz15_1, hfz15_2⟩ := cz3 BK.1))
      go_ret
      obtain ⟨q1, q2⟩ := dplace_skip n2 k hin HN.1
      have hd : n2.drop k = n2[k] :: n2.drop (k + 1) := List.drop_eq_getElem_cons hk
      have hxi : n2[k] = ⟨xi, lo, hi2⟩ := by rw [List.getElem?_eq_getElem hk] at he; exact Option.some.inj he
      rw [hd, hxi] at q1 q2
      simp only [dplace, if_true, Nat.add_zero] at q1
      have hm : (⟨xi, lo, hi2⟩ : S57) ∈ n2 := q2.2 List.mem_cons_self
      rw [show dnode n2 ⟨xi, lo, hi2⟩ = (n2, 2 + (dplace ⟨xi, lo, hi2⟩ n2 : Int)) from (if_neg HX.1).trans (if_pos hm), q1]
      have ew : wrap64 (2 + x46) = 2 + (k : Int) := by
       have := HI.1
       unfold wrap64; omega
      refine ⟨?_, (fun hB2 => ⟨⟨_, blk_below HD.1 hB2, R_below HR.1 hB2⟩, HY.1.below hB2, HB0.1.trans (hB2.mono HB0.1.size)⟩) (BL HB.1)⟩
      show Ending.returned (.int .i64 (wrap64 (2 + x46))) = .returned (.int .i64 (2 + (k : Int)))
      rw [ew]
    · have c11 : ((rd_T57 n2 x46).f0 == xi && ((rd_T57 n2 x46).f1 == lo && ((rd_T57 n2 x46).f2 == hi2))) = false := he0.trans (decide_eq_false he)
      clear he0
      go_wp2_with (first | ((with_reducible refine gate_dst (N := 12) rfl ?_); refine boxE (cs := #[.int .i64 0, .int .i64 0, .int .i64 0]) (t := 57) ?_; intro gb105 hg w16 hbox hb; refine E7 (bB BK.1 hb) (bS HB.1 hb) (hbox) (gX HB.1 hg) (gX HB.1 hg) (nB BK.1 hg) (nC BK.1 hg) ?_; clear BK HB; intro BK HB BK105 GW105 GE105 NB103_105 NB105_103; clear hb hbox hg; have hnb17 := NB105_103.1; have hnc17 := NB103_105.1; obtain ⟨hcz18_0, hcz18_1, hcz18_2, hfz18_0, hfz18_1, hfz18_2⟩ := cz3 BK105.1; obtain ⟨hcz19_0, hcz19_1, hcz19_2, hfz19_0, hfz19_1, hfz19_2⟩ := cz3 BK.1))
      go_roundg k1
      case measure => exact Nat.lt_succ_self _
      case rel =>
       refine ⟨(wrap64 (x46 + 1)), k + 1, RG, ⟨?_⟩, ⟨by have := HK.1; omega⟩, ⟨by omega⟩, ⟨fun j hj => ?_⟩, ⟨PF1 NB103_105.1 BK.1⟩, ⟨BL HB.1⟩⟩
       · have := HI.1
         unfold wrap64; omega
       · by_cases e : j = k
         · rw [e]; exact he
         · exact HN.1 j (by omega)
  · have c8 : decide (x46 < (n2.length : Int)) = false := decide_eq_false (by have := HI.1; omega)
    have hcd : wr.cell? ⟨pd, 1, none⟩ = some (.slice A2 n2.length c2) := (HB.1.cell (p := ⟨pd, 1, none⟩) (blk_lt HD.1)).trans ((blk_cell HD.1 1).trans rfl)
    obtain ⟨hcz19_0, hcz19_1, hcz19_2, hfz19_0, hfz19_1, hfz19_2⟩ := cz3 BK.1
    have HRr := Aside0.mk (R_below HR.1 HB.1)
    have HDr := Aside0.mk (blk_below HD.1 HB.1)
    have HB1 := Aside0.mk (HB0.1.trans (HB.1.mono HB0.1.size))
    have HYr := Aside0.mk (HY.1.below HB.1)
    go_wp2_with (first
     | ((with_reducible refine gate_builtin (b := .append) (xs := #[.tmp 58, .tmp 60]) rfl ?_); at_builtin; refine R_append k57 (w0 := W0) W0.heap.size rfl (.tmp 58) (.tmp 60) 38 57 (.agg #[.int .i64 0, .int .i64 0, .int .i64 0]) 24 rfl Try.underlying38 dinfo57 rfl (by decide) (by omega) (.slice A2 n2.length c2) n2 ⟨xi, lo, hi2⟩ [.int .i64 xi, .int .i64 lo, .int .i64 hi2] (fun _ => True) (fun _ => False) rfl rfl (k57_mkM _ _ _ ⟨xi, lo, hi2⟩) (fun _ hk => hk.elim) (fun _ _ => trivial) HRr.1 HB1.1 HB1.1.size (by omega) ?_; intro v12 w12 ho hb hg hat; obtain ⟨A9, c9, e9⟩ := R_slice ho; subst e9; have k3 := blk_grown HDr.1 hg (R_ne HRr.1 HDr.1 (by decide)); have HO := Aside0.mk ho; have HB12 := Aside0.mk hb; have HG := Aside0.mk hg; have K3 := Aside0.mk k3; obtain ⟨hcz_0, hcz_1, hcz_2, hfz_0, hfz_1, hfz_2⟩ := cz3 k3; clear ho hb hg hat k3 hcd hcz19_0 hcz19_1 hcz19_2 hfz19_0 hfz19_1 hfz19_2)
     | ((with_reducible refine gate_store (t := 38) (p := 62) rfl ?_); refine storeE (t := 38) (p := 62) (w1 := w12.setCell ⟨pd, 1, none⟩ (.slice A9 (n2 ++ [(⟨xi, lo, hi2⟩ : S57)]).length c9)) ?_; intro w13 hw; have n1_ := Aside0.mk (blk_put K3.1 1 (.slice A9 (n2 ++ [(⟨xi, lo, hi2⟩ : S57)]).length c9) rfl); have n2_ := Aside0.mk (R_set HO.1 K3.1 (by decide) 1 (.slice A9 (n2 ++ [(⟨xi, lo, hi2⟩ : S57)]).length c9)); have n3_ := Aside0.mk (HB12.1.setCell (p := ⟨pd, 1, none⟩) hp (.slice A9 (n2 ++ [(⟨xi, lo, hi2⟩ : S57)]).length c9)); rw [<- hw] at n1_ n2_ n3_; have HW := Aside0.mk hw; clear hw hcz_0 hcz_1 hcz_2 hfz_0 hfz_1 hfz_2; have hcd : w13.cell? ⟨pd, 1, none⟩ = some (.slice A9 (n2 ++ [(⟨xi, lo, hi2⟩ : S57)]).length c9) := (blk_cell n1_.1 1).trans rfl))
    go_ret
    obtain ⟨q1, q2⟩ := dplace_skip n2 k hin HN.1
    have hm : (⟨xi, lo, hi2⟩ : S57) ∉ n2 := fun h => by
     have := q2.1 h
     rw [List.drop_of_length_le (by omega)] at this
     simp at this
    rw [show dnode n2 ⟨xi, lo, hi2⟩ = (n2 ++ [⟨xi, lo, hi2⟩], 2 + (n2.length : Int)) from (if_neg HX.1).trans (if_neg hm)]
    refine ⟨?_, ⟨_, n1_.1, n2_.1⟩, ⟨?_, fun k' cs t hk a b => ?_⟩, n3_.1⟩
    · show Ending.returned (.int .i64 (1 + ((n2.length : Int) + 1))) = .returned (.int .i64 (2 + (n2.length : Int)))
      rw [show 1 + ((n2.length : Int) + 1) = 2 + (n2.length : Int) by omega]
    · have h1 := HYr.1.1
      have h2 := HG.1.size
      rw [HW.1]; simp [World.setCell]; omega
    · have h8 := HYr.1.2 k' cs t hk a b
      rw [HW.1]
      have h9 := blk_grown h8 HG.1 (R_ne HRr.1 h8 (Ne.symm b))
      exact blk_far h9 (a.elim (fun a => ine_type h9 K3.1 a) id) _
def impl_diagramOf.f (a0_0 : Int) (l0_1 : List Int) : Option (Int × List (S57) × Int) := spec_ddMake.f a0_0 l0_1
theorem drun_store_funcI {a : Addr} {m : Mode} {P : Program} {w : World} (f : Fn) (x y : Array Value) : (store a (.func f x y) m).run P w = stored P w a (.func f x y) m := run_store P w a _ m rfl
attribute [local go_sem] drun_store_funcI
theorem diagramOf_calls (n : Nat) (xn : Int) (A : Option Addr) (c : Nat) (vs : List Int) (w : World) (hC : Kd.C (Kd.int .i64) w A vs.length vs) (hxn : xn = (n : Int)) (hn : n <= 4) (hvs : vs.length = 2 ^ n) :
 Calls Try.prog 21 #[.agg #[.int .i64 xn, .slice A vs.length c]] w fun e w' => ∃ v1_ : Value, e = .returned (.agg #[.int .i64 xn, v1_, .int .i64 (dbld vs n 0 0 []).2]) /\ Kd.R k57 57 w' w.heap.size (fun _ => True) v1_ (dbld vs n 0 0 []).1 /\ Below w.heap.size w w' := by
 have hu28 := Try.underlying28
 have hu40 := Try.underlying40
 have hB := fun pt pb pd (hp : w.heap.size <= pd) => dclos_calls w pt pb pd n (.int .i64 xn) A c vs hC hn hvs hp xn hxn n 0 0 0 0 []
 generalize dbld vs n 0 0 [] = R at *
 obtain ⟨ns, r⟩ := R
 simp only at *
 have hp16 := pow_le16 hn
 have hB1 := fun pt pb pd (hp : w.heap.size <= pd) w1 => hB pt pb pd hp w1 (by omega) (by omega) rfl rfl (by simp; omega)
 have HB1 := Aside0.mk hB1
 clear hB hB1 hxn hvs hn hp16 hC
 have HB := Aside0.mk (Below.refl w.heap.size w)
 go_enter Try.func21, Try.ntmps21
 go_wp2_with (first
  | ((with_reducible refine gate_dst (N := 1) rfl ?_); refine boxE (cs := #[.int .i64 xn, .slice A vs.length c]) (t := 28) ?_; intro pt hg w4 hbox hb; have n0_ := Aside0.mk (HB.1.trans (hb.mono HB.1.size)); have BK1 := Aside0.mk hbox; clear HB; have HB := n0_; clear n0_ hbox hg hb)
  | ((with_reducible refine gate_dst (N := 2) rfl ?_); refine boxE (cs := #[.int .i64 0, .slice none 0 0, .int .i64 0]) (t := 40) ?_; intro gb2 hg w5 hbox hb; have n0_ := Aside0.mk (HB.1.trans (hb.mono HB.1.size)); have n1_ := Aside0.mk (blk_below BK1.1 hb); have BK2 := Aside0.mk hbox; have GE2 := Aside0.mk (hg ▸ HB.1.size : w.heap.size <= gb2); clear HB BK1; have HB := n0_; have BK1 := n1_; clear n0_ n1_ hbox hg hb; obtain ⟨hcz1_0, hcz1_1, hfz1_0, hfz1_1⟩ := cz2 BK1.1)
  | ((with_reducible refine gate_dst (N := 3) rfl ?_); refine boxE (cs := #[.int .i64 0, .slice none 0 0, .int .i64 0]) (t := 40) ?_; intro pd hg w6 hbox hb; have n0_ := Aside0.mk (HB.1.trans (hb.mono HB.1.size)); have n1_ := Aside0.mk (blk_below BK1.1 hb); have n2_ := Aside0.mk (blk_below BK2.1 hb); have BKd := Aside0.mk hbox; have GEd := Aside0.mk (hg ▸ HB.1.size : w.heap.size <= pd); have N2d := Aside0.mk (nB BK2.1 hg); clear HB BK1 BK2 hcz1_0 hcz1_1 hfz1_0 hfz1_1; have HB := n0_; have BK1 := n1_; have BK2 := n2_; clear n0_ n1_ n2_ hbox hg hb; obtain ⟨hcz_0, hcz_1, hcz_2, hfz_0, hfz_1, hfz_2⟩ := cz3 BKd.1)
  | ((with_reducible refine gate_store (t := 40) (p := 3) rfl ?_); refine storeE (t := 40) (p := 3) (w1 := ((w6.setCell ⟨pd, 0, none⟩ (.int .i64 xn)).setCell ⟨pd, 1, none⟩ (.slice none 0 0)).setCell ⟨pd, 2, none⟩ (.int .i64 0)) ?_; intro w7 hw; have b3 := Aside0.mk (blk_put (blk_put (blk_put BKd.1 0 (.int .i64 xn) rfl) 1 (.slice none 0 0) rfl) 2 (.int .i64 0) rfl); have n0_ := Aside0.mk (((HB.1.setCell (p := ⟨pd, 0, none⟩) GEd.1 (.int .i64 xn)).setCell (p := ⟨pd, 1, none⟩) GEd.1 (.slice none 0 0)).setCell (p := ⟨pd, 2, none⟩) GEd.1 (.int .i64 0)); have n1_ := Aside0.mk (blk_far (blk_far (blk_far BK1.1 (ine_type BK1.1 BKd.1 (by decide)) (p := ⟨pd, 0, none⟩) (.int .i64 xn)) (ine_type BK1.1 BKd.1 (by decide)) (p := ⟨pd, 1, none⟩) (.slice none 0 0)) (ine_type BK1.1 BKd.1 (by decide)) (p := ⟨pd, 2, none⟩) (.int .i64 0)); have n2_ := Aside0.mk (blk_far (blk_far (blk_far BK2.1 N2d.1 (p := ⟨pd, 0, none⟩) (.int .i64 xn)) N2d.1 (p := ⟨pd, 1, none⟩) (.slice none 0 0)) N2d.1 (p := ⟨pd, 2, none⟩) (.int .i64 0)); rw [<- hw] at n0_ n1_ n2_ b3; clear HB BK1 BK2 BKd hcz_0 hcz_1 hcz_2 hfz_0 hfz_1 hfz_2 hw; have HB := n0_; have BK1 := n1_; have BK2 := n2_; have BKd := b3; clear n0_ n1_ n2_ b3)
  | ((with_reducible refine gate_dst (N := 4) rfl ?_); refine boxE (cs := #[.nilFunc]) (t := 53) ?_; intro pb hg w8 hbox hb; have n0_ := Aside0.mk (HB.1.trans (hb.mono HB.1.size)); have n1_ := Aside0.mk (blk_below BK1.1 hb); have n2_ := Aside0.mk (blk_below BK2.1 hb); have n3_ := Aside0.mk (blk_below BKd.1 hb); have BKb := Aside0.mk hbox; have GEb := Aside0.mk (hg ▸ HB.1.size : w.heap.size <= pb); clear HB BK1 BK2 BKd; have HB := n0_; have BK1 := n1_; have BK2 := n2_; have BKd := n3_; clear n0_ n1_ n2_ n3_ hg hb; have hcv : w8.cell? ⟨pb, 0, none⟩ = some .nilFunc := (blk_cell hbox 0).trans rfl; have hfv := blk_frozen hbox 0; clear hbox)
  | ((with_reducible refine gate_store (t := 53) (p := 4) rfl ?_); refine storeE (t := 53) (p := 4) (w1 := w8.setCell ⟨pb, 0, none⟩ (.func (.func 32) #[] #[.pointer (some ⟨pt, 0, none⟩), .pointer (some ⟨pb, 0, none⟩), .pointer (some ⟨pd, 0, none⟩)])) ?_; intro w9 hw; have n0_ := Aside0.mk (HB.1.setCell (p := ⟨pb, 0, none⟩) GEb.1 (.func (.func 32) #[] #[.pointer (some ⟨pt, 0, none⟩), .pointer (some ⟨pb, 0, none⟩), .pointer (some ⟨pd, 0, none⟩)])); have n1_ := Aside0.mk (blk_far BK1.1 (ine_type BK1.1 BKb.1 (by decide)) (p := ⟨pb, 0, none⟩) (.func (.func 32) #[] #[.pointer (some ⟨pt, 0, none⟩), .pointer (some ⟨pb, 0, none⟩), .pointer (some ⟨pd, 0, none⟩)])); have n2_ := Aside0.mk (blk_far BK2.1 (ine_type BK2.1 BKb.1 (by decide)) (p := ⟨pb, 0, none⟩) (.func (.func 32) #[] #[.pointer (some ⟨pt, 0, none⟩), .pointer (some ⟨pb, 0, none⟩), .pointer (some ⟨pd, 0, none⟩)])); have n3_ := Aside0.mk (blk_far BKd.1 (ine_type BKd.1 BKb.1 (by decide)) (p := ⟨pb, 0, none⟩) (.func (.func 32) #[] #[.pointer (some ⟨pt, 0, none⟩), .pointer (some ⟨pb, 0, none⟩), .pointer (some ⟨pd, 0, none⟩)])); have n4_ := Aside0.mk (blk_put BKb.1 0 (.func (.func 32) #[] #[.pointer (some ⟨pt, 0, none⟩), .pointer (some ⟨pb, 0, none⟩), .pointer (some ⟨pd, 0, none⟩)]) rfl); rw [<- hw] at n0_ n1_ n2_ n3_ n4_; clear HB BK1 BK2 BKd BKb hcv hfv hw; have HB := n0_; have BK2 := n2_; have BKd := n3_; have HX := Aside0.mk (⟨n1_.1, n4_.1⟩ : IFix pt pb pd (.int .i64 xn) (.slice A vs.length c) w9); clear n0_ n1_ n2_ n3_ n4_; have hcv : w9.cell? ⟨pb, 0, none⟩ = some (.func (.func 32) #[] #[.pointer (some ⟨pt, 0, none⟩), .pointer (some ⟨pb, 0, none⟩), .pointer (some ⟨pd, 0, none⟩)]) := (blk_cell HX.1.2 0).trans rfl)
  | (go_at_call 32; refine (HB1.1 pt pb pd GEd.1 _ HB.1 HX.1 ⟨_, BKd.1, R_nil _ _ _ _ _⟩).mono ?_; rintro e w10 ⟨rfl, q1, q2, q3⟩; obtain ⟨v, hv, hR⟩ := q1; obtain ⟨A1, c1, ev⟩ := R_slice hR; subst ev; have HR := Aside0.mk hR; have n0_ := Aside0.mk q3; have n1_ := Aside0.mk (q2.2 _ _ _ BK2.1 (.inr N2d.1) (by decide)); clear HB BK2 BKd HX hcv q2 q3 hR; have HB := n0_; have BK2 := n1_; have BKd := Aside0.mk hv; clear n0_ n1_ hv; obtain ⟨hcz_0, hcz_1, hcz_2, hfz_0, hfz_1, hfz_2⟩ := cz3 BKd.1)
  | ((with_reducible refine gate_store (t := 3) (p := 11) rfl ?_); refine storeE (t := 3) (p := 11) (w1 := w10.setCell ⟨pd, 2, none⟩ (.int .i64 r)) ?_; intro w11 hw; have n0_ := Aside0.mk (HB.1.setCell (p := ⟨pd, 2, none⟩) GEd.1 (.int .i64 r)); have n1_ := Aside0.mk (blk_far BK2.1 N2d.1 (p := ⟨pd, 2, none⟩) (.int .i64 r)); have n2_ := Aside0.mk (blk_put BKd.1 2 (.int .i64 r) rfl); have n3_ := Aside0.mk (R_set HR.1 BKd.1 (by decide) 2 (.int .i64 r)); rw [<- hw] at n0_ n1_ n2_ n3_; clear HB BK2 BKd HR hw hcz_0 hcz_1 hcz_2 hfz_0 hfz_1 hfz_2; have HB := n0_; have BK2 := n1_; have BKd := n2_; have HR := n3_; clear n0_ n1_ n2_ n3_; obtain ⟨hcz_0, hcz_1, hcz_2, hfz_0, hfz_1, hfz_2⟩ := cz3 BKd.1; obtain ⟨hcy_0, hcy_1, hcy_2, hfy_0, hfy_1, hfy_2⟩ := cz3 BK2.1))
 refine bodyPost_ret (results_cell_row rfl _ _ gb2 40 #[.int .i64 xn, .slice A1 ns.length c1, .int .i64 r] (0, 0) _ rfl (PF0 BK2.1) Try.underlying40 rfl (by kernel_rfl)) rfl ?_
 exact ⟨_, rfl, R_set (R_set (R_set HR.1 BK2.1 (by decide) 0 _) (PF0 BK2.1) (by decide) 1 _) (PF0 BK2.1) (by decide) 2 _, BL HB.1⟩
theorem impl_diagramOf.calls (a0_0 : Int) (A0_1 : Option Addr) (c0_1 : Nat) (l0_1 : List Int) (r1 : Int) (r2 : List (S57)) (r3 : Int) (w : World) (hr0_1 : Kd.C (Kd.int .i64) w A0_1 l0_1.length l0_1) (hc0_1 : l0_1.length <= c0_1) (h : impl_diagramOf.f a0_0 l0_1 = some (r1, r2, r3)) :
 Calls Try.prog 21 #[.agg #[.int .i64 a0_0, .slice A0_1 l0_1.length c0_1]] w fun e w' => ∃ v1_ : Value, e = .returned (.agg #[.int .i64 r1, v1_, .int .i64 r3]) /\ Kd.R k57 57 w' w.heap.size (fun _ => True) v1_ r2 /\ Below w.heap.size w w' := by
 unfold impl_diagramOf.f spec_ddMake.f at h
 obtain ⟨⟨h0, h1, h2⟩, h⟩ := ifP h
 cases h
 exact diagramOf_calls a0_0.toNat a0_0 A0_1 c0_1 l0_1 w hr0_1 (by omega) (by omega) h2

end Go.Proofs.Ythfnceilapgloaa.P
