-- PRINTED by print.py (a twelfth state) out of the translation. Not trusted: Lean checks it.
import Derived.Test.YtfekgidcnidijaaDoorPx0
import Derived.Test.YtfekgidcnidijaaDoorPx1
import Derived.Test.YtfekgidcnidijaaDoorPx3
import Derived.Test.YtfekgidcnidijaaDoorJoin
namespace Go.Proofs.YtfekgidcnidijaaDoor.P
open Go.RowKit Go.Proofs.YtfekgidcnidijaaDoorW.PrintWords Go.Proofs.YtfekgidcnidijaaDoorW.PrintLast Go.Proofs.YtfekgidcnidijaaDoorW.PrintMore
attribute [local go_sem] max2_int min2_int max_two min_two max_three min_three max_four min_four   -- for this text's walks alone
set_option linter.unusedVariables false
set_option linter.unusedSimpArgs false
set_option maxHeartbeats 8000000
set_option maxRecDepth 100000

attribute [local go_sem high] eqA86
/-! ### impl_visitOrder: function 69 -/
open Kd
attribute [local go_sem] max2_int min2_int max_two min_two max_three min_three max_four min_four
theorem wrap_smallV {x : Int} (h0 : 0 <= x) (h1 : x <= 1000000) : wrap64 x = x := by unfold wrap64; omega
def DRefs (ns : List S86) : Prop := ∀ j, (h : j < ns.length) -> 0 <= ns[j].f1 /\ ns[j].f1 <= j + 1 /\ 0 <= ns[j].f2 /\ ns[j].f2 <= j + 1
instance (ns : List S86) : Decidable (DRefs ns) := by unfold DRefs; infer_instance
/-- The program's visit of a reference: the marks and the nodes in their order. -/
def dvst (ns : List S86) : Nat -> Int -> List Bool × List Int -> List Bool × List Int
 | 0, _, s => s
 | k + 1, r, s => if r < 2 ∨ rdOf false s.1 (r - 2) = true then s else
  ((dvst ns k (rd_T86 ns (r - 2)).f2 (dvst ns k (rd_T86 ns (r - 2)).f1 (s.1.set (r - 2).toNat true, s.2))).1,
   (dvst ns k (rd_T86 ns (r - 2)).f2 (dvst ns k (rd_T86 ns (r - 2)).f1 (s.1.set (r - 2).toNat true, s.2))).2 ++ [r - 2])
theorem dvst_len (ns : List S86) : ∀ k r s, (dvst ns k r s).1.length = s.1.length
 | 0, _, _ => rfl
 | k + 1, r, s => by
  simp only [dvst]
  split
  · rfl
  · simp [dvst_len ns k]
theorem dvst_out (ns : List S86) : ∀ k r s, (dvst ns k r s).2.length + 1 <= s.2.length + 2 ^ k
 | 0, _, _ => Nat.le_refl _
 | k + 1, r, s => by
  have hp : (2 : Nat) ^ (k + 1) = 2 ^ k + 2 ^ k := by rw [Nat.pow_succ]; omega
  have := Nat.two_pow_pos k
  simp only [dvst]
  split
  · omega
  · have h1 := dvst_out ns k (rd_T86 ns (r - 2)).f1 (s.1.set (r - 2).toNat true, s.2)
    have h2 := dvst_out ns k (rd_T86 ns (r - 2)).f2 (dvst ns k (rd_T86 ns (r - 2)).f1 (s.1.set (r - 2).toNat true, s.2))
    simp only [List.length_append, List.length_singleton] at *
    omega
theorem ne_type {w : World} {a b : Nat} {t t' : TypeId} {cs cs' : Array Value} (ha : w.heap[a]? = some (.cells cs t (0, 0))) (hb : w.heap[b]? = some (.cells cs' t' (0, 0))) (h : t ≠ t') : a ≠ b := by
 rintro rfl
 rw [ha] at hb
 cases hb
 exact h rfl
def VFix (pd pv ps po : Nat) (d0 d1 d2 : Value) (w : World) : Prop := w.heap[pd]? = some (.cells #[d0, d1, d2] 50 (0, 0)) /\ w.heap[pv]? = some (.cells #[.func (.func 77) #[] #[.pointer (some ⟨ps, 0, none⟩), .pointer (some ⟨pd, 0, none⟩), .pointer (some ⟨pv, 0, none⟩), .pointer (some ⟨po, 0, none⟩)]] 118 (0, 0))
def VSt (base ps po gs cs : Nat) (S : List Bool) (out : List Int) (w : World) : Prop :=
 w.heap[ps]? = some (.cells #[.slice (some ⟨gs, 0, none⟩) S.length cs] 117 (0, 0)) /\ Kd.R Kd.bool 4 w base (fun _ => True) (.slice (some ⟨gs, 0, none⟩) S.length cs) S /\ ∃ v, w.heap[po]? = some (.cells #[v] 22 (0, 0)) /\ Kd.R (Kd.int .i64) 3 w base (fun _ => True) v out
/-- What stays: the blocks of all other types. -/
def VStay (w w' : World) : Prop := w.heap.size <= w'.heap.size /\ ∀ (k : Nat) (cs : Array Value) (t : TypeId), w.heap[k]? = some (.cells cs t (0, 0)) -> t ≠ 22 -> t ≠ 3 -> t ≠ 4 -> w'.heap[k]? = some (.cells cs t (0, 0))
theorem VStay.refl (w : World) : VStay w w := ⟨Nat.le_refl _, fun _ _ _ h _ _ _ => h⟩
theorem VStay.trans {w w1 w2 : World} (h : VStay w w1) (h' : VStay w1 w2) : VStay w w2 := ⟨Nat.le_trans h.1 h'.1, fun k cs t hk a b c => h'.2 k cs t (h.2 k cs t hk a b c) a b c⟩
theorem VStay.below {w w1 w2 : World} (h : VStay w w1) (hb : Below w1.heap.size w1 w2) : VStay w w2 := h.trans ⟨hb.size, fun k cs t hk _ _ _ => blk_below hk hb⟩
theorem VStay.far {w w1 : World} (h : VStay w w1) {g i : Nat} {u : Value} (hg : ∀ (k : Nat) (cs : Array Value) (t : TypeId), w.heap[k]? = some (.cells cs t (0, 0)) -> t ≠ 22 -> t ≠ 3 -> t ≠ 4 -> k ≠ g) : VStay w (w1.setCell ⟨g, i, none⟩ u) :=
 ⟨by have := h.1; simpa [World.setCell] using this, fun k cs t hk a b c => blk_far (h.2 k cs t hk a b c) (hg k cs t hk a b c) u⟩
theorem VFix.stay {pd pv ps po : Nat} {d0 d1 d2 : Value} {w w' : World} (h : VFix pd pv ps po d0 d1 d2 w) (hs : VStay w w') : VFix pd pv ps po d0 d1 d2 w' := ⟨hs.2 _ _ _ h.1 (by decide) (by decide) (by decide), hs.2 _ _ _ h.2 (by decide) (by decide) (by decide)⟩
theorem VSt.below {base ps po gs cs : Nat} {S : List Bool} {out : List Int} {w w' : World} (h : VSt base ps po gs cs S out w) (hb : Below w.heap.size w w') : VSt base ps po gs cs S out w' := by
 obtain ⟨h1, h2, v, h3, h4⟩ := h
 exact ⟨blk_below h1 hb, R_below h2 hb, v, blk_below h3 hb, R_below h4 hb⟩
theorem VSt.far {base ps po gs cs : Nat} {S : List Bool} {out : List Int} {w : World} (h : VSt base ps po gs cs S out w) {g : Nat} {cells : Array Value} (hg : w.heap[g]? = some (.cells cells 86 (0, 0))) (i : Nat) (u : Value) : VSt base ps po gs cs S out (w.setCell ⟨g, i, none⟩ u) := by
 obtain ⟨h1, h2, v, h3, h4⟩ := h
 exact ⟨blk_far h1 (ne_type h1 hg (by decide)) u, R_set h2 hg (by decide) i u, v, blk_far h3 (ne_type h3 hg (by decide)) u, R_set h4 hg (by decide) i u⟩
/-- A mark is set. -/
theorem VSt.mark {base ps po gs cs : Nat} {S : List Bool} {out : List Int} {w : World} (h : VSt base ps po gs cs S out w) (j : Int) : VSt base ps po gs cs (S.set j.toNat true) out (w.setCell ⟨gs, j.toNat, none⟩ (.bool true)) := by
 obtain ⟨h1, h2, v, h3, h4⟩ := h
 obtain ⟨h5, hg⟩ := R_putg h2 j true
 have hty := R_typed h2
 have hne : ∀ (k : Nat) (c : Array Value) (t : TypeId), w.heap[k]? = some (.cells c t (0, 0)) -> t ≠ 4 -> k ≠ gs := fun k c t hk ht => by
  obtain ⟨c', hc'⟩ := hty gs rfl
  exact ne_type hk hc' ht
 refine ⟨?_, ?_, v, blk_far h3 (hne _ _ _ h3 (by decide)) _, R_over' (v := .slice (some ⟨gs, 0, none⟩) S.length cs) h4 hty (by decide) hg⟩
 · rw [List.length_set]; exact blk_far h1 (hne _ _ _ h1 (by decide)) _
 · rw [List.length_set]; exact h5
/-- The row of the nodes met grows. -/
theorem VSt.grow {base ps po gs cs : Nat} {S : List Bool} {out out1 : List Int} {w w1 : World} {v v1 : Value} (h1 : w.heap[ps]? = some (.cells #[.slice (some ⟨gs, 0, none⟩) S.length cs] 117 (0, 0))) (h2 : Kd.R Kd.bool 4 w base (fun _ => True) (.slice (some ⟨gs, 0, none⟩) S.length cs) S) (h3 : w.heap[po]? = some (.cells #[v] 22 (0, 0))) (h4 : Kd.R (Kd.int .i64) 3 w base (fun _ => True) v out)
 (hg : w.grownBy w1 v.ownBlock) (ho : Kd.R (Kd.int .i64) 3 w1 base (fun _ => True) v1 out1) : VSt base ps po gs cs S out1 (w1.setCell ⟨po, 0, none⟩ v1) := by
 have k1 := blk_grown h1 hg (R_ne h4 h1 (by decide))
 have k2 := R_over' h2 (R_typed h4) (by decide) hg
 have k3 := blk_grown h3 hg (R_ne h4 h3 (by decide))
 exact ⟨blk_far k1 (ne_type k1 k3 (by decide)) v1, R_set k2 k3 (by decide) 0 v1, v1, (blk_put k3 0 v1 rfl), R_set ho k3 (by decide) 0 v1⟩
theorem VFix.far {pd pv ps po : Nat} {d0 d1 d2 : Value} {w : World} (h : VFix pd pv ps po d0 d1 d2 w) {g : Nat} {cells : Array Value} {t : TypeId} (hg : w.heap[g]? = some (.cells cells t (0, 0))) (h29 : 50 ≠ t) (h88 : 118 ≠ t) (i : Nat) (u : Value) : VFix pd pv ps po d0 d1 d2 (w.setCell ⟨g, i, none⟩ u) :=
 ⟨blk_far h.1 (ne_type h.1 hg h29) u, blk_far h.2 (ne_type h.2 hg h88) u⟩
theorem VSt.bit {base ps po gs cs : Nat} {S : List Bool} {out : List Int} {w : World} (h : VSt base ps po gs cs S out w) {j : Int} (h0 : 0 <= j) (h1 : j < (S.length : Int)) : w.cell? ⟨gs, j.toNat, none⟩ = some (.bool (rdOf false S j)) := by
 obtain ⟨ad, e, hx⟩ := Kd.at_bool (R_reads' h.2.1).2.2 j h0 h1
 cases e
 rw [show (⟨gs, 0, none⟩ : Addr).add j.toNat = ⟨gs, j.toNat, none⟩ by simp [Addr.add]; intro h_; omega] at hx
 exact hx
/-- All that is known between two steps of a visit that began in w0. -/
structure VAll (W0 : World) (ps pd pv po gs cs : Nat) (d0 d1 d2 : Value) (S : List Bool) (out : List Int) (w0 w : World) : Prop where
 hb : Below W0.heap.size W0 w
 fx : VFix pd pv ps po d0 d1 d2 w
 st : VSt W0.heap.size ps po gs cs S out w
 sy : VStay w0 w
section
variable {W0 : World} {ps pd pv po gs cs : Nat} {d0 d1 d2 : Value} {S S' : List Bool} {out out' : List Int} {w0 w w' : World}
theorem VAll.below (h : VAll W0 ps pd pv po gs cs d0 d1 d2 S out w0 w) (hb : Below w.heap.size w w') : VAll W0 ps pd pv po gs cs d0 d1 d2 S out w0 w' :=
 ⟨h.hb.trans (hb.mono h.hb.size), h.fx.stay ((VStay.refl w).below hb), h.st.below hb, h.sy.below hb⟩
theorem VAll.far (h : VAll W0 ps pd pv po gs cs d0 d1 d2 S out w0 w) {g : Nat} {cells : Array Value} (hg : w.heap[g]? = some (.cells cells 86 (0, 0))) (h0 : w0.heap.size <= g) (hW : W0.heap.size <= w0.heap.size) (i : Nat) (u : Value) : VAll W0 ps pd pv po gs cs d0 d1 d2 S out w0 (w.setCell ⟨g, i, none⟩ u) :=
 ⟨h.hb.setCell (p := ⟨g, i, none⟩) (Nat.le_trans hW h0) u, h.fx.far hg (by decide) (by decide) i u, h.st.far hg i u, h.sy.far (fun k _ _ hk _ _ _ => by have := blk_lt hk; omega)⟩
theorem VAll.mark (h : VAll W0 ps pd pv po gs cs d0 d1 d2 S out w0 w) (hgs : W0.heap.size <= gs) (h4 : ∃ c, w0.heap[gs]? = some (.cells c 4 (0, 0))) (j : Int) : VAll W0 ps pd pv po gs cs d0 d1 d2 (S.set j.toNat true) out w0 (w.setCell ⟨gs, j.toNat, none⟩ (.bool true)) := by
 obtain ⟨c, hc⟩ := R_typed h.st.2.1 gs rfl
 obtain ⟨c', hc'⟩ := h4
 exact ⟨h.hb.setCell (p := ⟨gs, j.toNat, none⟩) hgs _, h.fx.far hc (by decide) (by decide) _ _, h.st.mark j, h.sy.far (fun k _ _ hk _ _ h4 => ne_type hk hc' h4)⟩
theorem VAll.call (h : VAll W0 ps pd pv po gs cs d0 d1 d2 S out w0 w) (h1 : VSt W0.heap.size ps po gs cs S' out' w') (h2 : VStay w w') (h3 : Below W0.heap.size W0 w') : VAll W0 ps pd pv po gs cs d0 d1 d2 S' out' w0 w' := ⟨h3, h.fx.stay h2, h1, h.sy.trans h2⟩
theorem VAll.cells (h : VAll W0 ps pd pv po gs cs d0 d1 d2 S out w0 w) : w.cell? ⟨ps, 0, none⟩ = some (.slice (some ⟨gs, 0, none⟩) S.length cs) /\ w.cell? ⟨pd, 1, none⟩ = some d1 /\ w.cell? ⟨pv, 0, none⟩ = some (.func (.func 77) #[] #[.pointer (some ⟨ps, 0, none⟩), .pointer (some ⟨pd, 0, none⟩), .pointer (some ⟨pv, 0, none⟩), .pointer (some ⟨po, 0, none⟩)]) :=
 ⟨(blk_cell h.st.1 0).trans rfl, (blk_cell h.fx.1 1).trans rfl, (blk_cell h.fx.2 0).trans rfl⟩
end
theorem visit_calls (W0 : World) (d0 d2 : Value) (A : Option Addr) (c : Nat) (ns : List S86) (hC : Kd.C k86 W0 A ns.length ns) (hR : DRefs ns) (hns : ns.length <= 40) (ps pd pv po gs cs : Nat) (hps : W0.heap.size <= ps) (hpo : W0.heap.size <= po) (hgs : W0.heap.size <= gs) :
 ∀ (q : Nat) (r : Int) (S : List Bool) (out : List Int) (w : World), r.toNat < q -> 0 <= r -> r < 2 + (ns.length : Int) -> S.length = ns.length -> out.length + 2 ^ q <= 2 ^ 43 -> Below W0.heap.size W0 w -> VFix pd pv ps po d0 (.slice A ns.length c) d2 w -> VSt W0.heap.size ps po gs cs S out w ->
 Calls Tryd.prog 77 #[.int .i64 r, .pointer (some ⟨ps, 0, none⟩), .pointer (some ⟨pd, 0, none⟩), .pointer (some ⟨pv, 0, none⟩), .pointer (some ⟨po, 0, none⟩)] w fun e w' => e = .returned (.tuple #[]) /\ VSt W0.heap.size ps po gs cs (dvst ns q r (S, out)).1 (dvst ns q r (S, out)).2 w' /\ VStay w w' /\ Below W0.heap.size W0 w' := by
 intro q
 have hu50 := Tryd.underlying50
 have hu86 := Tryd.underlying86
 have HC := Aside0.mk hC
 clear hC
 induction q with
 | zero => intro r S out w h; omega
 | succ q ih =>
  intro r S out w hq h0 h1 hS hl hB hF hV
  by_cases c1 : r < 2
  · have e : dvst ns (q + 1) r (S, out) = (S, out) := by simp only [dvst]; exact if_pos (.inl c1)
    rw [e]
    have c1b : decide (r < 2) = true := decide_eq_true c1
    have HV := Aside0.mk hV
    have HB := Aside0.mk hB
    clear hV hB hF ih hS hl hq h0 h1 e c1
    go_enter Tryd.func77, Tryd.ntmps77
    go_wp2
    first | go_end0 | ((try simp only [Exit.inBlock, Exit.then]); refine bodyPost_ret (results_none rfl _ _ _) rfl ?_)
    exact ⟨rfl, HV.1, VStay.refl _, HB.1⟩
  obtain ⟨j, hj⟩ : ∃ j : Int, wrap64 (r - 2) = j := ⟨_, rfl⟩
  have ej : j = r - 2 := by rw [<- hj]; exact wrap_smallV (by omega) (by omega)
  have c1b : decide (r < 2) = false := decide_eq_false c1
  have pj : 0 <= j := by omega
  have qj : j < (S.length : Int) := by omega
  obtain ⟨v1, v2, v3, v4, v5⟩ := hV
  obtain ⟨ad, ead, hx⟩ := Kd.at_bool (R_reads' v2).2.2 j pj qj
  cases ead
  replace hx : w.cell? ⟨gs, j.toNat, none⟩ = some (.bool (rdOf false S j)) := by
   have h := hx
   rw [show (⟨gs, 0, none⟩ : Addr).add j.toNat = ⟨gs, j.toNat, none⟩ by simp [Addr.add]; intro h_; omega] at h
   exact h
  have hcs : w.cell? ⟨ps, 0, none⟩ = some (.slice (some ⟨gs, 0, none⟩) S.length cs) := (blk_cell v1 0).trans rfl
  by_cases c2 : rdOf false S j = true
  · have e : dvst ns (q + 1) r (S, out) = (S, out) := by simp only [dvst]; exact if_pos (.inr (by rw [<- ej]; exact c2))
    rw [e]
    rw [c2] at hx
    have HV := Aside0.mk (show VSt W0.heap.size ps po gs cs S out w from ⟨v1, v2, v3, v4, v5⟩)
    have HB := Aside0.mk hB
    clear hB hF ih hl hq h0 h1 e c1 v1 v2 v3 v4 v5 ej c2 hS
    replace pj := eq_true pj
    replace qj := eq_true qj
    go_enter Tryd.func77, Tryd.ntmps77
    go_wp2
    first | go_end0 | ((try simp only [Exit.inBlock, Exit.then]); refine bodyPost_ret (results_none rfl _ _ _) rfl ?_)
    exact ⟨rfl, HV.1, VStay.refl _, HB.1⟩
  -- the node is met for the first time
  have c2' : rdOf false S j = false := by simpa using c2
  rw [c2'] at hx
  have qn : j < (ns.length : Int) := by omega
  obtain ⟨adn, eadn, hn0, hn1, hn2⟩ := at_T86 HC.1 j pj qn
  cases eadn
  have ltn := World.block_lt_of_cell? W0 _ hn0
  have hjn : j.toNat < ns.length := by omega
  have hRj := hR j.toNat hjn
  have ern : rd_T86 ns j = ns[j.toNat] := by simp [rd_T86, List.getD, hjn]
  have eD : dvst ns (q + 1) r (S, out) = ((dvst ns q (rd_T86 ns j).f2 (dvst ns q (rd_T86 ns j).f1 (S.set j.toNat true, out))).1, (dvst ns q (rd_T86 ns j).f2 (dvst ns q (rd_T86 ns j).f1 (S.set j.toNat true, out))).2 ++ [j]) := by
   rw [ej]; simp only [dvst]; exact if_neg (by rw [<- ej, c2']; simp only [Bool.false_eq_true, or_false]; exact c1)
  have l1 := dvst_len ns q (rd_T86 ns j).f1 (S.set j.toNat true, out)
  have l2 := dvst_len ns q (rd_T86 ns j).f2 (dvst ns q (rd_T86 ns j).f1 (S.set j.toNat true, out))
  have o1 := dvst_out ns q (rd_T86 ns j).f1 (S.set j.toNat true, out)
  have o2 := dvst_out ns q (rd_T86 ns j).f2 (dvst ns q (rd_T86 ns j).f1 (S.set j.toNat true, out))
  have hp2 : (2 : Nat) ^ (q + 1) = 2 ^ q + 2 ^ q := by rw [Nat.pow_succ]; omega
  have hpos := Nat.two_pow_pos q
  have i1 := ih (rd_T86 ns j).f1 (S.set j.toNat true) out
  have i2 := ih (rd_T86 ns j).f2 (dvst ns q (rd_T86 ns j).f1 (S.set j.toNat true, out)).1 (dvst ns q (rd_T86 ns j).f1 (S.set j.toNat true, out)).2
  rw [eD]
  clear eD ih
  generalize dvst ns q (rd_T86 ns j).f2 (dvst ns q (rd_T86 ns j).f1 (S.set j.toNat true, out)) = R2 at *
  generalize dvst ns q (rd_T86 ns j).f1 (S.set j.toNat true, out) = R1 at *
  obtain ⟨S2, out2⟩ := R2
  obtain ⟨S1, out1⟩ := R1
  simp only [List.length_set] at *
  rw [ern] at i1 i2
  have a1 := fun w => i1 w (by omega) (by omega) (by omega) (by omega) (by omega)
  have a2 := fun w => i2 w (by omega) (by omega) (by omega) (by omega) (by omega)
  rw [<- ern] at a1 a2
  have HA1 := Aside0.mk a1
  have HA2 := Aside0.mk a2
  have hl2 : (out2.length + 1) * 8 <= 140737488355328 := by omega
  have hWw := hB.size
  have H4 := Aside0.mk (R_typed v2 gs rfl)
  have HV := Aside0.mk (VAll.mk (W0 := W0) hB hF (⟨v1, v2, v3, v4, v5⟩ : VSt W0.heap.size ps po gs cs S out w) (VStay.refl w))
  have hn0' := (hB.cell ltn).trans hn0
  have hn1' := (hB.cell (p := ⟨_, _, none⟩) ltn).trans hn1
  have hn2' := (hB.cell (p := ⟨_, _, none⟩) ltn).trans hn2
  obtain ⟨hps', hpd', hpv'⟩ := HV.1.cells
  clear hB hF hq h0 h1 c1 v1 v2 v3 v4 v5 ej c2 c2' hS hl i1 i2 a1 a2 l1 l2 o1 o2 hp2 hpos ern hRj hjn hn0 hn1 hn2 hcs
  replace pj := eq_true pj
  replace qj := eq_true qj
  replace qn := eq_true qn
  go_enter Tryd.func77, Tryd.ntmps77
  go_wp2_with (first
   | ((with_reducible refine gate_dst (N := 6) rfl ?_); refine boxE (cs := #[.int .i64 0, .int .i64 0, .int .i64 0]) (t := 86) ?_; intro gb hg w4 hbox hb; have n0_ := Aside0.mk (HV.1.below hb); have BK := Aside0.mk hbox; have GE := Aside0.mk (hg ▸ Nat.le_refl _ : w.heap.size <= gb); clear HV hps' hpd' hpv' hx hn0' hn1' hn2'; have HV := n0_; clear n0_ hbox hg hb; obtain ⟨hcz_0, hcz_1, hcz_2, hfz_0, hfz_1, hfz_2⟩ := cz3 BK.1)
   | ((with_reducible refine gate_store (t := 86) (p := 6) rfl ?_); refine storeE (t := 86) (p := 6) (w1 := ((w4.setCell ⟨gb, 0, none⟩ (.int .i64 (rd_T86 ns j).f0)).setCell ⟨gb, 1, none⟩ (.int .i64 (rd_T86 ns j).f1)).setCell ⟨gb, 2, none⟩ (.int .i64 (rd_T86 ns j).f2)) ?_; intro w5 hw; have b1 := blk_put BK.1 0 (.int .i64 (rd_T86 ns j).f0) rfl; have b2 := blk_put b1 1 (.int .i64 (rd_T86 ns j).f1) rfl; have b3 := blk_put b2 2 (.int .i64 (rd_T86 ns j).f2) rfl; have n0_ := Aside0.mk (((HV.1.far BK.1 GE.1 hWw 0 (.int .i64 (rd_T86 ns j).f0)).far b1 GE.1 hWw 1 (.int .i64 (rd_T86 ns j).f1)).far b2 GE.1 hWw 2 (.int .i64 (rd_T86 ns j).f2)); rw [<- hw] at n0_ b3; clear BK HV b1 b2 hcz_0 hcz_1 hcz_2 hfz_0 hfz_1 hfz_2 hw; have HV := n0_; have BK := Aside0.mk b3; clear n0_ b3; obtain ⟨hps', hpd', hpv'⟩ := HV.1.cells; obtain ⟨c4, hc4⟩ := R_typed HV.1.st.2.1 gs rfl; have hfr := blk_frozen hc4 j.toNat; clear hc4; have hx := VSt.bit HV.1.st (of_eq_true pj) (of_eq_true qj))
   | ((with_reducible refine gate_store (t := 4) (p := 25) rfl ?_); refine storeE (t := 4) (p := 25) (w1 := w5.setCell ⟨gs, j.toNat, none⟩ (.bool true)) ?_; intro w6 hw; have n0_ := Aside0.mk (HV.1.mark hgs H4.1 j); obtain ⟨c4, hc4⟩ := R_typed HV.1.st.2.1 gs rfl; have n1_ := Aside0.mk (blk_far BK.1 (ne_type BK.1 hc4 (by decide)) (p := ⟨gs, j.toNat, none⟩) (.bool true)); rw [<- hw] at n0_ n1_; clear BK HV hps' hpd' hpv' hfr hx hw hc4; have HV := n0_; have BK := n1_; clear n0_ n1_; obtain ⟨hps', hpd', hpv'⟩ := HV.1.cells; obtain ⟨hcz_0, hcz_1, hcz_2, hfz_0, hfz_1, hfz_2⟩ := cz3 BK.1)
   | (go_at_call 77; first
    | (refine (HA1.1 _ HV.1.hb HV.1.fx HV.1.st).mono ?_; rintro e w7 ⟨rfl, q1, q2, q3⟩; refine E2 (HV.1.call q1 q2 q3) (q2.2 _ _ _ BK.1 (by decide) (by decide) (by decide)) ?_; clear BK HV hps' hpd' hpv' hcz_0 hcz_1 hcz_2 hfz_0 hfz_1 hfz_2 q1 q2 q3; intro HV BK; obtain ⟨hps', hpd', hpv'⟩ := HV.1.cells; obtain ⟨hcz_0, hcz_1, hcz_2, hfz_0, hfz_1, hfz_2⟩ := cz3 BK.1)
    | (refine (HA2.1 _ HV.1.hb HV.1.fx HV.1.st).mono ?_; rintro e w8 ⟨rfl, q1, q2, q3⟩; refine E1 (HV.1.call q1 q2 q3) ?_; clear BK HV hps' hpd' hpv' hcz_0 hcz_1 hcz_2 hfz_0 hfz_1 hfz_2 q1 q2 q3; intro HV; obtain ⟨o1, o2, v, o3, o4⟩ := HV.1.st; obtain ⟨Ao, co, eo⟩ := R_slice o4; subst eo; have O1 := Aside0.mk o1; have O2 := Aside0.mk o2; have O3 := Aside0.mk o3; have O4 := Aside0.mk o4; have hpo' : w8.cell? ⟨po, 0, none⟩ = some (.slice Ao out2.length co) := (blk_cell o3 0).trans rfl; clear o1 o2 o3 o4))
   | ((with_reducible refine gate_builtin (b := .append) (xs := #[.tmp 34, .tmp 37]) rfl ?_); at_builtin; refine R_append (Kd.int .i64) (w0 := W0) W0.heap.size rfl (.tmp 34) (.tmp 37) 22 3 (.int .i64 0) 8 rfl Tryd.underlying22 info3 rfl (by decide) (by omega) (.slice Ao out2.length co) out2 j [.int .i64 j] (fun _ => True) (fun _ => False) rfl rfl rfl (fun _ hk => hk.elim) (fun _ _ => trivial) O4.1 HV.1.hb HV.1.hb.size hl2 ?_; intro v9 w9 ho hb hg hat; obtain ⟨A9, c9, e9⟩ := R_slice ho; subst e9; have n0_ := Aside0.mk (VSt.grow O1.1 O2.1 O3.1 O4.1 hg ho); have k3 := blk_grown O3.1 hg (R_ne O4.1 O3.1 (by decide)); have hpo' : w9.cell? ⟨po, 0, none⟩ = some (.slice Ao out2.length co) := (blk_cell k3 0).trans rfl; have hfo := blk_frozen k3 0; have K3 := Aside0.mk k3; have GR := Aside0.mk hg; have HB9 := Aside0.mk hb; have O9 := n0_; clear ho hb hg hat n0_ k3)
   | ((with_reducible refine gate_store (t := 22) (p := 4) rfl ?_); refine storeE (t := 22) (p := 4) (w1 := w9.setCell ⟨po, 0, none⟩ (.slice A9 (out2 ++ [j]).length c9)) ?_; intro w10 hw; have n0_ := O9.1; rw [<- hw] at n0_; have HW := Aside0.mk hw; have O10 := Aside0.mk n0_; clear n0_ hw O9))
  refine bodyPost_end (results_none rfl _ _ _) rfl ?_
  refine ⟨rfl, O10.1, ⟨?_, fun k cs t hk a b c => ?_⟩, ?_⟩
  · have h1 := HV.1.sy.1
    have h2 := GR.1.size
    rw [HW.1]; simp [World.setCell]; omega
  · have h8 := HV.1.sy.2 k cs t hk a b c
    rw [HW.1]
    exact blk_far (blk_grown h8 GR.1 (R_ne O4.1 h8 (Ne.symm b))) (ne_type h8 O3.1 a) _
  · rw [HW.1]; exact HB9.1.setCell (p := ⟨po, 0, none⟩) hpo _
theorem drun_store_func {a : Addr} {m : Mode} {P : Program} {w : World} (f : Fn) (x y : Array Value) : (store a (.func f x y) m).run P w = stored P w a (.func f x y) m := run_store P w a _ m rfl
attribute [local go_sem] drun_store_func
theorem dinfo4 : (Tryd.prog.info? 4).map (fun i => (i.zero, i.size, i.bytes)) = some (some (.bool false), 1, 1) := by kernel_rfl
theorem R_blockAt {α : Type} {d : Kd α} {e : Nat} {w : World} {base : Nat} {ok : Nat -> Prop} {v : Value} {xs : List α} (h : d.R e w base ok v xs) {b : Nat} (hb : v.ownBlock = some b) : ∃ g c, v = .slice (some ⟨g, 0, none⟩) xs.length c /\ base <= g := by
 obtain ⟨inner, ho⟩ := R_own h
 have hbase := own_base ho
 rcases ho.2 with ⟨rfl, _⟩ | ⟨g, cap, cur, rfl, _⟩
 · simp [Value.ownBlock] at hb
 · exact ⟨g, cap, rfl, hbase g rfl⟩
/-- The order in which the program meets the nodes. -/
def impl_visitOrder.f (a0_0 : Int) (l0_1 : List (S86)) (a0_2 : Int) : Option (List Int) := if l0_1.length <= 40 /\ DRefs l0_1 /\ 0 <= a0_2 /\ a0_2 < 2 + (l0_1.length : Int) then some (dvst l0_1 (a0_2.toNat + 1) a0_2 (List.replicate l0_1.length false, [])).2 else none
theorem order_calls (xn root : Int) (A : Option Addr) (c : Nat) (ns : List S86) (w : World) (hC : Kd.C k86 w A ns.length ns) (hns : ns.length <= 40) (hR : DRefs ns) (h0 : 0 <= root) (h1 : root < 2 + (ns.length : Int)) :
 Calls Tryd.prog 69 #[.agg #[.int .i64 xn, .slice A ns.length c, .int .i64 root]] w fun e w' => ∃ v0_ : Value, e = .returned (v0_) /\ Kd.R (Kd.int .i64) 3 w' w.heap.size (fun _ => True) v0_ (dvst ns (root.toNat + 1) root (List.replicate ns.length false, [])).2 /\ Below w.heap.size w w' := by
 have hu50 := Tryd.underlying50
 have hV := fun ps pd pv po gs cs (hps : w.heap.size <= ps) (hpo : w.heap.size <= po) (hgs : w.heap.size <= gs) w1 => visit_calls w (.int .i64 xn) (.int .i64 root) A c ns hC hR hns ps pd pv po gs cs hps hpo hgs (root.toNat + 1) root (List.replicate ns.length false) [] w1 (by omega) h0 h1 (by simp) (by simpa using Nat.pow_le_pow_right (n := 2) (by decide) (by omega : root.toNat + 1 <= 43))
 have HVv := Aside0.mk hV
 have HN := Aside0.mk hns
 generalize dvst ns (root.toNat + 1) root (List.replicate ns.length false, []) = R at *
 obtain ⟨S, out⟩ := R
 simp only at *
 clear hV hC hR h0 h1 hns
 have c3 : decide (0 <= (ns.length : Int)) = true := decide_eq_true (by omega)
 have HB := Aside0.mk (Below.refl w.heap.size w)
 go_enter Tryd.func69, Tryd.ntmps69
 go_wp2_with (first
  | ((with_reducible refine gate_dst (N := 1) rfl ?_); refine boxE (cs := #[.int .i64 xn, .slice A ns.length c, .int .i64 root]) (t := 50) ?_; intro pd hg w4 hbox hb; have n0_ := Aside0.mk (HB.1.trans (hb.mono HB.1.size)); have BK1 := Aside0.mk hbox; have GE1 := Aside0.mk (hg ▸ HB.1.size : w.heap.size <= pd); clear HB; have HB := n0_; clear n0_ hbox hg hb; obtain ⟨hcz1_0, hcz1_1, hcz1_2, hfz1_0, hfz1_1, hfz1_2⟩ := cz3 BK1.1)
  | ((with_reducible refine gate_dst (N := 9) rfl ?_); refine R_make Kd.bool _ 4 rfl (N := 9) rfl 117 _ _ rfl (ns.length : Int) rfl rfl Tryd.underlying117 (.bool false) 1 dinfo4 rfl (by decide) (by omega) false (ok := fun _ => True) (okp := fun _ => True) rfl (fun _ hk => hk) trivial (by omega) (by have := HN.1; omega) (Below.refl _ _) (Nat.le_refl _) ?_; intro v5 w5 ho hb hg_ hnew; obtain ⟨b5, hb5, _⟩ := hnew; rw [Int.toNat_natCast] at ho; obtain ⟨gs, cs, e5, hgs⟩ := R_blockAt ho hb5; rw [List.length_replicate] at e5; subst e5; have n0_ := Aside0.mk (HB.1.trans (hb.mono HB.1.size)); have n1_ := Aside0.mk (blk_below BK1.1 hb); have GS := Aside0.mk (Nat.le_trans HB.1.size hgs : w.heap.size <= gs); have OS := Aside0.mk (R_lower ho HB.1.size); clear HB BK1 hcz1_0 hcz1_1 hcz1_2 hfz1_0 hfz1_1 hfz1_2 ho hb hg_ hb5 hgs; have HB := n0_; have BK1 := n1_; clear n0_ n1_)
  | ((with_reducible refine gate_dst (N := 3) rfl ?_); refine boxE (cs := #[.slice none 0 0]) (t := 117) ?_; intro ps hg w6 hbox hb; have n0_ := Aside0.mk (HB.1.trans (hb.mono HB.1.size)); have n1_ := Aside0.mk (blk_below BK1.1 hb); have n2_ := Aside0.mk (R_below OS.1 hb); have BKs := Aside0.mk hbox; have GEs := Aside0.mk (hg ▸ HB.1.size : w.heap.size <= ps); clear HB BK1 OS; have HB := n0_; have BK1 := n1_; have OS := n2_; clear n0_ n1_ n2_ hg hb; have hcs := (blk_cell hbox 0).trans rfl; have hfs := blk_frozen hbox 0; clear hbox)
  | ((with_reducible refine gate_store (t := 117) (p := 3) rfl ?_); refine storeE (t := 117) (p := 3) (w1 := w6.setCell ⟨ps, 0, none⟩ (.slice (some ⟨gs, 0, none⟩) ns.length cs)) ?_; intro w7 hw; have n0_ := Aside0.mk (HB.1.setCell (p := ⟨ps, 0, none⟩) GEs.1 (.slice (some ⟨gs, 0, none⟩) ns.length cs)); have n1_ := Aside0.mk (blk_far BK1.1 (ne_type BK1.1 BKs.1 (by decide)) (p := ⟨ps, 0, none⟩) (.slice (some ⟨gs, 0, none⟩) ns.length cs)); have n2_ := Aside0.mk (R_set OS.1 BKs.1 (by decide) 0 (.slice (some ⟨gs, 0, none⟩) ns.length cs)); have n3_ := Aside0.mk (blk_put BKs.1 0 (.slice (some ⟨gs, 0, none⟩) ns.length cs) rfl); rw [<- hw] at n0_ n1_ n2_ n3_; clear HB BK1 OS BKs hcs hfs hw; have HB := n0_; have BK1 := n1_; have OS := n2_; have BKs := n3_; clear n0_ n1_ n2_ n3_)
  | ((with_reducible refine gate_dst (N := 10) rfl ?_); refine R_lit (Kd.int .i64) _ 3 ?hg (N := 10) ?hd (xs := ([] : List Int)) (inner := []) (ok := fun _ => True) (okp := fun _ => True) ?hr ?hp (fun _ hk => hk) trivial (Below.refl _ _) (Nat.le_refl _) (by simp) ?_; (case hd => rfl); (case hg => rfl); (case hr => first | (go_simp; done) | (go_simp; rfl)); (case hp => exact (Reps.none _ _)); intro v8 w8 ho hb hg_ hnew_; clear hg_ hnew_; obtain ⟨A8, c8, e8⟩ := R_slice ho; subst e8; have n0_ := Aside0.mk (HB.1.trans (hb.mono HB.1.size)); have n1_ := Aside0.mk (blk_below BK1.1 hb); have n2_ := Aside0.mk (R_below OS.1 hb); have n3_ := Aside0.mk (blk_below BKs.1 hb); have OO := Aside0.mk (R_lower ho HB.1.size); clear HB BK1 OS BKs ho hb; have HB := n0_; have BK1 := n1_; have OS := n2_; have BKs := n3_; clear n0_ n1_ n2_ n3_)
  | ((with_reducible refine gate_dst (N := 4) rfl ?_); refine boxE (cs := #[.slice none 0 0]) (t := 22) ?_; intro po hg w9 hbox hb; have n0_ := Aside0.mk (HB.1.trans (hb.mono HB.1.size)); have n1_ := Aside0.mk (blk_below BK1.1 hb); have n2_ := Aside0.mk (R_below OS.1 hb); have n3_ := Aside0.mk (blk_below BKs.1 hb); have n4_ := Aside0.mk (R_below OO.1 hb); have BKo := Aside0.mk hbox; have GEo := Aside0.mk (hg ▸ HB.1.size : w.heap.size <= po); clear HB BK1 OS BKs OO; have HB := n0_; have BK1 := n1_; have OS := n2_; have BKs := n3_; have OO := n4_; clear n0_ n1_ n2_ n3_ n4_ hg hb; have hco := (blk_cell hbox 0).trans rfl; have hfo := blk_frozen hbox 0; clear hbox)
  | ((with_reducible refine gate_store (t := 22) (p := 4) rfl ?_); refine storeE (t := 22) (p := 4) (w1 := w9.setCell ⟨po, 0, none⟩ (.slice A8 ([] : List Int).length c8)) ?_; intro w10 hw; have n0_ := Aside0.mk (HB.1.setCell (p := ⟨po, 0, none⟩) GEo.1 (.slice A8 ([] : List Int).length c8)); have n1_ := Aside0.mk (blk_far BK1.1 (ne_type BK1.1 BKo.1 (by decide)) (p := ⟨po, 0, none⟩) (.slice A8 ([] : List Int).length c8)); have n2_ := Aside0.mk (R_set OS.1 BKo.1 (by decide) 0 (.slice A8 ([] : List Int).length c8)); have n3_ := Aside0.mk (blk_far BKs.1 (ne_type BKs.1 BKo.1 (by decide)) (p := ⟨po, 0, none⟩) (.slice A8 ([] : List Int).length c8)); have n4_ := Aside0.mk (R_set OO.1 BKo.1 (by decide) 0 (.slice A8 ([] : List Int).length c8)); have n5_ := Aside0.mk (blk_put BKo.1 0 (.slice A8 ([] : List Int).length c8) rfl); rw [<- hw] at n0_ n1_ n2_ n3_ n4_ n5_; clear HB BK1 OS BKs OO BKo hco hfo hw; have HB := n0_; have BK1 := n1_; have OS := n2_; have BKs := n3_; have OO := n4_; have BKo := n5_; clear n0_ n1_ n2_ n3_ n4_ n5_)
  | ((with_reducible refine gate_dst (N := 5) rfl ?_); refine boxE (cs := #[.nilFunc]) (t := 118) ?_; intro pv hg w11 hbox hb; have n0_ := Aside0.mk (HB.1.trans (hb.mono HB.1.size)); have n1_ := Aside0.mk (blk_below BK1.1 hb); have n2_ := Aside0.mk (R_below OS.1 hb); have n3_ := Aside0.mk (blk_below BKs.1 hb); have n4_ := Aside0.mk (R_below OO.1 hb); have n5_ := Aside0.mk (blk_below BKo.1 hb); have BKv := Aside0.mk hbox; have GEv := Aside0.mk (hg ▸ HB.1.size : w.heap.size <= pv); clear HB BK1 OS BKs OO BKo; have HB := n0_; have BK1 := n1_; have OS := n2_; have BKs := n3_; have OO := n4_; have BKo := n5_; clear n0_ n1_ n2_ n3_ n4_ n5_ hg hb; have hcv : w11.cell? ⟨pv, 0, none⟩ = some .nilFunc := (blk_cell hbox 0).trans rfl; have hfv := blk_frozen hbox 0; clear hbox)
  | ((with_reducible refine gate_store (t := 118) (p := 5) rfl ?_); refine storeE (t := 118) (p := 5) (w1 := w11.setCell ⟨pv, 0, none⟩ (.func (.func 77) #[] #[.pointer (some ⟨ps, 0, none⟩), .pointer (some ⟨pd, 0, none⟩), .pointer (some ⟨pv, 0, none⟩), .pointer (some ⟨po, 0, none⟩)])) ?_; intro w12 hw; have n0_ := Aside0.mk (HB.1.setCell (p := ⟨pv, 0, none⟩) GEv.1 (.func (.func 77) #[] #[.pointer (some ⟨ps, 0, none⟩), .pointer (some ⟨pd, 0, none⟩), .pointer (some ⟨pv, 0, none⟩), .pointer (some ⟨po, 0, none⟩)])); have n1_ := Aside0.mk (blk_far BK1.1 (ne_type BK1.1 BKv.1 (by decide)) (p := ⟨pv, 0, none⟩) (.func (.func 77) #[] #[.pointer (some ⟨ps, 0, none⟩), .pointer (some ⟨pd, 0, none⟩), .pointer (some ⟨pv, 0, none⟩), .pointer (some ⟨po, 0, none⟩)])); have n2_ := Aside0.mk (R_set OS.1 BKv.1 (by decide) 0 (.func (.func 77) #[] #[.pointer (some ⟨ps, 0, none⟩), .pointer (some ⟨pd, 0, none⟩), .pointer (some ⟨pv, 0, none⟩), .pointer (some ⟨po, 0, none⟩)])); have n3_ := Aside0.mk (blk_far BKs.1 (ne_type BKs.1 BKv.1 (by decide)) (p := ⟨pv, 0, none⟩) (.func (.func 77) #[] #[.pointer (some ⟨ps, 0, none⟩), .pointer (some ⟨pd, 0, none⟩), .pointer (some ⟨pv, 0, none⟩), .pointer (some ⟨po, 0, none⟩)])); have n4_ := Aside0.mk (R_set OO.1 BKv.1 (by decide) 0 (.func (.func 77) #[] #[.pointer (some ⟨ps, 0, none⟩), .pointer (some ⟨pd, 0, none⟩), .pointer (some ⟨pv, 0, none⟩), .pointer (some ⟨po, 0, none⟩)])); have n5_ := Aside0.mk (blk_far BKo.1 (ne_type BKo.1 BKv.1 (by decide)) (p := ⟨pv, 0, none⟩) (.func (.func 77) #[] #[.pointer (some ⟨ps, 0, none⟩), .pointer (some ⟨pd, 0, none⟩), .pointer (some ⟨pv, 0, none⟩), .pointer (some ⟨po, 0, none⟩)])); have n6_ := Aside0.mk (blk_put BKv.1 0 (.func (.func 77) #[] #[.pointer (some ⟨ps, 0, none⟩), .pointer (some ⟨pd, 0, none⟩), .pointer (some ⟨pv, 0, none⟩), .pointer (some ⟨po, 0, none⟩)]) rfl); rw [<- hw] at n0_ n1_ n2_ n3_ n4_ n5_ n6_; clear HB BK1 OS BKs OO BKo BKv hcv hfv hw; have HB := n0_; have HX := Aside0.mk ((⟨n1_.1, n6_.1⟩ : VFix pd pv ps po (.int .i64 xn) (.slice A ns.length c) (.int .i64 root) w12)); have HT : Aside0 (VSt w.heap.size ps po gs cs (List.replicate ns.length false) [] w12) := ⟨⟨by rw [List.length_replicate]; exact n3_.1, by rw [List.length_replicate]; exact n2_.1, _, n5_.1, n4_.1⟩⟩; clear n0_ n1_ n2_ n3_ n4_ n5_ n6_; obtain ⟨hcz1_0, hcz1_1, hcz1_2, hfz1_0, hfz1_1, hfz1_2⟩ := cz3 HX.1.1; have hcv : w12.cell? ⟨pv, 0, none⟩ = some (.func (.func 77) #[] #[.pointer (some ⟨ps, 0, none⟩), .pointer (some ⟨pd, 0, none⟩), .pointer (some ⟨pv, 0, none⟩), .pointer (some ⟨po, 0, none⟩)]) := (blk_cell HX.1.2 0).trans rfl)
  | (go_at_call 77; refine (HVv.1 ps pd pv po gs cs GEs.1 GEo.1 GS.1 _ HB.1 HX.1 HT.1).mono ?_; rintro e w13 ⟨rfl, q1, q2, q3⟩; clear HB HX HT hcz1_0 hcz1_1 hcz1_2 hfz1_0 hfz1_1 hfz1_2 hcv q2; obtain ⟨_, _, v, o3, o4⟩ := q1; obtain ⟨Ao, co, eo⟩ := R_slice o4; subst eo; have O4 := Aside0.mk o4; have HB := Aside0.mk q3; have hpo' : w13.cell? ⟨po, 0, none⟩ = some (.slice Ao out.length co) := (blk_cell o3 0).trans rfl; clear o3 o4 q3))
 go_ret
 exact ⟨_, rfl, O4.1, HB.1⟩
theorem impl_visitOrder.calls (a0_0 : Int) (A0_1 : Option Addr) (c0_1 : Nat) (l0_1 : List (S86)) (a0_2 : Int) (r : List Int) (w : World) (hr0_1 : Kd.C k86 w A0_1 l0_1.length l0_1) (hc0_1 : l0_1.length <= c0_1) (h : impl_visitOrder.f a0_0 l0_1 a0_2 = some r) :
 Calls Tryd.prog 69 #[.agg #[.int .i64 a0_0, .slice A0_1 l0_1.length c0_1, .int .i64 a0_2]] w fun e w' => ∃ v0_ : Value, e = .returned (v0_) /\ Kd.R (Kd.int .i64) 3 w' w.heap.size (fun _ => True) v0_ r /\ Below w.heap.size w w' := by
 unfold impl_visitOrder.f at h
 obtain ⟨⟨h0, h1, h2, h3⟩, h⟩ := ifP h
 cases h
 exact order_calls a0_0 a0_2 A0_1 c0_1 l0_1 w hr0_1 h0 h1 h2 h3

/-! ### impl_IsDiagram: function 50 -/
open Kd
mutual
def impl_IsDiagram.j0 : Nat -> Bool -> Int -> List (S86) -> Int -> Option (Bool)
 | 0, _, _, _, _ => none
 | k + 1, x36, x181000, x181001, x181002 => if x36 = true then (some false) else (impl_IsDiagram.l0 k x181001 (x181001.length : Int) 0 x181000 x181001 x181002)
def impl_IsDiagram.l0 : Nat -> List (S86) -> Int -> Int -> Int -> List (S86) -> Int -> Option (Bool)
 | 0, _, _, _, _, _, _ => none
 | k + 1, x38, x39, x40, x181000, x181001, x181002 => if x40 < x39 then (if 0 <= x40 then (if x40 < (x38.length : Int) then (if ((rd_T86 x38 x40).f0) < 0 then (impl_IsDiagram.j2 k x40 x38 x39 x40 true x181000 x181001 x181002 ((rd_T86 x38 x40).f0) ((rd_T86 x38 x40).f1) ((rd_T86 x38 x40).f2)) else (if ((rd_T86 x38 x40).f0) ≥ x181000 then (impl_IsDiagram.j2 k x40 x38 x39 x40 true x181000 x181001 x181002 ((rd_T86 x38 x40).f0) ((rd_T86 x38 x40).f1) ((rd_T86 x38 x40).f2)) else (if ((rd_T86 x38 x40).f1) = ((rd_T86 x38 x40).f2) then (impl_IsDiagram.j2 k x40 x38 x39 x40 true x181000 x181001 x181002 ((rd_T86 x38 x40).f0) ((rd_T86 x38 x40).f1) ((rd_T86 x38 x40).f2)) else ((impl_goodReference.f x181000 x181001 x181002 x40 ((rd_T86 x38 x40).f1)).bind fun t183 => (if t183 = true then ((impl_goodReference.f x181000 x181001 x181002 x40 ((rd_T86 x38 x40).f2)).bind fun t184 => (impl_IsDiagram.j2 k x40 x38 x39 x40 (!t184) x181000 x181001 x181002 ((rd_T86 x38 x40).f0) ((rd_T86 x38 x40).f1) ((rd_T86 x38 x40).f2))) else (impl_IsDiagram.j2 k x40 x38 x39 x40 true x181000 x181001 x181002 ((rd_T86 x38 x40).f0) ((rd_T86 x38 x40).f1) ((rd_T86 x38 x40).f2))))))) else (none)) else (none)) else ((impl_visitOrder.f x181000 x181001 x181002).bind fun t186 => (if (t186.length : Int) = (x181001.length : Int) then (impl_IsDiagram.l2 k t186 (t186.length : Int) 0) else (some false)))
def impl_IsDiagram.j2 : Nat -> Int -> List (S86) -> Int -> Int -> Bool -> Int -> List (S86) -> Int -> Int -> Int -> Int -> Option (Bool)
 | 0, _, _, _, _, _, _, _, _, _, _, _ => none
 | k + 1, x3, x38, x39, x40, x77, x181000, x181001, x181002, x183000, x183001, x183002 => if x77 = true then (some false) else (impl_IsDiagram.l1 k x3 0 x38 x39 x40 x181000 x181001 x181002 x183000 x183001 x183002)
def impl_IsDiagram.l1 : Nat -> Int -> Int -> List (S86) -> Int -> Int -> Int -> List (S86) -> Int -> Int -> Int -> Int -> Option (Bool)
 | 0, _, _, _, _, _, _, _, _, _, _, _ => none
 | k + 1, x3, x5, x38, x39, x40, x181000, x181001, x181002, x183000, x183001, x183002 => if x5 < x3 then (if 0 <= x5 then (if x5 < (x181001.length : Int) then (if (((rd_T86 x181001 x5).f0) == x183000 && (((rd_T86 x181001 x5).f1) == x183001 && (((rd_T86 x181001 x5).f2) == x183002))) = true then (some false) else (impl_IsDiagram.l1 k x3 (wrap64 (x5 + 1)) x38 x39 x40 x181000 x181001 x181002 x183000 x183001 x183002)) else (none)) else (none)) else (impl_IsDiagram.l0 k x38 x39 (wrap64 (x40 + 1)) x181000 x181001 x181002)
def impl_IsDiagram.l2 : Nat -> List Int -> Int -> Int -> Option (Bool)
 | 0, _, _, _ => none
 | k + 1, x99, x100, x101 => if x101 < x100 then (if 0 <= x101 then (if x101 < (x99.length : Int) then (if x101 = (rd x99 x101) then (impl_IsDiagram.l2 k x99 x100 (wrap64 (x101 + 1))) else (some false)) else (none)) else (none)) else (some true)
end
def impl_IsDiagram.f (k : Nat) (a0_0 : Int) (l0_1 : List (S86)) (a0_2 : Int) : Option (Bool) := if a0_0 < 0 then (impl_IsDiagram.j0 k true a0_0 l0_1 a0_2) else (if a0_0 > 4 then (impl_IsDiagram.j0 k true a0_0 l0_1 a0_2) else (if (l0_1.length : Int) > 40 then (impl_IsDiagram.j0 k true a0_0 l0_1 a0_2) else (if a0_2 < 0 then (impl_IsDiagram.j0 k true a0_0 l0_1 a0_2) else (impl_IsDiagram.j0 k (decide (a0_2 > (wrap64 (1 + (l0_1.length : Int))))) a0_0 l0_1 a0_2))))
theorem impl_IsDiagram.mono_l : ∀ k, (∀ y0 y1 y2 y3, LeO (impl_IsDiagram.j0 k y0 y1 y2 y3) (impl_IsDiagram.j0 (k + 1) y0 y1 y2 y3)) /\ (∀ y0 y1 y2 y3 y4 y5, LeO (impl_IsDiagram.l0 k y0 y1 y2 y3 y4 y5) (impl_IsDiagram.l0 (k + 1) y0 y1 y2 y3 y4 y5)) /\ (∀ y0 y1 y2 y3 y4 y5 y6 y7 y8 y9 y10, LeO (impl_IsDiagram.j2 k y0 y1 y2 y3 y4 y5 y6 y7 y8 y9 y10) (impl_IsDiagram.j2 (k + 1) y0 y1 y2 y3 y4 y5 y6 y7 y8 y9 y10)) /\ (∀ y0 y1 y2 y3 y4 y5 y6 y7 y8 y9 y10, LeO (impl_IsDiagram.l1 k y0 y1 y2 y3 y4 y5 y6 y7 y8 y9 y10) (impl_IsDiagram.l1 (k + 1) y0 y1 y2 y3 y4 y5 y6 y7 y8 y9 y10)) /\ (∀ y0 y1 y2, LeO (impl_IsDiagram.l2 k y0 y1 y2) (impl_IsDiagram.l2 (k + 1) y0 y1 y2))
 | 0 => by refine ⟨?_, ?_, ?_, ?_, ?_⟩ <;> (intros; intro r h; first | (simp [impl_IsDiagram.j0] at h; done) | (simp [impl_IsDiagram.l0] at h; done) | (simp [impl_IsDiagram.j2] at h; done) | (simp [impl_IsDiagram.l1] at h; done) | (simp [impl_IsDiagram.l2] at h; done))
 | k + 1 => by
  obtain ⟨ih0, ih1, ih2, ih3, ih4⟩ := impl_IsDiagram.mono_l k
  refine ⟨?_, ?_, ?_, ?_, ?_⟩ <;> (
   intros
   first | unfold impl_IsDiagram.j0 | unfold impl_IsDiagram.l0 | unfold impl_IsDiagram.j2 | unfold impl_IsDiagram.l1 | unfold impl_IsDiagram.l2
   exact LM5 ih0 ih1 ih2 ih3 ih4)
theorem impl_IsDiagram.mono : ∀ a0 a1 a2 k, LeO (impl_IsDiagram.f k a0 a1 a2) (impl_IsDiagram.f (k + 1) a0 a1 a2) := by
 intro a0 a1 a2 k
 obtain ⟨ih0, ih1, ih2, ih3, ih4⟩ := impl_IsDiagram.mono_l k
 unfold impl_IsDiagram.f
 exact LM5 ih0 ih1 ih2 ih3 ih4
theorem impl_IsDiagram.calls (k : Nat) (a0_0 : Int) (A0_1 : Option Addr) (c0_1 : Nat) (l0_1 : List (S86)) (a0_2 : Int) (r : Bool) (w : World) (hr0_1 : Kd.C k86 w A0_1 l0_1.length l0_1) (hc0_1 : l0_1.length <= c0_1) (h : impl_IsDiagram.f k a0_0 l0_1 a0_2 = some r) :
 Calls Tryd.prog 50 #[.agg #[.int .i64 a0_0, .slice A0_1 l0_1.length c0_1, .int .i64 a0_2]] w fun e w' => e = .returned (.bool r) /\ Below w.heap.size w w' := by
 have hu50 := Tryd.underlying50
 have hu86 := Tryd.underlying86
 have HR0_1 := Aside0.mk hr0_1
 have HC0_1 := Aside0.mk hc0_1
 clear hr0_1 hc0_1
 have HB := Aside0.mk (Below.refl w.heap.size w)
 have H := h
 clear h
 unfold impl_IsDiagram.f at H
 have HC2 := Aside0.mk H
 clear H
 go_enter Tryd.func50, Tryd.ntmps50
 go_upto_region 1 with (first | ((with_reducible refine gate_dst (N := 1) rfl ?_); (try (refine gate_guard (by rfl) ?_; dsimp only)); refine boxE (cs := #[.int .i64 a0_0, .slice A0_1 l0_1.length c0_1, .int .i64 a0_2]) (t := 50) ?_; intro gb180 hg w3 hbox hb; refine E4b HB.1 hg hbox hb ?_; clear HB; intro HB BK180 GW180 GE180; clear hb hbox hg))
 repeat (go_quiet (first | ((with_reducible refine gate_dst (N := 1) rfl ?_); (try (refine gate_guard (by rfl) ?_; dsimp only)); refine boxE (cs := #[.int .i64 a0_0, .slice A0_1 l0_1.length c0_1, .int .i64 a0_2]) (t := 50) ?_; intro gb180 hg w3 hbox hb; refine E4b HB.1 hg hbox hb ?_; clear HB; intro HB BK180 GW180 GE180; clear hb hbox hg)); go_upto_region 1 with (first | ((with_reducible refine gate_dst (N := 1) rfl ?_); (try (refine gate_guard (by rfl) ?_; dsimp only)); refine boxE (cs := #[.int .i64 a0_0, .slice A0_1 l0_1.length c0_1, .int .i64 a0_2]) (t := 50) ?_; intro gb180 hg w3 hbox hb; refine E4b HB.1 hg hbox hb ?_; clear HB; intro HB BK180 GW180 GE180; clear hb hbox hg)))
 (try simp only [Act.put, List.setIfInBounds_toArray, List.set_cons_zero, List.set_cons_succ])
 go_cut [36] (fun v36 wc => ∃ (kq : Nat) (x36_1 : Bool), v36 = .bool x36_1 /\ Aside0 (impl_IsDiagram.j0 kq x36_1 a0_0 l0_1 a0_2 = some r) /\ Aside0 (kq <= k) /\ Aside0 (wc.heap[gb180]? = some (.cells #[.int .i64 a0_0, (.slice A0_1 l0_1.length c0_1), .int .i64 a0_2] 50 (0, 0))) /\ Aside0 (Below w.heap.size w wc))
 case first =>
  have H := HC2.1
  clear HC2
  replace H := ifB H; rcases H with ⟨c4b0, H⟩ | ⟨c4b0, H⟩
  · (first | rw [c4b0] | (simp only [i64_w, i32_w]; rw [c4b0]) | skip)
    have H' := Aside0.mk H
    clear H
    obtain ⟨hcz5_0, hcz5_1, hcz5_2, hfz5_0, hfz5_1, hfz5_2⟩ := cz3 BK180.1
    go_wp2
    repeat (go_quiet (fail); try go_wp2)
    go_meet
    case rel => exact ⟨_, (true), RG, H', ⟨by first | omega | exact Nat.le_refl _⟩, ⟨PB BK180.1⟩, ⟨BL HB.1⟩⟩
  (first | rw [c4b0] | (simp only [i64_w, i32_w]; rw [c4b0]) | skip)
  replace H := ifQ H; rcases H with ⟨c6, H⟩ | ⟨c6, H⟩
  · have c6b0 : decide (4 < a0_0) = true := decide_eq_true c6
    clear c6
    have H' := Aside0.mk H
    clear H
    obtain ⟨hcz7_0, hcz7_1, hcz7_2, hfz7_0, hfz7_1, hfz7_2⟩ := cz3 BK180.1
    go_wp2
    repeat (go_quiet (fail); try go_wp2)
    go_meet
    case rel => exact ⟨_, (true), RG, H', ⟨by first | omega | exact Nat.le_refl _⟩, ⟨PB BK180.1⟩, ⟨BL HB.1⟩⟩
  have c6b0 : decide (4 < a0_0) = false := decide_eq_false c6
  clear c6
  replace H := ifQ H; rcases H with ⟨c8, H⟩ | ⟨c8, H⟩
  · have c8b0 : decide (40 < (l0_1.length : Int)) = true := decide_eq_true c8
    have c8b1 : decide (40 < l0_1.length) = true := decide_eq_true (by omega)
    clear c8
    have H' := Aside0.mk H
    clear H
    obtain ⟨hcz9_0, hcz9_1, hcz9_2, hfz9_0, hfz9_1, hfz9_2⟩ := cz3 BK180.1
    go_wp2
    repeat (go_quiet (fail); try go_wp2)
    go_meet
    case rel => exact ⟨_, (true), RG, H', ⟨by first | omega | exact Nat.le_refl _⟩, ⟨PB BK180.1⟩, ⟨BL HB.1⟩⟩
  have c8b0 : decide (40 < (l0_1.length : Int)) = false := decide_eq_false c8
  have c8b1 : decide (40 < l0_1.length) = false := decide_eq_false (by omega)
  clear c8
  replace H := ifB H; rcases H with ⟨c10b0, H⟩ | ⟨c10b0, H⟩
  · have H' := Aside0.mk H
    clear H
    obtain ⟨hcz11_0, hcz11_1, hcz11_2, hfz11_0, hfz11_1, hfz11_2⟩ := cz3 BK180.1
    go_wp2
    repeat (go_quiet (fail); try go_wp2)
    go_meet
    case rel => exact ⟨_, (true), RG, H', ⟨by first | omega | exact Nat.le_refl _⟩, ⟨PB BK180.1⟩, ⟨BL HB.1⟩⟩
  have H' := Aside0.mk H
  clear H
  obtain ⟨hcz12_0, hcz12_1, hcz12_2, hfz12_0, hfz12_1, hfz12_2⟩ := cz3 BK180.1
  go_wp2
  repeat (go_quiet (fail); try go_wp2)
  go_meet
  case rel => exact ⟨_, (decide (a0_2 > (wrap64 (1 + (l0_1.length : Int))))), RG, H', ⟨by first | omega | exact Nat.le_refl _⟩, ⟨PB BK180.1⟩, ⟨BL HB.1⟩⟩
 clear HC2
 obtain ⟨kq, x36_1, rfl, HA, HJ1, BK180, HB⟩ := hcut
 cases kq with
 | zero => exact absurd HA.1 (by simp [impl_IsDiagram.j0])
 | succ kj1 => ?_
 have H := HA.1
 clear HA
 simp only [impl_IsDiagram.j0] at H
 replace H := ifX H; rcases H with ⟨rfl, H⟩ | ⟨rfl, H⟩
 · obtain rfl := Option.some.inj H
   go_wp2
   repeat (go_quiet (fail); try go_wp2)
   go_ret
   exact ⟨RF, BL HB.1⟩
 have H' := Aside0.mk H
 clear H
 obtain ⟨hcz14_0, hcz14_1, hcz14_2, hfz14_0, hfz14_1, hfz14_2⟩ := cz3 BK180.1
 go_wp2
 repeat (go_quiet (fail); try go_wp2)
 go_loopg [40] kj1 (fun kq v40 w' => ∃ (x40_2 : Int), v40 = .int .i64 x40_2 /\ Aside0 (impl_IsDiagram.l0 kq l0_1 (l0_1.length : Int) x40_2 a0_0 l0_1 a0_2 = some r) /\ Aside0 (kq <= kj1) /\ Aside0 (w'.heap[gb180]? = some (.cells #[.int .i64 a0_0, (.slice A0_1 l0_1.length c0_1), .int .i64 a0_2] 50 (0, 0))) /\ Aside0 (Below w.heap.size w w'))
 case atStart => exact ⟨(0), RG, H', ⟨Nat.le_refl _⟩, ⟨PB BK180.1⟩, ⟨BL HB.1⟩⟩
 clear H'
 clear hcz14_0 hcz14_1 hcz14_2 hfz14_0 hfz14_1 hfz14_2
 obtain ⟨x40_2, rfl, HA, HK2, BK180, HB⟩ := hrel
 cases gk with
 | zero => exact absurd HA.1 (by simp [impl_IsDiagram.l0])
 | succ k2 => ?_
 have H := HA.1
 clear HA
 simp only [impl_IsDiagram.l0] at H
 replace H := ifB H; rcases H with ⟨c15b0, H⟩ | ⟨c15b0, H⟩
 · replace H := ifN H; obtain ⟨c16b0, H⟩ := H
   replace H := ifN H; obtain ⟨c17b0, H⟩ := H
   have HC18 := Aside0.mk H
   clear H
   have p181 : 0 <= (x40_2 : Int) := OD
   have q181 : x40_2 < (l0_1.length : Int) := OD
   obtain ⟨ad181, e181, hx181_0, hx181_1, hx181_2⟩ := at_T86 HR0_1.1 x40_2 p181 q181
   cases e181
   replace hx181_0 := (HB.1.cell (World.block_lt_of_cell? w _ hx181_0)).trans hx181_0
   replace hx181_1 := (HB.1.cell (World.block_lt_of_cell? w _ hx181_1)).trans hx181_1
   replace hx181_2 := (HB.1.cell (World.block_lt_of_cell? w _ hx181_2)).trans hx181_2
   replace p181 := eq_true p181
   replace q181 := eq_true q181
   go_upto_region 6 with (first | ((with_reducible refine gate_dst (N := 4) rfl ?_); (try (refine gate_guard (by rfl) ?_; dsimp only)); refine boxE (cs := #[.int .i64 0, .int .i64 0, .int .i64 0]) (t := 86) ?_; intro gb182 hg w19 hbox hb; refine E7 (bB BK180.1 hb) (bS HB.1 hb) (hbox) (gX HB.1 hg) (gX HB.1 hg) (nB BK180.1 hg) (nC BK180.1 hg) ?_; clear BK180 HB; intro BK180 HB BK182 GW182 GE182 NB180_182 NB182_180; clear hb hbox hg; have hnb20 := NB182_180.1; have hnc20 := NB180_182.1; obtain ⟨hcz21_0, hcz21_1, hcz21_2, hfz21_0, hfz21_1, hfz21_2⟩ := cz3 BK182.1))
   repeat (go_quiet (first | ((with_reducible refine gate_dst (N := 4) rfl ?_); (try (refine gate_guard (by rfl) ?_; dsimp only)); refine boxE (cs := #[.int .i64 0, .int .i64 0, .int .i64 0]) (t := 86) ?_; intro gb182 hg w19 hbox hb; refine E7 (bB BK180.1 hb) (bS HB.1 hb) (hbox) (gX HB.1 hg) (gX HB.1 hg) (nB BK180.1 hg) (nC BK180.1 hg) ?_; clear BK180 HB; intro BK180 HB BK182 GW182 GE182 NB180_182 NB182_180; clear hb hbox hg; have hnb20 := NB182_180.1; have hnc20 := NB180_182.1; obtain ⟨hcz21_0, hcz21_1, hcz21_2, hfz21_0, hfz21_1, hfz21_2⟩ := cz3 BK182.1)); go_upto_region 6 with (first | ((with_reducible refine gate_dst (N := 4) rfl ?_); (try (refine gate_guard (by rfl) ?_; dsimp only)); refine boxE (cs := #[.int .i64 0, .int .i64 0, .int .i64 0]) (t := 86) ?_; intro gb182 hg w19 hbox hb; refine E7 (bB BK180.1 hb) (bS HB.1 hb) (hbox) (gX HB.1 hg) (gX HB.1 hg) (nB BK180.1 hg) (nC BK180.1 hg) ?_; clear BK180 HB; intro BK180 HB BK182 GW182 GE182 NB180_182 NB182_180; clear hb hbox hg; have hnb20 := NB182_180.1; have hnc20 := NB180_182.1; obtain ⟨hcz21_0, hcz21_1, hcz21_2, hfz21_0, hfz21_1, hfz21_2⟩ := cz3 BK182.1)))
   (try simp only [Act.put, List.setIfInBounds_toArray, List.set_cons_zero, List.set_cons_succ])
   go_cut [77] (fun v77 wc => ∃ (kq : Nat) (x77_17 : Bool), v77 = .bool x77_17 /\ Aside0 (impl_IsDiagram.j2 kq x40_2 l0_1 (l0_1.length : Int) x40_2 x77_17 a0_0 l0_1 a0_2 ((rd_T86 l0_1 x40_2).f0) ((rd_T86 l0_1 x40_2).f1) ((rd_T86 l0_1 x40_2).f2) = some r) /\ Aside0 (kq <= k2) /\ Aside0 (wc.heap[gb180]? = some (.cells #[.int .i64 a0_0, (.slice (some ad181) l0_1.length c0_1), .int .i64 a0_2] 50 (0, 0))) /\ Aside0 (wc.heap[gb182]? = some (.cells #[.int .i64 ((rd_T86 l0_1 x40_2).f0), .int .i64 ((rd_T86 l0_1 x40_2).f1), .int .i64 ((rd_T86 l0_1 x40_2).f2)] 86 (0, 0))) /\ Aside0 (Below w.heap.size w wc))
   case first =>
    have H := HC18.1
    clear HC18
    replace H := ifB H; rcases H with ⟨c22b0, H⟩ | ⟨c22b0, H⟩
    · (first | rw [c22b0] | (simp only [i64_w, i32_w]; rw [c22b0]) | skip)
      have H' := Aside0.mk H
      clear H
      obtain ⟨hcz24_0, hcz24_1, hcz24_2, hfz24_0, hfz24_1, hfz24_2⟩ := cz3 BK182.1
      go_wp2
      repeat (go_quiet (fail); try go_wp2)
      go_meet
      case rel => exact ⟨_, (true), RG, H', ⟨by have := HJ1.1; have := HK2.1; first | omega | exact Nat.le_refl _⟩, ⟨by (with_reducible repeat (first | refine blk_drewN ?_ _ | refine blk_drew ?_ | refine blk_alloc ?_ _)); refine blk_far ?_ NB180_182.1 _; (with_reducible repeat (first | refine blk_drewN ?_ _ | refine blk_drew ?_ | refine blk_alloc ?_ _)); refine blk_far ?_ NB180_182.1 _; (with_reducible repeat (first | refine blk_drewN ?_ _ | refine blk_drew ?_ | refine blk_alloc ?_ _)); refine blk_far ?_ NB180_182.1 _; (with_reducible repeat (first | refine blk_drewN ?_ _ | refine blk_drew ?_ | refine blk_alloc ?_ _)); exact BK180.1⟩, ⟨by (with_reducible repeat (first | refine blk_drewN ?_ _ | refine blk_drew ?_ | refine blk_alloc ?_ _)); refine blk_put (cs := #[.int .i64 ((rd_T86 l0_1 x40_2).f0), .int .i64 ((rd_T86 l0_1 x40_2).f1), .int .i64 0]) ?_ 2 _ rfl; (with_reducible repeat (first | refine blk_drewN ?_ _ | refine blk_drew ?_ | refine blk_alloc ?_ _)); refine blk_put (cs := #[.int .i64 ((rd_T86 l0_1 x40_2).f0), .int .i64 0, .int .i64 0]) ?_ 1 _ rfl; (with_reducible repeat (first | refine blk_drewN ?_ _ | refine blk_drew ?_ | refine blk_alloc ?_ _)); refine blk_put (cs := #[.int .i64 0, .int .i64 0, .int .i64 0]) ?_ 0 _ rfl; (with_reducible repeat (first | refine blk_drewN ?_ _ | refine blk_drew ?_ | refine blk_alloc ?_ _)); exact BK182.1⟩, ⟨BL HB.1⟩⟩
    (first | rw [c22b0] | (simp only [i64_w, i32_w]; rw [c22b0]) | skip)
    replace H := ifQ H; rcases H with ⟨c25, H⟩ | ⟨c25, H⟩
    · have c25b0 : decide (a0_0 <= ((rd_T86 l0_1 x40_2).f0)) = true := decide_eq_true c25
      clear c25
      have H' := Aside0.mk H
      clear H
      obtain ⟨hcz27_0, hcz27_1, hcz27_2, hfz27_0, hfz27_1, hfz27_2⟩ := cz3 BK182.1
      obtain ⟨hcz28_0, hcz28_1, hcz28_2, hfz28_0, hfz28_1, hfz28_2⟩ := cz3 BK180.1
      go_wp2
      repeat (go_quiet (fail); try go_wp2)
      go_meet
      case rel => exact ⟨_, (true), RG, H', ⟨by have := HJ1.1; have := HK2.1; first | omega | exact Nat.le_refl _⟩, ⟨by (with_reducible repeat (first | refine blk_drewN ?_ _ | refine blk_drew ?_ | refine blk_alloc ?_ _)); refine blk_far ?_ NB180_182.1 _; (with_reducible repeat (first | refine blk_drewN ?_ _ | refine blk_drew ?_ | refine blk_alloc ?_ _)); refine blk_far ?_ NB180_182.1 _; (with_reducible repeat (first | refine blk_drewN ?_ _ | refine blk_drew ?_ | refine blk_alloc ?_ _)); refine blk_far ?_ NB180_182.1 _; (with_reducible repeat (first | refine blk_drewN ?_ _ | refine blk_drew ?_ | refine blk_alloc ?_ _)); exact BK180.1⟩, ⟨by (with_reducible repeat (first | refine blk_drewN ?_ _ | refine blk_drew ?_ | refine blk_alloc ?_ _)); refine blk_put (cs := #[.int .i64 ((rd_T86 l0_1 x40_2).f0), .int .i64 ((rd_T86 l0_1 x40_2).f1), .int .i64 0]) ?_ 2 _ rfl; (with_reducible repeat (first | refine blk_drewN ?_ _ | refine blk_drew ?_ | refine blk_alloc ?_ _)); refine blk_put (cs := #[.int .i64 ((rd_T86 l0_1 x40_2).f0), .int .i64 0, .int .i64 0]) ?_ 1 _ rfl; (with_reducible repeat (first | refine blk_drewN ?_ _ | refine blk_drew ?_ | refine blk_alloc ?_ _)); refine blk_put (cs := #[.int .i64 0, .int .i64 0, .int .i64 0]) ?_ 0 _ rfl; (with_reducible repeat (first | refine blk_drewN ?_ _ | refine blk_drew ?_ | refine blk_alloc ?_ _)); exact BK182.1⟩, ⟨BL HB.1⟩⟩
    have c25b0 : decide (a0_0 <= ((rd_T86 l0_1 x40_2).f0)) = false := decide_eq_false c25
    clear c25
    replace H := ifQ H; rcases H with ⟨c29, H⟩ | ⟨c29, H⟩
    · have c29b0 := beq_iff_eq.mpr c29
      have c29b1 := bne_eq_false_iff_eq.mpr c29
      clear c29
      have H' := Aside0.mk H
      clear H
      obtain ⟨hcz31_0, hcz31_1, hcz31_2, hfz31_0, hfz31_1, hfz31_2⟩ := cz3 BK182.1
      obtain ⟨hcz32_0, hcz32_1, hcz32_2, hfz32_0, hfz32_1, hfz32_2⟩ := cz3 BK180.1
      go_wp2
      repeat (go_quiet (fail); try go_wp2)
      go_meet
      case rel => exact ⟨_, (true), RG, H', ⟨by have := HJ1.1; have := HK2.1; first | omega | exact Nat.le_refl _⟩, ⟨by (with_reducible repeat (first | refine blk_drewN ?_ _ | refine blk_drew ?_ | refine blk_alloc ?_ _)); refine blk_far ?_ NB180_182.1 _; (with_reducible repeat (first | refine blk_drewN ?_ _ | refine blk_drew ?_ | refine blk_alloc ?_ _)); refine blk_far ?_ NB180_182.1 _; (with_reducible repeat (first | refine blk_drewN ?_ _ | refine blk_drew ?_ | refine blk_alloc ?_ _)); refine blk_far ?_ NB180_182.1 _; (with_reducible repeat (first | refine blk_drewN ?_ _ | refine blk_drew ?_ | refine blk_alloc ?_ _)); exact BK180.1⟩, ⟨by (with_reducible repeat (first | refine blk_drewN ?_ _ | refine blk_drew ?_ | refine blk_alloc ?_ _)); refine blk_put (cs := #[.int .i64 ((rd_T86 l0_1 x40_2).f0), .int .i64 ((rd_T86 l0_1 x40_2).f1), .int .i64 0]) ?_ 2 _ rfl; (with_reducible repeat (first | refine blk_drewN ?_ _ | refine blk_drew ?_ | refine blk_alloc ?_ _)); refine blk_put (cs := #[.int .i64 ((rd_T86 l0_1 x40_2).f0), .int .i64 0, .int .i64 0]) ?_ 1 _ rfl; (with_reducible repeat (first | refine blk_drewN ?_ _ | refine blk_drew ?_ | refine blk_alloc ?_ _)); refine blk_put (cs := #[.int .i64 0, .int .i64 0, .int .i64 0]) ?_ 0 _ rfl; (with_reducible repeat (first | refine blk_drewN ?_ _ | refine blk_drew ?_ | refine blk_alloc ?_ _)); exact BK182.1⟩, ⟨BL HB.1⟩⟩
    have c29b0 := beq_eq_false_iff_ne.mpr c29
    have c29b1 := bne_iff_ne.mpr c29
    replace H := bindA H; obtain ⟨t183, A33, H⟩ := H
    replace H := ifX H; rcases H with ⟨rfl, H⟩ | ⟨rfl, H⟩
    · replace H := bindA H; obtain ⟨t184, A35, H⟩ := H
      have H' := Aside0.mk H
      clear H
      obtain ⟨hcz37_0, hcz37_1, hcz37_2, hfz37_0, hfz37_1, hfz37_2⟩ := cz3 BK182.1
      obtain ⟨hcz38_0, hcz38_1, hcz38_2, hfz38_0, hfz38_1, hfz38_2⟩ := cz3 BK180.1
      go_wp2_with (first | (go_at_call 68; (with_reducible refine (impl_goodReference.calls a0_0 _ _ l0_1 a0_2 x40_2 ((rd_T86 l0_1 x40_2).f1) true _ ?side1 ?side2 A33.1).mono ?_); (case side1 => exact C_below HR0_1.1 (BL HB.1)); (case side2 => exact HC0_1.1); rintro e w39 ⟨rfl, hb⟩; refine E3 (blk_below (g := gb180) (o := .cells #[.int .i64 a0_0, .slice (some ad181) l0_1.length c0_1, .int .i64 a0_2] 50 (0, 0)) (PF1 NB180_182.1 BK180.1) hb) (blk_below (g := gb182) (o := .cells #[.int .i64 ((rd_T86 l0_1 x40_2).f0), .int .i64 ((rd_T86 l0_1 x40_2).f1), .int .i64 ((rd_T86 l0_1 x40_2).f2)] 86 (0, 0)) (PF0 BK182.1) hb) (bS HB.1 hb) ?_; clear BK180 BK182 HB; intro BK180 BK182 HB; (try clear hb); obtain ⟨hcz40_0, hcz40_1, hcz40_2, hfz40_0, hfz40_1, hfz40_2⟩ := cz3 BK180.1; obtain ⟨hcz41_0, hcz41_1, hcz41_2, hfz41_0, hfz41_1, hfz41_2⟩ := cz3 BK182.1) | (go_at_call 68; (with_reducible refine (impl_goodReference.calls a0_0 _ _ l0_1 a0_2 x40_2 ((rd_T86 l0_1 x40_2).f2) t184 _ ?side1 ?side2 A35.1).mono ?_); (case side1 => exact CB (C_below HR0_1.1 HB.1)); (case side2 => exact HC0_1.1); rintro e w42 ⟨rfl, hb⟩; refine E3 (bB BK180.1 hb) (bB BK182.1 hb) (bS HB.1 hb) ?_; clear BK180 BK182 HB; intro BK180 BK182 HB; (try clear hb)))
      repeat (go_quiet (first | (go_at_call 68; (with_reducible refine (impl_goodReference.calls a0_0 _ _ l0_1 a0_2 x40_2 ((rd_T86 l0_1 x40_2).f1) true _ ?side1 ?side2 A33.1).mono ?_); (case side1 => exact C_below HR0_1.1 (BL HB.1)); (case side2 => exact HC0_1.1); rintro e w39 ⟨rfl, hb⟩; refine E3 (blk_below (g := gb180) (o := .cells #[.int .i64 a0_0, .slice (some ad181) l0_1.length c0_1, .int .i64 a0_2] 50 (0, 0)) (PF1 NB180_182.1 BK180.1) hb) (blk_below (g := gb182) (o := .cells #[.int .i64 ((rd_T86 l0_1 x40_2).f0), .int .i64 ((rd_T86 l0_1 x40_2).f1), .int .i64 ((rd_T86 l0_1 x40_2).f2)] 86 (0, 0)) (PF0 BK182.1) hb) (bS HB.1 hb) ?_; clear BK180 BK182 HB; intro BK180 BK182 HB; (try clear hb); obtain ⟨hcz40_0, hcz40_1, hcz40_2, hfz40_0, hfz40_1, hfz40_2⟩ := cz3 BK180.1; obtain ⟨hcz41_0, hcz41_1, hcz41_2, hfz41_0, hfz41_1, hfz41_2⟩ := cz3 BK182.1) | (go_at_call 68; (with_reducible refine (impl_goodReference.calls a0_0 _ _ l0_1 a0_2 x40_2 ((rd_T86 l0_1 x40_2).f2) t184 _ ?side1 ?side2 A35.1).mono ?_); (case side1 => exact CB (C_below HR0_1.1 HB.1)); (case side2 => exact HC0_1.1); rintro e w42 ⟨rfl, hb⟩; refine E3 (bB BK180.1 hb) (bB BK182.1 hb) (bS HB.1 hb) ?_; clear BK180 BK182 HB; intro BK180 BK182 HB; (try clear hb))); try go_wp2_with (first | (go_at_call 68; (with_reducible refine (impl_goodReference.calls a0_0 _ _ l0_1 a0_2 x40_2 ((rd_T86 l0_1 x40_2).f1) true _ ?side1 ?side2 A33.1).mono ?_); (case side1 => exact C_below HR0_1.1 (BL HB.1)); (case side2 => exact HC0_1.1); rintro e w39 ⟨rfl, hb⟩; refine E3 (blk_below (g := gb180) (o := .cells #[.int .i64 a0_0, .slice (some ad181) l0_1.length c0_1, .int .i64 a0_2] 50 (0, 0)) (PF1 NB180_182.1 BK180.1) hb) (blk_below (g := gb182) (o := .cells #[.int .i64 ((rd_T86 l0_1 x40_2).f0), .int .i64 ((rd_T86 l0_1 x40_2).f1), .int .i64 ((rd_T86 l0_1 x40_2).f2)] 86 (0, 0)) (PF0 BK182.1) hb) (bS HB.1 hb) ?_; clear BK180 BK182 HB; intro BK180 BK182 HB; (try clear hb); obtain ⟨hcz40_0, hcz40_1, hcz40_2, hfz40_0, hfz40_1, hfz40_2⟩ := cz3 BK180.1; obtain ⟨hcz41_0, hcz41_1, hcz41_2, hfz41_0, hfz41_1, hfz41_2⟩ := cz3 BK182.1) | (go_at_call 68; (with_reducible refine (impl_goodReference.calls a0_0 _ _ l0_1 a0_2 x40_2 ((rd_T86 l0_1 x40_2).f2) t184 _ ?side1 ?side2 A35.1).mono ?_); (case side1 => exact CB (C_below HR0_1.1 HB.1)); (case side2 => exact HC0_1.1); rintro e w42 ⟨rfl, hb⟩; refine E3 (bB BK180.1 hb) (bB BK182.1 hb) (bS HB.1 hb) ?_; clear BK180 BK182 HB; intro BK180 BK182 HB; (try clear hb))))
      go_meet
      case rel => exact ⟨_, (!t184), RG, H', ⟨by have := HJ1.1; have := HK2.1; first | omega | exact Nat.le_refl _⟩, ⟨PB BK180.1⟩, ⟨PB BK182.1⟩, ⟨BL HB.1⟩⟩
    have H' := Aside0.mk H
    clear H
    obtain ⟨hcz44_0, hcz44_1, hcz44_2, hfz44_0, hfz44_1, hfz44_2⟩ := cz3 BK182.1
    obtain ⟨hcz45_0, hcz45_1, hcz45_2, hfz45_0, hfz45_1, hfz45_2⟩ := cz3 BK180.1
    go_wp2_with (first | (go_at_call 68; (with_reducible refine (impl_goodReference.calls a0_0 _ _ l0_1 a0_2 x40_2 ((rd_T86 l0_1 x40_2).f1) false _ ?side1 ?side2 A33.1).mono ?_); (case side1 => exact C_below HR0_1.1 (BL HB.1)); (case side2 => exact HC0_1.1); rintro e w46 ⟨rfl, hb⟩; refine E3 (blk_below (g := gb180) (o := .cells #[.int .i64 a0_0, .slice (some ad181) l0_1.length c0_1, .int .i64 a0_2] 50 (0, 0)) (PF1 NB180_182.1 BK180.1) hb) (blk_below (g := gb182) (o := .cells #[.int .i64 ((rd_T86 l0_1 x40_2).f0), .int .i64 ((rd_T86 l0_1 x40_2).f1), .int .i64 ((rd_T86 l0_1 x40_2).f2)] 86 (0, 0)) (PF0 BK182.1) hb) (bS HB.1 hb) ?_; clear BK180 BK182 HB; intro BK180 BK182 HB; (try clear hb)))
    repeat (go_quiet (first | (go_at_call 68; (with_reducible refine (impl_goodReference.calls a0_0 _ _ l0_1 a0_2 x40_2 ((rd_T86 l0_1 x40_2).f1) false _ ?side1 ?side2 A33.1).mono ?_); (case side1 => exact C_below HR0_1.1 (BL HB.1)); (case side2 => exact HC0_1.1); rintro e w46 ⟨rfl, hb⟩; refine E3 (blk_below (g := gb180) (o := .cells #[.int .i64 a0_0, .slice (some ad181) l0_1.length c0_1, .int .i64 a0_2] 50 (0, 0)) (PF1 NB180_182.1 BK180.1) hb) (blk_below (g := gb182) (o := .cells #[.int .i64 ((rd_T86 l0_1 x40_2).f0), .int .i64 ((rd_T86 l0_1 x40_2).f1), .int .i64 ((rd_T86 l0_1 x40_2).f2)] 86 (0, 0)) (PF0 BK182.1) hb) (bS HB.1 hb) ?_; clear BK180 BK182 HB; intro BK180 BK182 HB; (try clear hb))); try go_wp2_with (first | (go_at_call 68; (with_reducible refine (impl_goodReference.calls a0_0 _ _ l0_1 a0_2 x40_2 ((rd_T86 l0_1 x40_2).f1) false _ ?side1 ?side2 A33.1).mono ?_); (case side1 => exact C_below HR0_1.1 (BL HB.1)); (case side2 => exact HC0_1.1); rintro e w46 ⟨rfl, hb⟩; refine E3 (blk_below (g := gb180) (o := .cells #[.int .i64 a0_0, .slice (some ad181) l0_1.length c0_1, .int .i64 a0_2] 50 (0, 0)) (PF1 NB180_182.1 BK180.1) hb) (blk_below (g := gb182) (o := .cells #[.int .i64 ((rd_T86 l0_1 x40_2).f0), .int .i64 ((rd_T86 l0_1 x40_2).f1), .int .i64 ((rd_T86 l0_1 x40_2).f2)] 86 (0, 0)) (PF0 BK182.1) hb) (bS HB.1 hb) ?_; clear BK180 BK182 HB; intro BK180 BK182 HB; (try clear hb))))
    go_meet
    case rel => exact ⟨_, (true), RG, H', ⟨by have := HJ1.1; have := HK2.1; first | omega | exact Nat.le_refl _⟩, ⟨PB BK180.1⟩, ⟨PB BK182.1⟩, ⟨BL HB.1⟩⟩
   clear HC18
   try clear hx181_0; try clear hx181_1; try clear hx181_2; try clear p181; try clear q181; clear c15b0 c16b0 c17b0 hcz21_0 hcz21_1 hcz21_2 hfz21_0 hfz21_1 hfz21_2
   obtain ⟨kq, x77_17, rfl, HA, HJ17, BK180, BK182, HB⟩ := hcut
   cases kq with
   | zero => exact absurd HA.1 (by simp [impl_IsDiagram.j2])
   | succ kj17 => ?_
   have H := HA.1
   clear HA
   simp only [impl_IsDiagram.j2] at H
   replace H := ifX H; rcases H with ⟨rfl, H⟩ | ⟨rfl, H⟩
   · obtain rfl := Option.some.inj H
     go_wp2
     repeat (go_quiet (fail); try go_wp2)
     go_ret
     exact ⟨RF, BL HB.1⟩
   have H' := Aside0.mk H
   clear H
   go_wp2
   repeat (go_quiet (fail); try go_wp2)
   go_loopg [5] kj17 (fun kq v5 w' => ∃ (x5_4 : Int), v5 = .int .i64 x5_4 /\ Aside0 (impl_IsDiagram.l1 kq x40_2 x5_4 l0_1 (l0_1.length : Int) x40_2 a0_0 l0_1 a0_2 ((rd_T86 l0_1 x40_2).f0) ((rd_T86 l0_1 x40_2).f1) ((rd_T86 l0_1 x40_2).f2) = some r) /\ Aside0 (kq <= kj17) /\ Aside0 (w'.heap[gb180]? = some (.cells #[.int .i64 a0_0, (.slice (some ad181) l0_1.length c0_1), .int .i64 a0_2] 50 (0, 0))) /\ Aside0 (w'.heap[gb182]? = some (.cells #[.int .i64 ((rd_T86 l0_1 x40_2).f0), .int .i64 ((rd_T86 l0_1 x40_2).f1), .int .i64 ((rd_T86 l0_1 x40_2).f2)] 86 (0, 0))) /\ Aside0 (Below w.heap.size w w'))
   case atStart => exact ⟨(0), RG, H', ⟨Nat.le_refl _⟩, ⟨PB BK180.1⟩, ⟨PB BK182.1⟩, ⟨BL HB.1⟩⟩
   clear H'
   obtain ⟨x5_4, rfl, HA, HK4, BK180, BK182, HB⟩ := hrel
   cases gk with
   | zero => exact absurd HA.1 (by simp [impl_IsDiagram.l1])
   | succ k4 => ?_
   have H := HA.1
   clear HA
   simp only [impl_IsDiagram.l1] at H
   replace H := ifB H; rcases H with ⟨c48b0, H⟩ | ⟨c48b0, H⟩
   · replace H := ifN H; obtain ⟨c49b0, H⟩ := H
     replace H := ifN H; obtain ⟨c50b0, H⟩ := H
     replace H := ifQ H; rcases H with ⟨c51, H⟩ | ⟨c51, H⟩
     · have c51b0 : (((rd_T86 l0_1 x5_4).f0) == ((rd_T86 l0_1 x40_2).f0) && (((rd_T86 l0_1 x5_4).f1) == ((rd_T86 l0_1 x40_2).f1) && (((rd_T86 l0_1 x5_4).f2) == ((rd_T86 l0_1 x40_2).f2)))) = true := c51
       (try (have c51b1 : decide (((rd_T86 l0_1 x5_4).f0) = ((rd_T86 l0_1 x40_2).f0) && (((rd_T86 l0_1 x5_4).f1) == ((rd_T86 l0_1 x40_2).f1) && (((rd_T86 l0_1 x5_4).f2) == ((rd_T86 l0_1 x40_2).f2)))) = true := by simpa using c51))
       (try (have c51b2 : (((rd_T86 l0_1 x5_4).f0) == ((rd_T86 l0_1 x40_2).f0) && (((rd_T86 l0_1 x5_4).f1) == ((rd_T86 l0_1 x40_2).f1) && (((rd_T86 l0_1 x5_4).f2) == ((rd_T86 l0_1 x40_2).f2)))) = true := by simpa using c51))
       clear c51
       obtain rfl := Option.some.inj H
       obtain ⟨hcz53_0, hcz53_1, hcz53_2, hfz53_0, hfz53_1, hfz53_2⟩ := cz3 BK180.1
       have p185 : 0 <= (x5_4 : Int) := OD
       have q185 : x5_4 < (l0_1.length : Int) := OD
       obtain ⟨ad185, e185, hx185_0, hx185_1, hx185_2⟩ := at_T86 HR0_1.1 x5_4 p185 q185
       obtain rfl : ad181 = ad185 := (by injection e185)
       replace hx185_0 := (HB.1.cell (World.block_lt_of_cell? w _ hx185_0)).trans hx185_0
       replace hx185_1 := (HB.1.cell (World.block_lt_of_cell? w _ hx185_1)).trans hx185_1
       replace hx185_2 := (HB.1.cell (World.block_lt_of_cell? w _ hx185_2)).trans hx185_2
       replace p185 := eq_true p185
       replace q185 := eq_true q185
       obtain ⟨hcz54_0, hcz54_1, hcz54_2, hfz54_0, hfz54_1, hfz54_2⟩ := cz3 BK182.1
       go_wp2
       repeat (go_quiet (fail); try go_wp2)
       go_ret
       exact ⟨RF, BL HB.1⟩
     have c51b0 : (((rd_T86 l0_1 x5_4).f0) == ((rd_T86 l0_1 x40_2).f0) && (((rd_T86 l0_1 x5_4).f1) == ((rd_T86 l0_1 x40_2).f1) && (((rd_T86 l0_1 x5_4).f2) == ((rd_T86 l0_1 x40_2).f2)))) = false := by simpa using c51
     (try (have c51b1 : decide (((rd_T86 l0_1 x5_4).f0) = ((rd_T86 l0_1 x40_2).f0) && (((rd_T86 l0_1 x5_4).f1) == ((rd_T86 l0_1 x40_2).f1) && (((rd_T86 l0_1 x5_4).f2) == ((rd_T86 l0_1 x40_2).f2)))) = false := by simpa using c51))
     (try (have c51b2 : (((rd_T86 l0_1 x5_4).f0) == ((rd_T86 l0_1 x40_2).f0) && (((rd_T86 l0_1 x5_4).f1) == ((rd_T86 l0_1 x40_2).f1) && (((rd_T86 l0_1 x5_4).f2) == ((rd_T86 l0_1 x40_2).f2)))) = false := by simpa using c51))
     (try (have c51b3 : ¬ (((rd_T86 l0_1 x5_4).f0) = ((rd_T86 l0_1 x40_2).f0) && (((rd_T86 l0_1 x5_4).f1) == ((rd_T86 l0_1 x40_2).f1) && (((rd_T86 l0_1 x5_4).f2) == ((rd_T86 l0_1 x40_2).f2)))) := by simpa using c51))
     clear c51
     have H' := Aside0.mk H
     clear H
     obtain ⟨hcz56_0, hcz56_1, hcz56_2, hfz56_0, hfz56_1, hfz56_2⟩ := cz3 BK180.1
     have p185 : 0 <= (x5_4 : Int) := OD
     have q185 : x5_4 < (l0_1.length : Int) := OD
     obtain ⟨ad185, e185, hx185_0, hx185_1, hx185_2⟩ := at_T86 HR0_1.1 x5_4 p185 q185
     obtain rfl : ad181 = ad185 := (by injection e185)
     replace hx185_0 := (HB.1.cell (World.block_lt_of_cell? w _ hx185_0)).trans hx185_0
     replace hx185_1 := (HB.1.cell (World.block_lt_of_cell? w _ hx185_1)).trans hx185_1
     replace hx185_2 := (HB.1.cell (World.block_lt_of_cell? w _ hx185_2)).trans hx185_2
     replace p185 := eq_true p185
     replace q185 := eq_true q185
     obtain ⟨hcz57_0, hcz57_1, hcz57_2, hfz57_0, hfz57_1, hfz57_2⟩ := cz3 BK182.1
     go_wp2
     repeat (go_quiet (fail); try go_wp2)
     go_roundg k4
     case measure => have := HJ1.1; have := HK2.1; have := HJ17.1; have := HK4.1; omega
     case rel => exact ⟨(wrap64 (x5_4 + 1)), RG, H', ⟨by have := HJ1.1; have := HK2.1; have := HJ17.1; have := HK4.1; omega⟩, ⟨PB BK180.1⟩, ⟨PB BK182.1⟩, ⟨BL HB.1⟩⟩
   have H' := Aside0.mk H
   clear H
   go_wp2
   repeat (go_quiet (fail); try go_wp2)
   go_roundg k4
   case measure => have := HJ1.1; have := HK2.1; have := HJ17.1; have := HK4.1; omega
   case rel => exact ⟨(wrap64 (x40_2 + 1)), RG, H', ⟨by have := HJ1.1; have := HK2.1; have := HJ17.1; have := HK4.1; omega⟩, ⟨PB BK180.1⟩, ⟨BL HB.1⟩⟩
 replace H := bindA H; obtain ⟨t186, A58, H⟩ := H
 replace H := ifQ H; rcases H with ⟨c59, H⟩ | ⟨c59, H⟩
 · have c59b0 := beq_iff_eq.mpr c59
   have c59b1 := bne_eq_false_iff_eq.mpr c59
   have c59b2 : (t186.length == l0_1.length) = true := by first | simpa using c59 | (simp at c59 ⊢; omega)
   clear c59
   have H' := Aside0.mk H
   clear H
   obtain ⟨hcz60_0, hcz60_1, hcz60_2, hfz60_0, hfz60_1, hfz60_2⟩ := cz3 BK180.1
   go_wp2_with (first | (go_at_call 69; (with_reducible refine (impl_visitOrder.calls a0_0 _ _ l0_1 a0_2 t186 _ ?side1 ?side2 A58.1).mono ?_); (case side1 => exact CB (C_below HR0_1.1 HB.1)); (case side2 => exact HC0_1.1); rintro e w61 ⟨v187, rfl, ho0, hb⟩; refine E3 (R_lower ho0 (bZ HB.1)) (bB BK180.1 hb) (bS HB.1 hb) ?_; clear BK180 HB; intro HO188 BK180 HB; (try clear hb); (try clear ho0); obtain ⟨Ao62, co62, eo62⟩ := R_slice HO188.1; subst eo62; obtain ⟨hcz63_0, hcz63_1, hcz63_2, hfz63_0, hfz63_1, hfz63_2⟩ := cz3 BK180.1))
   repeat (go_quiet (first | (go_at_call 69; (with_reducible refine (impl_visitOrder.calls a0_0 _ _ l0_1 a0_2 t186 _ ?side1 ?side2 A58.1).mono ?_); (case side1 => exact CB (C_below HR0_1.1 HB.1)); (case side2 => exact HC0_1.1); rintro e w61 ⟨v187, rfl, ho0, hb⟩; refine E3 (R_lower ho0 (bZ HB.1)) (bB BK180.1 hb) (bS HB.1 hb) ?_; clear BK180 HB; intro HO188 BK180 HB; (try clear hb); (try clear ho0); obtain ⟨Ao62, co62, eo62⟩ := R_slice HO188.1; subst eo62; obtain ⟨hcz63_0, hcz63_1, hcz63_2, hfz63_0, hfz63_1, hfz63_2⟩ := cz3 BK180.1)); try go_wp2_with (first | (go_at_call 69; (with_reducible refine (impl_visitOrder.calls a0_0 _ _ l0_1 a0_2 t186 _ ?side1 ?side2 A58.1).mono ?_); (case side1 => exact CB (C_below HR0_1.1 HB.1)); (case side2 => exact HC0_1.1); rintro e w61 ⟨v187, rfl, ho0, hb⟩; refine E3 (R_lower ho0 (bZ HB.1)) (bB BK180.1 hb) (bS HB.1 hb) ?_; clear BK180 HB; intro HO188 BK180 HB; (try clear hb); (try clear ho0); obtain ⟨Ao62, co62, eo62⟩ := R_slice HO188.1; subst eo62; obtain ⟨hcz63_0, hcz63_1, hcz63_2, hfz63_0, hfz63_1, hfz63_2⟩ := cz3 BK180.1)))
   go_loopg [101] k2 (fun kq v101 w' => ∃ (x101_3 : Int), v101 = .int .i64 x101_3 /\ Aside0 (impl_IsDiagram.l2 kq t186 (t186.length : Int) x101_3 = some r) /\ Aside0 (kq <= k2) /\ Aside0 (Kd.R (Kd.int .i64) 3 w' w.heap.size (fun _ => True) (.slice Ao62 t186.length co62) t186) /\ Aside0 (w'.heap[gb180]? = some (.cells #[.int .i64 a0_0, (.slice A0_1 l0_1.length c0_1), .int .i64 a0_2] 50 (0, 0))) /\ Aside0 (Below w.heap.size w w'))
   case atStart => exact ⟨(0), RG, H', ⟨Nat.le_refl _⟩, ⟨PR HO188.1⟩, ⟨PB BK180.1⟩, ⟨BL HB.1⟩⟩
   clear H'
   clear c59b0 c59b1 c59b2 hcz60_0 hcz60_1 hcz60_2 hcz63_0 hcz63_1 hcz63_2 hfz60_0 hfz60_1 hfz60_2 hfz63_0 hfz63_1 hfz63_2
   obtain ⟨x101_3, rfl, HA, HK3, HO_99, BK180, HB⟩ := hrel
   cases gk with
   | zero => exact absurd HA.1 (by simp [impl_IsDiagram.l2])
   | succ k3 => ?_
   have H := HA.1
   clear HA
   simp only [impl_IsDiagram.l2] at H
   replace H := ifB H; rcases H with ⟨c64b0, H⟩ | ⟨c64b0, H⟩
   · replace H := ifN H; obtain ⟨c65b0, H⟩ := H
     replace H := ifN H; obtain ⟨c66b0, H⟩ := H
     replace H := ifQ H; rcases H with ⟨c67, H⟩ | ⟨c67, H⟩
     · have c67b0 := beq_iff_eq.mpr c67
       have c67b1 := bne_eq_false_iff_eq.mpr c67
       clear c67
       have H' := Aside0.mk H
       clear H
       have p189 : 0 <= (x101_3 : Int) := OD
       have q189 : x101_3 < (t186.length : Int) := OD
       obtain ⟨ad189, e189, hx189_0⟩ := Kd.at_int (R_reads' HO_99.1).2.2 x101_3 p189 q189
       cases e189
       replace p189 := eq_true p189
       replace q189 := eq_true q189
       go_wp2
       repeat (go_quiet (fail); try go_wp2)
       go_roundg k3
       case measure => have := HJ1.1; have := HK2.1; have := HK3.1; omega
       case rel => exact ⟨(wrap64 (x101_3 + 1)), RG, H', ⟨by have := HJ1.1; have := HK2.1; have := HK3.1; omega⟩, ⟨PR HO_99.1⟩, ⟨PB BK180.1⟩, ⟨BL HB.1⟩⟩
     have c67b0 := beq_eq_false_iff_ne.mpr c67
     have c67b1 := bne_iff_ne.mpr c67
     obtain rfl := Option.some.inj H
     have p189 : 0 <= (x101_3 : Int) := OD
     have q189 : x101_3 < (t186.length : Int) := OD
     obtain ⟨ad189, e189, hx189_0⟩ := Kd.at_int (R_reads' HO_99.1).2.2 x101_3 p189 q189
     cases e189
     replace p189 := eq_true p189
     replace q189 := eq_true q189
     go_wp2
     repeat (go_quiet (fail); try go_wp2)
     go_ret
     exact ⟨RF, BL HB.1⟩
   obtain rfl := Option.some.inj H
   go_wp2
   repeat (go_quiet (fail); try go_wp2)
   go_ret
   exact ⟨RF, BL HB.1⟩
 have c59b0 := beq_eq_false_iff_ne.mpr c59
 have c59b1 := bne_iff_ne.mpr c59
 have c59b2 : (t186.length == l0_1.length) = false := by first | simpa using c59 | (simp at c59 ⊢; omega)
 obtain rfl := Option.some.inj H
 obtain ⟨hcz68_0, hcz68_1, hcz68_2, hfz68_0, hfz68_1, hfz68_2⟩ := cz3 BK180.1
 go_wp2_with (first | (go_at_call 69; (with_reducible refine (impl_visitOrder.calls a0_0 _ _ l0_1 a0_2 t186 _ ?side1 ?side2 A58.1).mono ?_); (case side1 => exact CB (C_below HR0_1.1 HB.1)); (case side2 => exact HC0_1.1); rintro e w69 ⟨v187, rfl, ho0, hb⟩; refine E3 (R_lower ho0 (bZ HB.1)) (bB BK180.1 hb) (bS HB.1 hb) ?_; clear BK180 HB; intro HO188 BK180 HB; (try clear hb); (try clear ho0); obtain ⟨Ao70, co70, eo70⟩ := R_slice HO188.1; subst eo70; obtain ⟨hcz71_0, hcz71_1, hcz71_2, hfz71_0, hfz71_1, hfz71_2⟩ := cz3 BK180.1))
 repeat (go_quiet (first | (go_at_call 69; (with_reducible refine (impl_visitOrder.calls a0_0 _ _ l0_1 a0_2 t186 _ ?side1 ?side2 A58.1).mono ?_); (case side1 => exact CB (C_below HR0_1.1 HB.1)); (case side2 => exact HC0_1.1); rintro e w69 ⟨v187, rfl, ho0, hb⟩; refine E3 (R_lower ho0 (bZ HB.1)) (bB BK180.1 hb) (bS HB.1 hb) ?_; clear BK180 HB; intro HO188 BK180 HB; (try clear hb); (try clear ho0); obtain ⟨Ao70, co70, eo70⟩ := R_slice HO188.1; subst eo70; obtain ⟨hcz71_0, hcz71_1, hcz71_2, hfz71_0, hfz71_1, hfz71_2⟩ := cz3 BK180.1)); try go_wp2_with (first | (go_at_call 69; (with_reducible refine (impl_visitOrder.calls a0_0 _ _ l0_1 a0_2 t186 _ ?side1 ?side2 A58.1).mono ?_); (case side1 => exact CB (C_below HR0_1.1 HB.1)); (case side2 => exact HC0_1.1); rintro e w69 ⟨v187, rfl, ho0, hb⟩; refine E3 (R_lower ho0 (bZ HB.1)) (bB BK180.1 hb) (bS HB.1 hb) ?_; clear BK180 HB; intro HO188 BK180 HB; (try clear hb); (try clear ho0); obtain ⟨Ao70, co70, eo70⟩ := R_slice HO188.1; subst eo70; obtain ⟨hcz71_0, hcz71_1, hcz71_2, hfz71_0, hfz71_1, hfz71_2⟩ := cz3 BK180.1)))
 go_ret
 exact ⟨RF, BL HB.1⟩
/-! ### strings_Join: function 70 -/
open Kd
def strings_Join.f (l0 : List ByteArray) (a1 : ByteArray) : Option (ByteArray) := if (Lib.join (l0.map (fun x => x.data.toList)) a1.data.toList).length <= 140737488355328 then (if l0.length <= 140737488355328 then (some (⟨(Lib.join (l0.map (fun x => x.data.toList)) a1.data.toList).toArray⟩)) else (none)) else (none)
theorem join_cells {w : World} {g o : Nat} {xs : List ByteArray} (h : Kd.C Kd.string w (some ⟨g, o, none⟩) xs.length xs) (j : Nat) (x : ByteArray) (hj : xs[j]? = some x) : w.cell? ⟨g, o + j, none⟩ = some (.string x) := by
 obtain ⟨hl, rfl⟩ := List.getElem?_eq_some_iff.1 hj
 obtain ⟨ad, e, hx⟩ := Kd.at_string h (j : Int) (by omega) (by omega)
 cases e
 have e : (⟨g, o, none⟩ : Addr).add ((j : Int)).toNat = ⟨g, o + j, none⟩ := by rw [Int.toNat_natCast]; by_cases h : j = 0 <;> simp [Addr.add, h]
 rw [e] at hx
 rw [hx]
 simp [rdOf, List.getElem?_eq_getElem hl]
theorem join_addr {w : World} {e base : Nat} {ok : Nat -> Prop} {A : Option Addr} {n c : Nat} {xs : List ByteArray} (h : Kd.R Kd.string e w base ok (.slice A n c) xs) : ∀ ad, A = some ad -> ∃ g o, ad = ⟨g, o, none⟩ /\ g < w.heap.size := by
 rintro ad rfl
 obtain ⟨inner, _, ho⟩ := R_own h
 rcases ho with ⟨he, _⟩ | ⟨g, cap, cur, he, _, hg, _⟩
 · injection he with he
   exact absurd he (by simp)
 · injection he with he
   injection he with he
   subst he
   exact ⟨g, 0, rfl, (Array.getElem?_eq_some_iff.1 hg).1⟩
theorem strings_Join.calls (A0 : Option Addr) (c0 : Nat) (l0 : List ByteArray) (a1 : ByteArray) (r : ByteArray) (w : World) (hr0 : Kd.C Kd.string w A0 l0.length l0) (hc0 : l0.length <= c0) (hA : ∀ ad, A0 = some ad -> ∃ g o, ad = ⟨g, o, none⟩ /\ g < w.heap.size) (h : strings_Join.f l0 a1 = some r) :
 Calls Tryd.prog 70 #[.slice A0 l0.length c0, .string a1] w fun e w' => e = .returned (.string r) /\ Below w.heap.size w w' := by
 unfold strings_Join.f at h
 by_cases h1 : (Lib.join (l0.map (fun x => x.data.toList)) a1.data.toList).length <= 140737488355328
 · by_cases h2 : l0.length <= 140737488355328
   · rw [if_pos h1, if_pos h2] at h
     injection h with h
     subst h
     by_cases h0 : l0.length = 0
     · have hn : l0 = [] := List.length_eq_zero_iff.1 h0
       subst hn
       exact (Tryd.strings_Join_none A0 c0 a1 w).mono fun e w' ⟨he, hw⟩ => ⟨he, hw ▸ Below.refl _ _⟩
     · obtain ⟨ad, rfl, _⟩ := hr0.2.2 (by omega)
       obtain ⟨g, o, rfl, hg⟩ := hA _ rfl
       exact Tryd.strings_Join g o c0 l0 a1 w (fun j x hj => join_cells hr0 j x hj) hg h2 hc0 h1
   · rw [if_pos h1, if_neg h2] at h
     exact absurd h (by simp)
 · rw [if_neg h1] at h
   exact absurd h (by simp)

/-! ### impl_numbersText: function 51 -/
open Kd
def impl_numbersText.l0 : Nat -> List ByteArray -> List Int -> Int -> Int -> Option (ByteArray)
 | 0, _, _, _, _ => none
 | k + 1, x3, x7, x8, x9 => if x9 < x8 then (if 0 <= x9 then (if x9 < (x7.length : Int) then ((strconv_Itoa_31.f (rd x7 x9)).bind fun t194 => (if x3.length < 8796093022208 then (impl_numbersText.l0 k (x3 ++ [t194]) x7 x8 (wrap64 (x9 + 1))) else (none))) else (none)) else (none)) else ((strings_Join.f x3 (⟨#[32]⟩ : ByteArray)).bind fun t198 => (some t198))
def impl_numbersText.f (k : Nat) (l0 : List Int) : Option (ByteArray) := impl_numbersText.l0 k (([] : List ByteArray)) l0 (l0.length : Int) 0
theorem impl_numbersText.mono_l : ∀ k, (∀ y0 y1 y2 y3, LeO (impl_numbersText.l0 k y0 y1 y2 y3) (impl_numbersText.l0 (k + 1) y0 y1 y2 y3))
 | 0 => fun _ _ _ _ r h => by simp [impl_numbersText.l0] at h
 | k + 1 => by
  have ih0 := impl_numbersText.mono_l k
  intros
  first | unfold impl_numbersText.l0
  exact LM1 ih0
theorem impl_numbersText.mono : ∀ a0 k, LeO (impl_numbersText.f k a0) (impl_numbersText.f (k + 1) a0) := by
 intro a0 k
 have ih0 := impl_numbersText.mono_l k
 unfold impl_numbersText.f
 exact LM1 ih0
theorem impl_numbersText.calls (k : Nat) (A0 : Option Addr) (c0 : Nat) (l0 : List Int) (r : ByteArray) (w : World) (hr0 : Kd.C (Kd.int .i64) w A0 l0.length l0) (hc0 : l0.length <= c0) (h : impl_numbersText.f k l0 = some r) :
 Calls Tryd.prog 51 #[.slice A0 l0.length c0] w fun e w' => e = .returned (.string r) /\ Below w.heap.size w w' := by
 have HR0 := Aside0.mk hr0
 have HC0 := Aside0.mk hc0
 clear hr0 hc0
 have HB := Aside0.mk (Below.refl w.heap.size w)
 have H := h
 clear h
 unfold impl_numbersText.f at H
 generalize hy190 : ((([] : List ByteArray)) : List ByteArray) = y190 at H
 have Ny190 := Aside0.mk hy190.symm; clear hy190
 have H' := Aside0.mk H
 clear H
 go_enter Tryd.func51, Tryd.ntmps51
 go_wp2_with (first | ((with_reducible refine gate_dst (N := 6) rfl ?_); refine R_lit Kd.string _ 9 ?hg (N := 6) ?hd (xs := ([] : List ByteArray)) (inner := []) (ok := fun _ => True) (okp := fun _ => True) ?hr ?hp (fun _ hk => hk) trivial (Below.refl _ _) (Nat.le_refl _) (by simp) ?_; (case hd => rfl); (case hg => rfl); (case hr => first | (go_simp; done) | (go_simp; rfl)); (case hp => exact (Reps.none _ _)); intro v191 w2 ho3 hb hg_ hnew_; clear hg_ hnew_; (first | rw [<- Ny190.1] at ho3 | (simp only [Int.reduceToNat] at ho3; rw [<- Ny190.1] at ho3)); refine E2 (R_lower ho3 (bZ HB.1)) (bS HB.1 hb) ?_; clear HB; intro HO192 HB; clear hb ho3))
 go_loopg [3, 9] k (fun kq v3 v9 w' => ∃ (x3_1 : List ByteArray) (x9_1 : Int), v9 = .int .i64 x9_1 /\ Aside0 (impl_numbersText.l0 kq x3_1 l0 (l0.length : Int) x9_1 = some r) /\ Aside0 (kq <= k) /\ Aside0 (Kd.R Kd.string 9 w' w.heap.size (fun _ => True) v3 x3_1) /\ Aside0 (Below w.heap.size w w'))
 case atStart => exact ⟨(y190), (0), RG, H', ⟨Nat.le_refl _⟩, ⟨PR HO192.1⟩, ⟨BL HB.1⟩⟩
 clear H'
 obtain ⟨x3_1, x9_1, rfl, HA, HK1, HO_3, HB⟩ := hrel
 cases gk with
 | zero => exact absurd HA.1 (by simp [impl_numbersText.l0])
 | succ k1 => ?_
 have H := HA.1
 clear HA
 simp only [impl_numbersText.l0] at H
 replace H := ifB H; rcases H with ⟨c4b0, H⟩ | ⟨c4b0, H⟩
 · replace H := ifN H; obtain ⟨c5b0, H⟩ := H
   replace H := ifN H; obtain ⟨c6b0, H⟩ := H
   replace H := bindA H; obtain ⟨t194, A7, H⟩ := H
   replace H := ifP H; obtain ⟨c8, H⟩ := H
   have LMc8 := Aside0.mk c8
   clear c8
   generalize hy195 : ((x3_1 ++ [t194]) : List ByteArray) = y195 at H
   have Ny195 := Aside0.mk hy195.symm; clear hy195
   have H' := Aside0.mk H
   clear H
   have p193 : 0 <= (x9_1 : Int) := OD
   have q193 : x9_1 < (l0.length : Int) := OD
   obtain ⟨ad193, e193, hx193_0⟩ := Kd.at_int HR0.1 x9_1 p193 q193
   cases e193
   replace hx193_0 := (HB.1.cell (World.block_lt_of_cell? w _ hx193_0)).trans hx193_0
   replace p193 := eq_true p193
   replace q193 := eq_true q193
   go_wp2_with (first | ((with_reducible refine gate_callee (f := 31) rfl ?_); refine goesM (N := (some 15)) #[.int .i64 (rd l0 x9_1)] Tryd.func31 ?_; (with_reducible refine (strconv_Itoa_31.calls (rd l0 x9_1) t194 _ A7.1).mono ?_); rintro e w' ⟨rfl, ⟨nd, rfl⟩⟩; refine ⟨_, rfl, ?_⟩) | ((with_reducible refine gate_builtin (b := .append) (xs := #[.tmp 13, .tmp 16]) rfl ?_); at_builtin; refine R_append Kd.string (w0 := w) w.heap.size rfl (.tmp 13) (.tmp 16) 74 9 (.string ⟨#[]⟩) 16 rfl Tryd.underlying74 info9 rfl (by decide) (by omega) u3 x3_1 t194 [.string t194] (fun _ => True) (fun _ => False) rfl rfl ?aP (fun _ hk => hk.elim) ?aF ?aO ?aB ?aS ?aL ?_; (case aP => exact rfl); (case aB => exact (BL HB.1)); (case aF => exact (fun _ _ => trivial)); (case aO => exact (PR HO_3.1)); (case aS => exact (bZ HB.1)); (case aL => have := LMc8.1; omega); intro v196 w9 ho hb hg hat; rw [<- Ny195.1] at ho; refine E2 (hb) (ho) ?_; clear HB HO_3; intro HB HO197; clear ho hb hg hat))
   go_roundg k1
   case measure => have := HK1.1; omega
   case rel => exact ⟨(y195), (wrap64 (x9_1 + 1)), RG, H', ⟨by have := HK1.1; omega⟩, ⟨PR HO197.1⟩, ⟨BL HB.1⟩⟩
 replace H := bindA H; obtain ⟨t198, A10, H⟩ := H
 obtain rfl := Option.some.inj H
 obtain ⟨Ao11, co11, eo11⟩ := R_slice HO_3.1
 subst eo11
 go_wp2_with (first | ((with_reducible refine gate_callee (f := 70) rfl ?_); refine goesM (N := (some 20)) #[.slice Ao11 x3_1.length co11, .string (⟨#[32]⟩ : ByteArray)] Tryd.func70 ?_; (with_reducible refine (strings_Join.calls _ _ x3_1 (⟨#[32]⟩ : ByteArray) t198 _ ?side1 ?side2 (join_addr HO_3.1) A10.1).mono ?_); (case side1 => exact CB (R_reads' HO_3.1).2.2); (case side2 => exact (R_reads' HO_3.1).2.1); rintro e w12 ⟨rfl, hb⟩; refine ⟨_, rfl, ?_⟩; refine E2 (rB HO_3.1 hb) (bS HB.1 hb) ?_; clear HO_3 HB; intro HO_3 HB; (try clear hb)))
 go_ret
 exact ⟨RF, BL HB.1⟩
/-! ### impl_DiagramText: function 24 -/
open Kd
def impl_DiagramText.l0 : Nat -> ByteArray -> List (S86) -> Int -> Int -> Int -> List (S86) -> Int -> Option (ByteArray × Bool)
 | 0, _, _, _, _, _, _, _ => none
 | k + 1, x4, x11, x12, x13, x200000, x200001, x200002 => if x13 < x12 then (if 0 <= x13 then (if x13 < (x11.length : Int) then ((impl_numbersText.f k (([(rd_T86 x11 x13).f0, (rd_T86 x11 x13).f1, (rd_T86 x11 x13).f2] : List Int))).bind fun t206 => (if t206.size + 1 <= 9223372036854775807 then (if x4.size + (t206 ++ (⟨#[10]⟩ : ByteArray)).size <= 9223372036854775807 then (impl_DiagramText.l0 k (x4 ++ (t206 ++ (⟨#[10]⟩ : ByteArray))) x11 x12 (wrap64 (x13 + 1)) x200000 x200001 x200002) else (none)) else (none))) else (none)) else (none)) else ((strconv_Itoa_31.f x200002).bind fun t207 => (if x4.size + t207.size <= 9223372036854775807 then (if (x4 ++ t207).size + 1 <= 9223372036854775807 then (some ((x4 ++ t207) ++ (⟨#[10]⟩ : ByteArray), true)) else (none)) else (none)))
def impl_DiagramText.f (k : Nat) (a0_0 : Int) (l0_1 : List (S86)) (a0_2 : Int) : Option (ByteArray × Bool) := (impl_IsDiagram.f k a0_0 l0_1 a0_2).bind fun t200 => (if t200 = true then (impl_DiagramText.l0 k (⟨#[]⟩ : ByteArray) l0_1 (l0_1.length : Int) 0 a0_0 l0_1 a0_2) else (some ((⟨#[]⟩ : ByteArray), false)))
theorem impl_DiagramText.mono_l : ∀ k, (∀ y0 y1 y2 y3 y4 y5 y6, LeO (impl_DiagramText.l0 k y0 y1 y2 y3 y4 y5 y6) (impl_DiagramText.l0 (k + 1) y0 y1 y2 y3 y4 y5 y6))
 | 0 => fun _ _ _ _ _ _ _ r h => by simp [impl_DiagramText.l0] at h
 | k + 1 => by
  have ih0 := impl_DiagramText.mono_l k
  intros
  first | unfold impl_DiagramText.l0
  exact LM3 ih0 impl_IsDiagram.mono impl_numbersText.mono
theorem impl_DiagramText.mono : ∀ a0 a1 a2 k, LeO (impl_DiagramText.f k a0 a1 a2) (impl_DiagramText.f (k + 1) a0 a1 a2) := by
 intro a0 a1 a2 k
 have ih0 := impl_DiagramText.mono_l k
 unfold impl_DiagramText.f
 exact LM3 ih0 impl_IsDiagram.mono impl_numbersText.mono
theorem impl_DiagramText.calls (k : Nat) (a0_0 : Int) (A0_1 : Option Addr) (c0_1 : Nat) (l0_1 : List (S86)) (a0_2 : Int) (r1 : ByteArray) (r2 : Bool) (w : World) (hr0_1 : Kd.C k86 w A0_1 l0_1.length l0_1) (hc0_1 : l0_1.length <= c0_1) (h : impl_DiagramText.f k a0_0 l0_1 a0_2 = some (r1, r2)) :
 Calls Tryd.prog 24 #[.agg #[.int .i64 a0_0, .slice A0_1 l0_1.length c0_1, .int .i64 a0_2]] w fun e w' => e = .returned (.tuple #[.string r1, .bool r2]) /\ Below w.heap.size w w' := by
 have hu50 := Tryd.underlying50
 have hu86 := Tryd.underlying86
 have HR0_1 := Aside0.mk hr0_1
 have HC0_1 := Aside0.mk hc0_1
 clear hr0_1 hc0_1
 have HB := Aside0.mk (Below.refl w.heap.size w)
 have H := h
 clear h
 unfold impl_DiagramText.f at H
 replace H := bindA H; obtain ⟨t200, A2, H⟩ := H
 replace H := ifX H; rcases H with ⟨rfl, H⟩ | ⟨rfl, H⟩
 · have H' := Aside0.mk H
   clear H
   go_enter Tryd.func24, Tryd.ntmps24
   go_wp2_with (first | ((with_reducible refine gate_dst (N := 1) rfl ?_); refine boxE (cs := #[.int .i64 a0_0, .slice A0_1 l0_1.length c0_1, .int .i64 a0_2]) (t := 50) ?_; intro gb199 hg w4 hbox hb; refine E4b HB.1 hg hbox hb ?_; clear HB; intro HB BK199 GW199 GE199; clear hb hbox hg; obtain ⟨hcz5_0, hcz5_1, hcz5_2, hfz5_0, hfz5_1, hfz5_2⟩ := cz3 BK199.1) | ((with_reducible refine gate_callee (f := 50) rfl ?_); refine goesM (N := (some 8)) #[.agg #[.int .i64 a0_0, .slice A0_1 l0_1.length c0_1, .int .i64 a0_2]] Tryd.func50 ?_; (with_reducible refine (impl_IsDiagram.calls k a0_0 _ _ l0_1 a0_2 true _ ?side1 ?side2 A2.1).mono ?_); (case side1 => exact CB (C_below HR0_1.1 HB.1)); (case side2 => exact HC0_1.1); rintro e w6 ⟨rfl, hb⟩; refine ⟨_, rfl, ?_⟩; refine E2 (bB BK199.1 hb) (bS HB.1 hb) ?_; clear BK199 HB; intro BK199 HB; (try clear hb); obtain ⟨hcz7_0, hcz7_1, hcz7_2, hfz7_0, hfz7_1, hfz7_2⟩ := cz3 BK199.1))
   go_loopg [4, 13] k (fun kq v4 v13 w' => ∃ (x4_1 : ByteArray) (x13_1 : Int), v4 = .string x4_1 /\ v13 = .int .i64 x13_1 /\ Aside0 (impl_DiagramText.l0 kq x4_1 l0_1 (l0_1.length : Int) x13_1 a0_0 l0_1 a0_2 = some (r1, r2)) /\ Aside0 (kq <= k) /\ Aside0 (w'.heap[gb199]? = some (.cells #[.int .i64 a0_0, (.slice A0_1 l0_1.length c0_1), .int .i64 a0_2] 50 (0, 0))) /\ Aside0 (Below w.heap.size w w'))
   case atStart => exact ⟨((⟨#[]⟩ : ByteArray)), (0), RG, RG, H', ⟨Nat.le_refl _⟩, ⟨PB BK199.1⟩, ⟨BL HB.1⟩⟩
   clear H'
   clear hcz5_0 hcz5_1 hcz5_2 hcz7_0 hcz7_1 hcz7_2 hfz5_0 hfz5_1 hfz5_2 hfz7_0 hfz7_1 hfz7_2
   obtain ⟨x4_1, x13_1, rfl, rfl, HA, HK1, BK199, HB⟩ := hrel
   cases gk with
   | zero => exact absurd HA.1 (by simp [impl_DiagramText.l0])
   | succ k1 => ?_
   have H := HA.1
   clear HA
   simp only [impl_DiagramText.l0] at H
   replace H := ifB H; rcases H with ⟨c8b0, H⟩ | ⟨c8b0, H⟩
   · replace H := ifN H; obtain ⟨c9b0, H⟩ := H
     replace H := ifN H; obtain ⟨c10b0, H⟩ := H
     generalize hy203 : ((([(rd_T86 l0_1 x13_1).f0, (rd_T86 l0_1 x13_1).f1, (rd_T86 l0_1 x13_1).f2] : List Int)) : List Int) = y203 at H
     have Ny203 := Aside0.mk hy203.symm; clear hy203
     replace H := bindA H; obtain ⟨t206, A11, H⟩ := H
     replace H := ifP H; obtain ⟨c12, H⟩ := H
     have c12b0 := eq_true c12
     have c12b1 := decide_eq_true c12
     try have c12b2 : (9223372036854775807 < t206.size + 1) = False := eq_false (Nat.not_lt.2 c12)
     replace H := ifP H; obtain ⟨c13, H⟩ := H
     have c13b0 := eq_true c13
     have c13b1 := decide_eq_true c13
     try have c13b2 : (9223372036854775807 < x4_1.size + (t206 ++ (⟨#[10]⟩ : ByteArray)).size) = False := eq_false (Nat.not_lt.2 c13)
     try have c13b3 : (9223372036854775807 < x4_1.size + (t206.size + 1)) = False := by have h_ := c13b2; simp only [ByteArray.size_append] at h_; exact h_
     have H' := Aside0.mk H
     clear H
     have p201 : 0 <= (x13_1 : Int) := OD
     have q201 : x13_1 < (l0_1.length : Int) := OD
     obtain ⟨ad201, e201, hx201_0, hx201_1, hx201_2⟩ := at_T86 HR0_1.1 x13_1 p201 q201
     cases e201
     replace hx201_0 := (HB.1.cell (World.block_lt_of_cell? w _ hx201_0)).trans hx201_0
     replace hx201_1 := (HB.1.cell (World.block_lt_of_cell? w _ hx201_1)).trans hx201_1
     replace hx201_2 := (HB.1.cell (World.block_lt_of_cell? w _ hx201_2)).trans hx201_2
     replace p201 := eq_true p201
     replace q201 := eq_true q201
     go_wp2_with (first | ((with_reducible refine gate_dst (N := 6) rfl ?_); refine boxE (cs := #[.int .i64 0, .int .i64 0, .int .i64 0]) (t := 86) ?_; intro gb202 hg w14 hbox hb; refine E7 (bB BK199.1 hb) (bS HB.1 hb) (hbox) (gX HB.1 hg) (gX HB.1 hg) (nB BK199.1 hg) (nC BK199.1 hg) ?_; clear BK199 HB; intro BK199 HB BK202 GW202 GE202 NB199_202 NB202_199; clear hb hbox hg; have hnb15 := NB202_199.1; have hnc15 := NB199_202.1; obtain ⟨hcz16_0, hcz16_1, hcz16_2, hfz16_0, hfz16_1, hfz16_2⟩ := cz3 BK202.1) | ((with_reducible refine gate_dst (N := 24) rfl ?_); refine R_lit (Kd.int .i64) _ 3 ?hg (N := 24) ?hd (xs := ([(rd_T86 l0_1 x13_1).f0, (rd_T86 l0_1 x13_1).f1, (rd_T86 l0_1 x13_1).f2] : List Int)) (inner := [.int .i64 ((rd_T86 l0_1 x13_1).f0), .int .i64 ((rd_T86 l0_1 x13_1).f1), .int .i64 ((rd_T86 l0_1 x13_1).f2)]) (ok := fun _ => True) (okp := fun _ => True) ?hr ?hp (fun _ hk => hk) trivial (Below.refl _ _) (Nat.le_refl _) (by simp) ?_; (case hd => rfl); (case hg => rfl); (case hr => first | (go_simp; done) | (go_simp; rfl)); (case hp => exact (Reps.one (show Kd.M (Kd.int .i64) _ _ _ ((rd_T86 l0_1 x13_1).f0) [.int .i64 ((rd_T86 l0_1 x13_1).f0)] from rfl) (Reps.one (show Kd.M (Kd.int .i64) _ _ _ ((rd_T86 l0_1 x13_1).f1) [.int .i64 ((rd_T86 l0_1 x13_1).f1)] from rfl) (Reps.one (show Kd.M (Kd.int .i64) _ _ _ ((rd_T86 l0_1 x13_1).f2) [.int .i64 ((rd_T86 l0_1 x13_1).f2)] from rfl) (Reps.none _ _))))); intro v204 w17 ho18 hb hg_ hnew_; clear hg_ hnew_; (first | rw [<- Ny203.1] at ho18 | (simp only [Int.reduceToNat] at ho18; rw [<- Ny203.1] at ho18)); refine E4 (R_lower ho18 (bZ HB.1)) (blk_below (g := gb199) (o := .cells #[.int .i64 a0_0, .slice (some ad201) l0_1.length c0_1, .int .i64 a0_2] 50 (0, 0)) (PF1 NB199_202.1 BK199.1) hb) (blk_below (g := gb202) (o := .cells #[.int .i64 ((rd_T86 l0_1 x13_1).f0), .int .i64 ((rd_T86 l0_1 x13_1).f1), .int .i64 ((rd_T86 l0_1 x13_1).f2)] 86 (0, 0)) (PF0 BK202.1) hb) (bS HB.1 hb) ?_; clear BK199 BK202 HB; intro HO205 BK199 BK202 HB; clear hb ho18; obtain ⟨Ao19, co19, eo19⟩ := R_slice HO205.1; subst eo19) | ((with_reducible refine gate_callee (f := 51) rfl ?_); refine goesM (N := (some 25)) #[.slice Ao19 y203.length co19] Tryd.func51 ?_; (with_reducible refine (impl_numbersText.calls k1 _ _ y203 t206 _ ?side1 ?side2 A11.1).mono ?_); (case side1 => exact CB (R_reads' HO205.1).2.2); (case side2 => exact (R_reads' HO205.1).2.1); rintro e w20 ⟨rfl, hb⟩; refine ⟨_, rfl, ?_⟩; refine E4 (rB HO205.1 hb) (bB BK199.1 hb) (bB BK202.1 hb) (bS HB.1 hb) ?_; clear HO205 BK199 BK202 HB; intro HO205 BK199 BK202 HB; (try clear hb)))
     go_roundg k1
     case measure => have := HK1.1; omega
     case rel => exact ⟨(x4_1 ++ (t206 ++ (⟨#[10]⟩ : ByteArray))), (wrap64 (x13_1 + 1)), RG, RG, H', ⟨by have := HK1.1; omega⟩, ⟨PB BK199.1⟩, ⟨BL HB.1⟩⟩
   replace H := bindA H; obtain ⟨t207, A21, H⟩ := H
   replace H := ifP H; obtain ⟨c22, H⟩ := H
   have c22b0 := eq_true c22
   have c22b1 := decide_eq_true c22
   try have c22b2 : (9223372036854775807 < x4_1.size + t207.size) = False := eq_false (Nat.not_lt.2 c22)
   replace H := ifP H; obtain ⟨c23, H⟩ := H
   have c23b0 := eq_true c23
   have c23b1 := decide_eq_true c23
   try have c23b2 : (9223372036854775807 < (x4_1 ++ t207).size + 1) = False := eq_false (Nat.not_lt.2 c23)
   try have c23b3 : (9223372036854775807 < x4_1.size + t207.size + 1) = False := by have h_ := c23b2; simp only [ByteArray.size_append] at h_; exact h_
   simp only [Option.some.injEq, Prod.mk.injEq] at H
   obtain ⟨rfl, rfl⟩ := H
   obtain ⟨hcz24_0, hcz24_1, hcz24_2, hfz24_0, hfz24_1, hfz24_2⟩ := cz3 BK199.1
   go_wp2_with (first | ((with_reducible refine gate_callee (f := 31) rfl ?_); refine goesM (N := (some 32)) #[.int .i64 a0_2] Tryd.func31 ?_; (with_reducible refine (strconv_Itoa_31.calls a0_2 t207 _ A21.1).mono ?_); rintro e w' ⟨rfl, ⟨nd, rfl⟩⟩; refine ⟨_, rfl, ?_⟩))
   go_ret2
   exact ⟨RF, BL HB.1⟩
 simp only [Option.some.injEq, Prod.mk.injEq] at H
 obtain ⟨rfl, rfl⟩ := H
 go_enter Tryd.func24, Tryd.ntmps24
 go_wp2_with (first | ((with_reducible refine gate_dst (N := 1) rfl ?_); refine boxE (cs := #[.int .i64 a0_0, .slice A0_1 l0_1.length c0_1, .int .i64 a0_2]) (t := 50) ?_; intro gb199 hg w25 hbox hb; refine E4b HB.1 hg hbox hb ?_; clear HB; intro HB BK199 GW199 GE199; clear hb hbox hg; obtain ⟨hcz26_0, hcz26_1, hcz26_2, hfz26_0, hfz26_1, hfz26_2⟩ := cz3 BK199.1) | ((with_reducible refine gate_callee (f := 50) rfl ?_); refine goesM (N := (some 8)) #[.agg #[.int .i64 a0_0, .slice A0_1 l0_1.length c0_1, .int .i64 a0_2]] Tryd.func50 ?_; (with_reducible refine (impl_IsDiagram.calls k a0_0 _ _ l0_1 a0_2 false _ ?side1 ?side2 A2.1).mono ?_); (case side1 => exact CB (C_below HR0_1.1 HB.1)); (case side2 => exact HC0_1.1); rintro e w27 ⟨rfl, hb⟩; refine ⟨_, rfl, ?_⟩; refine E2 (bB BK199.1 hb) (bS HB.1 hb) ?_; clear BK199 HB; intro BK199 HB; (try clear hb)))
 go_ret2
 exact ⟨RF, BL HB.1⟩

/-! ### laws_eqNode: function 71 -/
open Kd
def laws_eqNode.f (a0_0 : Int) (a0_1 : Int) (a0_2 : Int) (a1_0 : Int) (a1_1 : Int) (a1_2 : Int) : Option (Bool) := if a0_0 = a1_0 then (if a0_1 = a1_1 then (if a0_2 = a1_2 then (some true) else (some false)) else (some false)) else (some false)
theorem laws_eqNode.calls (a0_0 : Int) (a0_1 : Int) (a0_2 : Int) (a1_0 : Int) (a1_1 : Int) (a1_2 : Int) (r : Bool) (w : World) (h : laws_eqNode.f a0_0 a0_1 a0_2 a1_0 a1_1 a1_2 = some r) :
 Calls Tryd.prog 71 #[.agg #[.int .i64 a0_0, .int .i64 a0_1, .int .i64 a0_2], .agg #[.int .i64 a1_0, .int .i64 a1_1, .int .i64 a1_2]] w fun e w' => e = .returned (.bool r) /\ Below w.heap.size w w' := by
 have hu86 := Tryd.underlying86
 have HB := Aside0.mk (Below.refl w.heap.size w)
 have H := h
 clear h
 unfold laws_eqNode.f at H
 replace H := ifQ H; rcases H with ⟨c3, H⟩ | ⟨c3, H⟩
 · have c3b0 := beq_iff_eq.mpr c3
   have c3b1 := bne_eq_false_iff_eq.mpr c3
   clear c3
   replace H := ifQ H; rcases H with ⟨c4, H⟩ | ⟨c4, H⟩
   · have c4b0 := beq_iff_eq.mpr c4
     have c4b1 := bne_eq_false_iff_eq.mpr c4
     clear c4
     replace H := ifQ H; rcases H with ⟨c5, H⟩ | ⟨c5, H⟩
     · have c5b0 := beq_iff_eq.mpr c5
       have c5b1 := bne_eq_false_iff_eq.mpr c5
       clear c5
       obtain rfl := Option.some.inj H
       go_enter Tryd.func71, Tryd.ntmps71
       go_wp2_with (first | ((with_reducible refine gate_dst (N := 2) rfl ?_); refine boxE (cs := #[.int .i64 a0_0, .int .i64 a0_1, .int .i64 a0_2]) (t := 86) ?_; intro gb208 hg w6 hbox hb; refine E4b HB.1 hg hbox hb ?_; clear HB; intro HB BK208 GW208 GE208; clear hb hbox hg) | ((with_reducible refine gate_dst (N := 3) rfl ?_); refine boxE (cs := #[.int .i64 a1_0, .int .i64 a1_1, .int .i64 a1_2]) (t := 86) ?_; intro gb209 hg w7 hbox hb; refine E7 (bB BK208.1 hb) (bS HB.1 hb) (hbox) (gX HB.1 hg) (gX HB.1 hg) (nB BK208.1 hg) (nC BK208.1 hg) ?_; clear BK208 HB; intro BK208 HB BK209 GW209 GE209 NB208_209 NB209_208; clear hb hbox hg; have hnb8 := NB208_209.1; have hnc8 := NB209_208.1; obtain ⟨hcz9_0, hcz9_1, hcz9_2, hfz9_0, hfz9_1, hfz9_2⟩ := cz3 BK208.1; obtain ⟨hcz10_0, hcz10_1, hcz10_2, hfz10_0, hfz10_1, hfz10_2⟩ := cz3 BK209.1))
       go_ret
       exact ⟨RF, BL HB.1⟩
     have c5b0 := beq_eq_false_iff_ne.mpr c5
     have c5b1 := bne_iff_ne.mpr c5
     obtain rfl := Option.some.inj H
     go_enter Tryd.func71, Tryd.ntmps71
     go_wp2_with (first | ((with_reducible refine gate_dst (N := 2) rfl ?_); refine boxE (cs := #[.int .i64 a0_0, .int .i64 a0_1, .int .i64 a0_2]) (t := 86) ?_; intro gb208 hg w11 hbox hb; refine E4b HB.1 hg hbox hb ?_; clear HB; intro HB BK208 GW208 GE208; clear hb hbox hg) | ((with_reducible refine gate_dst (N := 3) rfl ?_); refine boxE (cs := #[.int .i64 a1_0, .int .i64 a1_1, .int .i64 a1_2]) (t := 86) ?_; intro gb209 hg w12 hbox hb; refine E7 (bB BK208.1 hb) (bS HB.1 hb) (hbox) (gX HB.1 hg) (gX HB.1 hg) (nB BK208.1 hg) (nC BK208.1 hg) ?_; clear BK208 HB; intro BK208 HB BK209 GW209 GE209 NB208_209 NB209_208; clear hb hbox hg; have hnb13 := NB208_209.1; have hnc13 := NB209_208.1; obtain ⟨hcz14_0, hcz14_1, hcz14_2, hfz14_0, hfz14_1, hfz14_2⟩ := cz3 BK208.1; obtain ⟨hcz15_0, hcz15_1, hcz15_2, hfz15_0, hfz15_1, hfz15_2⟩ := cz3 BK209.1))
     go_ret
     exact ⟨RF, BL HB.1⟩
   have c4b0 := beq_eq_false_iff_ne.mpr c4
   have c4b1 := bne_iff_ne.mpr c4
   obtain rfl := Option.some.inj H
   go_enter Tryd.func71, Tryd.ntmps71
   go_wp2_with (first | ((with_reducible refine gate_dst (N := 2) rfl ?_); refine boxE (cs := #[.int .i64 a0_0, .int .i64 a0_1, .int .i64 a0_2]) (t := 86) ?_; intro gb208 hg w16 hbox hb; refine E4b HB.1 hg hbox hb ?_; clear HB; intro HB BK208 GW208 GE208; clear hb hbox hg) | ((with_reducible refine gate_dst (N := 3) rfl ?_); refine boxE (cs := #[.int .i64 a1_0, .int .i64 a1_1, .int .i64 a1_2]) (t := 86) ?_; intro gb209 hg w17 hbox hb; refine E7 (bB BK208.1 hb) (bS HB.1 hb) (hbox) (gX HB.1 hg) (gX HB.1 hg) (nB BK208.1 hg) (nC BK208.1 hg) ?_; clear BK208 HB; intro BK208 HB BK209 GW209 GE209 NB208_209 NB209_208; clear hb hbox hg; have hnb18 := NB208_209.1; have hnc18 := NB209_208.1; obtain ⟨hcz19_0, hcz19_1, hcz19_2, hfz19_0, hfz19_1, hfz19_2⟩ := cz3 BK208.1; obtain ⟨hcz20_0, hcz20_1, hcz20_2, hfz20_0, hfz20_1, hfz20_2⟩ := cz3 BK209.1))
   go_ret
   exact ⟨RF, BL HB.1⟩
 have c3b0 := beq_eq_false_iff_ne.mpr c3
 have c3b1 := bne_iff_ne.mpr c3
 obtain rfl := Option.some.inj H
 go_enter Tryd.func71, Tryd.ntmps71
 go_wp2_with (first | ((with_reducible refine gate_dst (N := 2) rfl ?_); refine boxE (cs := #[.int .i64 a0_0, .int .i64 a0_1, .int .i64 a0_2]) (t := 86) ?_; intro gb208 hg w21 hbox hb; refine E4b HB.1 hg hbox hb ?_; clear HB; intro HB BK208 GW208 GE208; clear hb hbox hg) | ((with_reducible refine gate_dst (N := 3) rfl ?_); refine boxE (cs := #[.int .i64 a1_0, .int .i64 a1_1, .int .i64 a1_2]) (t := 86) ?_; intro gb209 hg w22 hbox hb; refine E7 (bB BK208.1 hb) (bS HB.1 hb) (hbox) (gX HB.1 hg) (gX HB.1 hg) (nB BK208.1 hg) (nC BK208.1 hg) ?_; clear BK208 HB; intro BK208 HB BK209 GW209 GE209 NB208_209 NB209_208; clear hb hbox hg; have hnb23 := NB208_209.1; have hnc23 := NB209_208.1; obtain ⟨hcz24_0, hcz24_1, hcz24_2, hfz24_0, hfz24_1, hfz24_2⟩ := cz3 BK208.1; obtain ⟨hcz25_0, hcz25_1, hcz25_2, hfz25_0, hfz25_1, hfz25_2⟩ := cz3 BK209.1))
 go_ret
 exact ⟨RF, BL HB.1⟩
/-! ### laws_eqNodeS: function 52 -/
open Kd
def laws_eqNodeS.l0 : Nat -> List (S86) -> List (S86) -> Int -> Option (Bool)
 | 0, _, _, _ => none
 | k + 1, x0, x1, x5 => if x5 < (x0.length : Int) then (if 0 <= x5 then (if x5 < (x1.length : Int) then ((laws_eqNode.f ((rd_T86 x0 x5).f0) ((rd_T86 x0 x5).f1) ((rd_T86 x0 x5).f2) ((rd_T86 x1 x5).f0) ((rd_T86 x1 x5).f1) ((rd_T86 x1 x5).f2)).bind fun t212 => (if t212 = true then (laws_eqNodeS.l0 k x0 x1 (wrap64 (x5 + 1))) else (some false))) else (none)) else (none)) else (some true)
def laws_eqNodeS.f (k : Nat) (l0 : List (S86)) (l1 : List (S86)) : Option (Bool) := if (l0.length : Int) = (l1.length : Int) then (laws_eqNodeS.l0 k l0 l1 0) else (some false)
theorem laws_eqNodeS.mono_l : ∀ k, (∀ y0 y1 y2, LeO (laws_eqNodeS.l0 k y0 y1 y2) (laws_eqNodeS.l0 (k + 1) y0 y1 y2))
 | 0 => fun _ _ _ r h => by simp [laws_eqNodeS.l0] at h
 | k + 1 => by
  have ih0 := laws_eqNodeS.mono_l k
  intros
  first | unfold laws_eqNodeS.l0
  exact LM1 ih0
theorem laws_eqNodeS.mono : ∀ a0 a1 k, LeO (laws_eqNodeS.f k a0 a1) (laws_eqNodeS.f (k + 1) a0 a1) := by
 intro a0 a1 k
 have ih0 := laws_eqNodeS.mono_l k
 unfold laws_eqNodeS.f
 exact LM1 ih0
def laws_eqNodeS.T6 : Bool × List (List Nat × List Nat) := (true, [([], []), ([], []), ([0, 1], [0, 1]), ([2], [2]), ([], []), ([], []), ([4, 5], [4, 5]), ([6], [6]), ([3, 7], [3, 7]), ([8], [8])])
def laws_eqNodeS.B6 : List Nat := [0, 0, 3, 7, 0, 0, 48, 112, 255, 511]
theorem laws_eqNodeS.tab6 : rtab .any (opsOf Tryd.f52 6) = laws_eqNodeS.T6 := by kernel_rfl
theorem laws_eqNodeS.bits6 : waitsOk laws_eqNodeS.T6.2 laws_eqNodeS.B6 = true := by kernel_rfl
theorem laws_eqNodeS.calls (k : Nat) (A0 : Option Addr) (c0 : Nat) (l0 : List (S86)) (A1 : Option Addr) (c1 : Nat) (l1 : List (S86)) (r : Bool) (w : World) (hr0 : Kd.C k86 w A0 l0.length l0) (hc0 : l0.length <= c0) (hr1 : Kd.C k86 w A1 l1.length l1) (hc1 : l1.length <= c1) (h : laws_eqNodeS.f k l0 l1 = some r) :
 Calls Tryd.prog 52 #[.slice A0 l0.length c0, .slice A1 l1.length c1] w fun e w' => e = .returned (.bool r) /\ Below w.heap.size w w' := by
 have hu86 := Tryd.underlying86
 have HR0 := Aside0.mk hr0
 have HC0 := Aside0.mk hc0
 clear hr0 hc0
 have HR1 := Aside0.mk hr1
 have HC1 := Aside0.mk hc1
 clear hr1 hc1
 have HB := Aside0.mk (Below.refl w.heap.size w)
 have H := h
 clear h
 unfold laws_eqNodeS.f at H
 replace H := ifQ H; rcases H with ⟨c3, H⟩ | ⟨c3, H⟩
 · have c3b0 := beq_iff_eq.mpr c3
   have c3b1 := bne_eq_false_iff_eq.mpr c3
   have c3b2 : (l0.length == l1.length) = true := by first | simpa using c3 | (simp at c3 ⊢; omega)
   clear c3
   have H' := Aside0.mk H
   clear H
   go_enter Tryd.func52, Tryd.ntmps52
   go_wp2
   go_loopg [5] k (fun kq v5 w' => ∃ (x5_1 : Int), v5 = .int .i64 x5_1 /\ Aside0 (laws_eqNodeS.l0 kq l0 l1 x5_1 = some r) /\ Aside0 (kq <= k) /\ Aside0 (Below w.heap.size w w'))
   case atStart => exact ⟨(0), RG, H', ⟨Nat.le_refl _⟩, ⟨BL HB.1⟩⟩
   clear H'
   try clear c1; clear c3b0 c3b1 c3b2
   obtain ⟨x5_1, rfl, HA, HK1, HB⟩ := hrel
   cases gk with
   | zero => exact absurd HA.1 (by simp [laws_eqNodeS.l0])
   | succ k1 => ?_
   have H := HA.1
   clear HA
   simp only [laws_eqNodeS.l0] at H
   replace H := ifB H; rcases H with ⟨c4b0, H⟩ | ⟨c4b0, H⟩
   · replace H := ifN H; obtain ⟨c5b0, H⟩ := H
     replace H := ifN H; obtain ⟨c6b0, H⟩ := H
     replace H := bindA H; obtain ⟨t212, A7, H⟩ := H
     replace H := ifX H; rcases H with ⟨rfl, H⟩ | ⟨rfl, H⟩
     · have H' := Aside0.mk H
       clear H
       try go_wp2
       refine E1 (below_drew1 HB.1) ?_
       clear HB
       intro HB
       have p210 : 0 <= (x5_1 : Int) := OD
       have q210 : x5_1 < (l0.length : Int) := OD
       obtain ⟨ad210, e210, hx210_0, hx210_1, hx210_2⟩ := at_T86 HR0.1 x5_1 p210 q210
       have hw210_2 := hx210_2
       have hw210_1 := hx210_1
       have hw210_0 := hx210_0
       cases e210
       replace hx210_0 := (HB.1.cell (World.block_lt_of_cell? w _ hx210_0)).trans hx210_0
       replace hx210_1 := (HB.1.cell (World.block_lt_of_cell? w _ hx210_1)).trans hx210_1
       replace hx210_2 := (HB.1.cell (World.block_lt_of_cell? w _ hx210_2)).trans hx210_2
       replace p210 := eq_true p210
       replace q210 := eq_true q210
       have p211 : 0 <= (x5_1 : Int) := OD
       have q211 : x5_1 < (l1.length : Int) := OD
       obtain ⟨ad211, e211, hx211_0, hx211_1, hx211_2⟩ := at_T86 HR1.1 x5_1 p211 q211
       have hw211_2 := hx211_2
       have hw211_1 := hx211_1
       have hw211_0 := hx211_0
       cases e211
       replace hx211_0 := (HB.1.cell (World.block_lt_of_cell? w _ hx211_0)).trans hx211_0
       replace hx211_1 := (HB.1.cell (World.block_lt_of_cell? w _ hx211_1)).trans hx211_1
       replace hx211_2 := (HB.1.cell (World.block_lt_of_cell? w _ hx211_2)).trans hx211_2
       replace p211 := eq_true p211
       replace q211 := eq_true q211
       refine start_ (n := 10) (S := fun w' => w'.cell? (ad210.add ((x5_1).toNat * 3)) = some (.int .i64 ((rd_T86 l0 x5_1).f0)) /\ w'.cell? ⟨(ad210.add ((x5_1).toNat * 3)).block, (ad210.add ((x5_1).toNat * 3)).off + 1, none⟩ = some (.int .i64 ((rd_T86 l0 x5_1).f1)) /\ w'.cell? ⟨(ad210.add ((x5_1).toNat * 3)).block, (ad210.add ((x5_1).toNat * 3)).off + 2, none⟩ = some (.int .i64 ((rd_T86 l0 x5_1).f2)) /\ w'.cell? (ad211.add ((x5_1).toNat * 3)) = some (.int .i64 ((rd_T86 l1 x5_1).f0)) /\ w'.cell? ⟨(ad211.add ((x5_1).toNat * 3)).block, (ad211.add ((x5_1).toNat * 3)).off + 1, none⟩ = some (.int .i64 ((rd_T86 l1 x5_1).f1)) /\ w'.cell? ⟨(ad211.add ((x5_1).toNat * 3)).block, (ad211.add ((x5_1).toNat * 3)).off + 2, none⟩ = some (.int .i64 ((rd_T86 l1 x5_1).f2))) (ds := []) #[Zz,Zz,Zz,Zz,Zz,Zz,Zz,Zz,Zz,Zz] (by kernel_rfl) rfl rfl ⟨((HB.1.cell (World.block_lt_of_cell? w _ hw210_0)).trans hw210_0), ((HB.1.cell (World.block_lt_of_cell? w _ hw210_1)).trans hw210_1), ((HB.1.cell (World.block_lt_of_cell? w _ hw210_2)).trans hw210_2), ((HB.1.cell (World.block_lt_of_cell? w _ hw211_0)).trans hw211_0), ((HB.1.cell (World.block_lt_of_cell? w _ hw211_1)).trans hw211_1), ((HB.1.cell (World.block_lt_of_cell? w _ hw211_2)).trans hw211_2)⟩ (fun hHeld => ?_); refine with_tabW laws_eqNodeS.tab6 laws_eqNodeS.bits6 (fun HT_ HW_ => ?_)
       generalize wr.drew = w9 at HB hx210_0 hx210_1 hx210_2 hx211_0 hx211_1 hx211_2 hHeld ⊢
       refine pureF 0 (N := some 17) HT_.1 ?_
       refine pureF 1 (N := some 18) HT_.1 ?_
       refine pureF 2 (N := some 19) HT_.1 ?_
       refine pureF 4 (N := some 21) HT_.1 ?_
       refine pureF 5 (N := some 22) HT_.1 ?_
       refine pureF 6 (N := some 23) HT_.1 ?_
       refine takeE 3 (N := some 20) HT_.1 HW_.1 hHeld ?_
       refine takeE 7 (N := some 24) HT_.1 HW_.1 hHeld ?_
       refine one_ (i := 8) (N := some 25) #[Yy,Yy,Yy,Yy,Yy,Yy,Yy,Yy,Yy,Zz] rfl rfl (one_of HT_.1 (by kernel_rfl)) (by decide) (fun K hK => ?_)
       refine goes_ Tryd.func71 (by kernel_rfl) rfl #[.agg #[.int .i64 ((rd_T86 l0 x5_1).f0), .int .i64 ((rd_T86 l0 x5_1).f1), .int .i64 ((rd_T86 l0 x5_1).f2)], .agg #[.int .i64 ((rd_T86 l1 x5_1).f0), .int .i64 ((rd_T86 l1 x5_1).f1), .int .i64 ((rd_T86 l1 x5_1).f2)]] (by rfl) rfl rfl (by (try simp only [List.map_toArray, List.map_cons, List.map_nil]); first | done | rfl | (simp only [List.length_drop, List.length_take]; rfl)) ?_
       with_reducible refine (laws_eqNode.calls ((rd_T86 l0 x5_1).f0) ((rd_T86 l0 x5_1).f1) ((rd_T86 l0 x5_1).f2) ((rd_T86 l1 x5_1).f0) ((rd_T86 l1 x5_1).f1) ((rd_T86 l1 x5_1).f2) true _ A7.1).mono ?_
       rintro e w10 ⟨rfl, hb⟩
       refine ⟨_, rfl, ?_⟩
       refine E1 (bS HB.1 hb) ?_
       clear HB
       intro HB
       (try clear hb)
       (try clear hb2)
       (try clear hk)
       (try clear hi)
       refine hK.out _ _ ⟨((HB.1.cell (World.block_lt_of_cell? w _ hw210_0)).trans hw210_0), ((HB.1.cell (World.block_lt_of_cell? w _ hw210_1)).trans hw210_1), ((HB.1.cell (World.block_lt_of_cell? w _ hw210_2)).trans hw210_2), ((HB.1.cell (World.block_lt_of_cell? w _ hw211_0)).trans hw211_0), ((HB.1.cell (World.block_lt_of_cell? w _ hw211_1)).trans hw211_1), ((HB.1.cell (World.block_lt_of_cell? w _ hw211_2)).trans hw211_2)⟩ (fun hHeld => ?_)
       clear hK K
       refine norm_ (a' := ?_) ?_ ?_
       rotate_left
       · show Act.put _ (some 25) _ = _
         simp only [Act.put, List.setIfInBounds_toArray, List.set_cons_zero, List.set_cons_succ, i64_w, i32_w]
         rfl
       refine pureF 9 (N := some 26) HT_.1 ?_
       refine done_ (done_of HT_.1 (by kernel_rfl)) ?_
       try go_wp2
       go_roundg k1
       case measure => have := HK1.1; omega
       case rel => exact ⟨(wrap64 (x5_1 + 1)), RG, H', ⟨by have := HK1.1; omega⟩, ⟨BL HB.1⟩⟩
     obtain rfl := Option.some.inj H
     try go_wp2
     refine E1 (below_drew1 HB.1) ?_
     clear HB
     intro HB
     have p210 : 0 <= (x5_1 : Int) := OD
     have q210 : x5_1 < (l0.length : Int) := OD
     obtain ⟨ad210, e210, hx210_0, hx210_1, hx210_2⟩ := at_T86 HR0.1 x5_1 p210 q210
     have hw210_2 := hx210_2
     have hw210_1 := hx210_1
     have hw210_0 := hx210_0
     cases e210
     replace hx210_0 := (HB.1.cell (World.block_lt_of_cell? w _ hx210_0)).trans hx210_0
     replace hx210_1 := (HB.1.cell (World.block_lt_of_cell? w _ hx210_1)).trans hx210_1
     replace hx210_2 := (HB.1.cell (World.block_lt_of_cell? w _ hx210_2)).trans hx210_2
     replace p210 := eq_true p210
     replace q210 := eq_true q210
     have p211 : 0 <= (x5_1 : Int) := OD
     have q211 : x5_1 < (l1.length : Int) := OD
     obtain ⟨ad211, e211, hx211_0, hx211_1, hx211_2⟩ := at_T86 HR1.1 x5_1 p211 q211
     have hw211_2 := hx211_2
     have hw211_1 := hx211_1
     have hw211_0 := hx211_0
     cases e211
     replace hx211_0 := (HB.1.cell (World.block_lt_of_cell? w _ hx211_0)).trans hx211_0
     replace hx211_1 := (HB.1.cell (World.block_lt_of_cell? w _ hx211_1)).trans hx211_1
     replace hx211_2 := (HB.1.cell (World.block_lt_of_cell? w _ hx211_2)).trans hx211_2
     replace p211 := eq_true p211
     replace q211 := eq_true q211
     refine start_ (n := 10) (S := fun w' => w'.cell? (ad210.add ((x5_1).toNat * 3)) = some (.int .i64 ((rd_T86 l0 x5_1).f0)) /\ w'.cell? ⟨(ad210.add ((x5_1).toNat * 3)).block, (ad210.add ((x5_1).toNat * 3)).off + 1, none⟩ = some (.int .i64 ((rd_T86 l0 x5_1).f1)) /\ w'.cell? ⟨(ad210.add ((x5_1).toNat * 3)).block, (ad210.add ((x5_1).toNat * 3)).off + 2, none⟩ = some (.int .i64 ((rd_T86 l0 x5_1).f2)) /\ w'.cell? (ad211.add ((x5_1).toNat * 3)) = some (.int .i64 ((rd_T86 l1 x5_1).f0)) /\ w'.cell? ⟨(ad211.add ((x5_1).toNat * 3)).block, (ad211.add ((x5_1).toNat * 3)).off + 1, none⟩ = some (.int .i64 ((rd_T86 l1 x5_1).f1)) /\ w'.cell? ⟨(ad211.add ((x5_1).toNat * 3)).block, (ad211.add ((x5_1).toNat * 3)).off + 2, none⟩ = some (.int .i64 ((rd_T86 l1 x5_1).f2))) (ds := []) #[Zz,Zz,Zz,Zz,Zz,Zz,Zz,Zz,Zz,Zz] (by kernel_rfl) rfl rfl ⟨((HB.1.cell (World.block_lt_of_cell? w _ hw210_0)).trans hw210_0), ((HB.1.cell (World.block_lt_of_cell? w _ hw210_1)).trans hw210_1), ((HB.1.cell (World.block_lt_of_cell? w _ hw210_2)).trans hw210_2), ((HB.1.cell (World.block_lt_of_cell? w _ hw211_0)).trans hw211_0), ((HB.1.cell (World.block_lt_of_cell? w _ hw211_1)).trans hw211_1), ((HB.1.cell (World.block_lt_of_cell? w _ hw211_2)).trans hw211_2)⟩ (fun hHeld => ?_); refine with_tabW laws_eqNodeS.tab6 laws_eqNodeS.bits6 (fun HT_ HW_ => ?_)
     generalize wr.drew = w11 at HB hx210_0 hx210_1 hx210_2 hx211_0 hx211_1 hx211_2 hHeld ⊢
     refine pureF 0 (N := some 17) HT_.1 ?_
     refine pureF 1 (N := some 18) HT_.1 ?_
     refine pureF 2 (N := some 19) HT_.1 ?_
     refine pureF 4 (N := some 21) HT_.1 ?_
     refine pureF 5 (N := some 22) HT_.1 ?_
     refine pureF 6 (N := some 23) HT_.1 ?_
     refine takeE 3 (N := some 20) HT_.1 HW_.1 hHeld ?_
     refine takeE 7 (N := some 24) HT_.1 HW_.1 hHeld ?_
     refine one_ (i := 8) (N := some 25) #[Yy,Yy,Yy,Yy,Yy,Yy,Yy,Yy,Yy,Zz] rfl rfl (one_of HT_.1 (by kernel_rfl)) (by decide) (fun K hK => ?_)
     refine goes_ Tryd.func71 (by kernel_rfl) rfl #[.agg #[.int .i64 ((rd_T86 l0 x5_1).f0), .int .i64 ((rd_T86 l0 x5_1).f1), .int .i64 ((rd_T86 l0 x5_1).f2)], .agg #[.int .i64 ((rd_T86 l1 x5_1).f0), .int .i64 ((rd_T86 l1 x5_1).f1), .int .i64 ((rd_T86 l1 x5_1).f2)]] (by rfl) rfl rfl (by (try simp only [List.map_toArray, List.map_cons, List.map_nil]); first | done | rfl | (simp only [List.length_drop, List.length_take]; rfl)) ?_
     with_reducible refine (laws_eqNode.calls ((rd_T86 l0 x5_1).f0) ((rd_T86 l0 x5_1).f1) ((rd_T86 l0 x5_1).f2) ((rd_T86 l1 x5_1).f0) ((rd_T86 l1 x5_1).f1) ((rd_T86 l1 x5_1).f2) false _ A7.1).mono ?_
     rintro e w12 ⟨rfl, hb⟩
     refine ⟨_, rfl, ?_⟩
     refine E1 (bS HB.1 hb) ?_
     clear HB
     intro HB
     (try clear hb)
     (try clear hb2)
     (try clear hk)
     (try clear hi)
     refine hK.out _ _ ⟨((HB.1.cell (World.block_lt_of_cell? w _ hw210_0)).trans hw210_0), ((HB.1.cell (World.block_lt_of_cell? w _ hw210_1)).trans hw210_1), ((HB.1.cell (World.block_lt_of_cell? w _ hw210_2)).trans hw210_2), ((HB.1.cell (World.block_lt_of_cell? w _ hw211_0)).trans hw211_0), ((HB.1.cell (World.block_lt_of_cell? w _ hw211_1)).trans hw211_1), ((HB.1.cell (World.block_lt_of_cell? w _ hw211_2)).trans hw211_2)⟩ (fun hHeld => ?_)
     clear hK K
     refine norm_ (a' := ?_) ?_ ?_
     rotate_left
     · show Act.put _ (some 25) _ = _
       simp only [Act.put, List.setIfInBounds_toArray, List.set_cons_zero, List.set_cons_succ, i64_w, i32_w]
       rfl
     refine pureF 9 (N := some 26) HT_.1 ?_
     refine done_ (done_of HT_.1 (by kernel_rfl)) ?_
     try go_wp2
     go_ret
     exact ⟨RF, BL HB.1⟩
   obtain rfl := Option.some.inj H
   go_wp2
   go_ret
   exact ⟨RF, BL HB.1⟩
 have c3b0 := beq_eq_false_iff_ne.mpr c3
 have c3b1 := bne_iff_ne.mpr c3
 have c3b2 : (l0.length == l1.length) = false := by first | simpa using c3 | (simp at c3 ⊢; omega)
 obtain rfl := Option.some.inj H
 go_enter Tryd.func52, Tryd.ntmps52
 go_wp2
 go_ret
 exact ⟨RF, BL HB.1⟩
end Go.Proofs.YtfekgidcnidijaaDoor.P
