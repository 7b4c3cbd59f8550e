import Derived.Test.YtlkmafoihjglcaaWWords
import Derived.Test.YtlkmafoihjglcaaWApart
import Derived.Maps.OwnSet
import Derived.Maps.Views
-- a map of whole numbers of the call's own, as a list of pairs (newest first)
namespace Go.Proofs.Ytlkmafoihjglcaa.P
open Go.RowKit Go.Proofs.YtlkmafoihjglcaaW.PrintWords

def mget (m : List (Int × Int)) (x : Int) : Int := (m.lookup x).getD 0
def mhas (m : List (Int × Int)) (x : Int) : Bool := (m.lookup x).isSome

/-- The object of a map that reads as m. -/
def MapO (P : Program) (t : TypeId) (o : Obj) (m : List (Int × Int)) : Prop :=
  (∃ es clock, o = .map es clock) ∧ ∀ (w : World) (b : Nat), w.heap[b]? = some o → ∃ D : DataW Unit, w.ownsMap P t (plainElem P t) b m.length D ∧
    ∀ x, D.atKey (.int .i64 x) (.lit (.int .i64 0)) = .lit (.int .i64 (mget m x)) ∧ Maps.has D (.int .i64 x) = mhas m x

theorem owns_any {P : Program} {k : TypeId} {R : Value → Option (DataW Unit × List MemPlace)} {w w1 : World} {b b1 n : Nat} {D : DataW Unit} (h : w.ownsMap P k R b n D) (he : w1.heap[b1]? = w.heap[b]?) : w1.ownsMap P k R b1 n D := by
  obtain ⟨es, clock, hb, r⟩ := h
  exact ⟨es, clock, he.trans hb, r⟩

theorem mapO_of {P : Program} {t : TypeId} {w : World} {b : Nat} {m : List (Int × Int)} {D : DataW Unit} (h : w.ownsMap P t (plainElem P t) b m.length D)
    (hD : ∀ x, D.atKey (.int .i64 x) (.lit (.int .i64 0)) = .lit (.int .i64 (mget m x)) ∧ Maps.has D (.int .i64 x) = mhas m x) : ∃ o, w.heap[b]? = some o ∧ MapO P t o m := by
  obtain ⟨es, clock, hb, r⟩ := h
  exact ⟨_, hb, ⟨es, clock, rfl⟩, fun w1 b1 h1 => ⟨D, ⟨es, clock, h1, r⟩, hD⟩⟩

theorem mapO_made (P : Program) (t : TypeId) : MapO P t (.map #[] 0) [] := by
  have h0 := World.ownsMap_made (default : World) P t (plainElem (H := Unit) P t)
  obtain ⟨o, ho, hM⟩ := mapO_of (m := []) h0 (fun x => ⟨rfl, rfl⟩)
  have e := (MapKept.heap_alloc (default : World) (.map #[] 0)).1
  rw [e] at ho
  cases ho
  exact hM

theorem map_ne {α : Type} {d : Kd α} {e : Nat} {w : World} {base : Nat} {ok : Nat → Prop} {v : Value} {xs : List α} {P : Program} {t : TypeId} {g : Nat} {om : Obj} {m : List (Int × Int)}
    (h : d.R e w base ok v xs) (hb : w.heap[g]? = some om) (hM : MapO P t om m) : some g ≠ v.ownBlock := by
  intro hg
  obtain ⟨cells, hc⟩ := Kd.R_typed h g hg.symm
  obtain ⟨⟨es, clock, rfl⟩, _⟩ := hM
  rw [hc] at hb
  cases hb

theorem map_ne_cells {w : World} {P : Program} {t : TypeId} {g b : Nat} {om : Obj} {m : List (Int × Int)} {cs : Array Value} {q : TypeId} {z : Nat × Nat}
    (hb : w.heap[g]? = some om) (hM : MapO P t om m) (hc : w.heap[b]? = some (.cells cs q z)) : g ≠ b := by
  rintro rfl
  obtain ⟨⟨es, clock, rfl⟩, _⟩ := hM
  rw [hc] at hb
  cases hb

theorem R_put {α : Type} {d : Kd α} {e : Nat} {w w1 : World} {base : Nat} {ok : Nat → Prop} {v : Value} {xs : List α} {P : Program} {t : TypeId} {g : Nat} {om : Obj} {m : List (Int × Int)}
    (h : d.R e w base ok v xs) (hb : w.heap[g]? = some om) (hM : MapO P t om m) (hg : w.grownBy w1 (some g)) : d.R e w1 base ok v xs := by
  refine Kd.R_mono (Kd.R_grown (Kd.R_bound h) hg (fun k hk => ?_)) (fun _ hk => hk.1)
  obtain ⟨_, _, _, q, _, cells, hc⟩ := hk
  intro e_
  injection e_ with e_
  subst e_
  obtain ⟨⟨es, clock, rfl⟩, _⟩ := hM
  rw [hc] at hb
  cases hb

theorem S_put {α : Type} {d : Kd α} {e : Nat} {w w1 : World} {base : Nat} {ok : Nat → Prop} {v : Value} {xs : List α} {P : Program} {t : TypeId} {g : Nat} {om : Obj} {m : List (Int × Int)}
    (h : Kd.S d e w base ok v xs) (hb : w.heap[g]? = some om) (hM : MapO P t om m) (hg : w.grownBy w1 (some g)) : Kd.S d e w1 base ok v xs := by
  obtain ⟨f, hf⟩ := h
  exact ⟨f, R_put hf hb hM hg⟩

theorem wrap64_nat {n : Nat} (h : n < 17592186044416) : wrap64 (n : Int) = n := by
  unfold wrap64
  omega

theorem obj_far {w : World} {g : Nat} {o : Obj} (h : w.heap[g]? = some o) {p : Addr} (hp : g ≠ p.block) (u : Value) : (w.setCell p u).heap[g]? = some o := (Below.heap_setCell w p u g hp).trans h

section
variable {P : Program} {ops : Array Oper} {rest : List Oper} {o : Oper} {a : Act} {Q : Exit → Act → World → Prop} {W : World}

theorem map_event (hgd : o.guard = none) {N : Tmp} (_hd : o.dst = some N)
    (hrun : (execOp a.eval o).run P W = .ok (.value (.map (some W.heap.size))) (W.alloc (.map #[] 0)))
    (h : ∀ g, g = W.heap.size → ∀ w1, w1.heap[g]? = some (.map #[] 0) → Below W.heap.size W w1 → wpList P ops Q rest (a.put o.dst (.map (some g))) w1) : wpList P ops Q (o :: rest) a W :=
  Kd.event_run hgd hrun (h _ rfl _ (MapKept.heap_alloc W _).1 (below_alloc (Below.refl _ _) _))

theorem look_event (hg : o.guard = none) (m x : Operand) (T t : TypeId) (hop : o.op = Op.lookup T m x true)
    (ht : P.underlying T = some (.map t t)) (he : P.underlying t = some (.int .i64)) (hz : (zeroValue t).run P W = .ok (.int .i64 0) W) {b : Nat} {om : Obj} {mm : List (Int × Int)}
    (hb : W.heap[b]? = some om) (hM : MapO P t om mm) (hm : a.eval m = .map (some b)) (key : Int) (hx : a.eval x = .int .i64 key) (hw : wrap64 key = key)
    (hK : wpList P ops Q rest (a.put o.dst (.tuple #[.int .i64 (mget mm key), .bool (mhas mm key)])) W) : wpList P ops Q (o :: rest) a W := by
  obtain ⟨D, hown, hD⟩ := hM.2 W b hb
  have hkw : (Lit.int .i64 key).wf = true := by rw [← hw]; exact wrap64_wf _
  refine wpList_lookup_own_ok_int W hg m x T hop t t .i64 (Maps.int_keyed he) ht he hz b mm.length D hm hown _ (.int .i64 key) hx (Maps.keyOf_int_mk he hkw) (fun c hc _ => ?_)
  have h1 := (hD key).1
  rw [hc] at h1
  injection h1 with h1
  injection h1 with _ h1
  rw [h1, (hD key).2]
  exact hK

theorem gate_put {T : TypeId} {m x v : Operand} (_ho : o.op = Op.mapUpdate T m x v) (h : wpList P ops Q (o :: rest) a W) : wpList P ops Q (o :: rest) a W := h

theorem put_event (hg : o.guard = none) (m x v : Operand) (T t : TypeId) (hop : o.op = Op.mapUpdate T m x v) (hN : o.dst = none)
    (ht : P.underlying T = some (.map t t)) (he : P.underlying t = some (.int .i64)) {b : Nat} {om : Obj} {mm : List (Int × Int)}
    (hb : W.heap[b]? = some om) (hM : MapO P t om mm) (hn : mm.length < 17592186044416) (hm : a.eval m = .map (some b)) (key val : Int) (hx : a.eval x = .int .i64 key) (hv : a.eval v = .int .i64 val)
    (hw : wrap64 key = key) (hwv : wrap64 val = val)
    (hK : ∀ w' o', w'.heap[b]? = some o' → MapO P t o' ((key, val) :: mm) → W.grownBy w' (some b) → wpList P ops Q rest a w') : wpList P ops Q (o :: rest) a W := by
  obtain ⟨D, hown, hD⟩ := hM.2 W b hb
  have hkw : (Lit.int .i64 key).wf = true := by rw [← hw]; exact wrap64_wf _
  have hvw : (Lit.int .i64 val).wf = true := by rw [← hwv]; exact wrap64_wf _
  have K := Maps.int_keyed he
  refine wpList_mapUpdate_own W hg m x v T hop t t K ht (plainElem P t) b mm.length D hm hown (by unfold maxLen; omega) _ _ (.int .i64 key) hx hv (Maps.keyOf_int_mk he hkw) _ [] (plainElem_int he hvw) (fun w' hown' hgrow => ?_)
  have hD' : ∀ x, (D.put (.int .i64 key) (.lit (.int .i64 val))).atKey (.int .i64 x) (.lit (.int .i64 0)) = .lit (.int .i64 (mget ((key, val) :: mm) x)) ∧ Maps.has (D.put (.int .i64 key) (.lit (.int .i64 val))) (.int .i64 x) = mhas ((key, val) :: mm) x := by
    intro x
    by_cases hxk : x = key
    · subst hxk
      have hkl : WideAt.IsKeyLit (Lit.int .i64 x) := trivial
      rw [Maps.atKey_put_same hown.isMap hkl, Maps.has_put_same hown.isMap hkl]
      simp [mget, mhas]
    · have hne : (Lit.int .i64 x) ≠ .int .i64 key := by
        intro h; injection h with _ h; exact hxk h
      rw [Maps.atKey_put_other hne, Maps.has_put_other hne, (hD x).1, (hD x).2]
      have hb : (x == key) = false := by simpa using hxk
      simp [mget, mhas, List.lookup_cons, hb]
  obtain ⟨o', ho', hM'⟩ := mapO_of (m := (key, val) :: mm) (by simpa using hown') hD'
  rw [hN]
  exact hK w' o' ho' hM' hgrow
end
end Go.Proofs.Ytlkmafoihjglcaa.P
