--MINI
import Derived.Test.YtbpfdbjnnlmdjaaWWords
import Derived.Test.YtbpfdbjnnlmdjaaWApart
import Derived.Maps.OwnSet
import Derived.Maps.Views
-- a map of the call's own, keyed by whole numbers, whose elements are told as the values that they are (newest first)
namespace Go.Proofs.Ytbpfdbjnnlmdjaa.P
open Go.RowKit Go.Proofs.YtbpfdbjnnlmdjaaW.PrintWords

def aSS (z : Value) (m : List (Int × Value)) (x : Int) : Value := (m.lookup x).getD z
def aS5 (m : List (Int × Value)) (x : Int) : Bool := (m.lookup x).isSome
/-- An element reads as itself. -/
def asIs (v : Value) : Option (DataW Value × List MemPlace) := some (.held v, [])

/-- The object of a map that reads as m; z: the elements' zero value. -/
def aSx (P : Program) (t : TypeId) (z : Value) (o : Obj) (m : List (Int × Value)) : Prop :=
  (∃ es clock, o = .map es clock) ∧ ∀ (w : World) (b : Nat), w.heap[b]? = some o → ∃ D : DataW Value, w.ownsMap P t asIs b m.length D ∧
    ∀ x, D.atKey (.int .i64 x) (.held z) = .held (aSS z m x) ∧ Maps.has D (.int .i64 x) = aS5 m x

theorem aVj {P : Program} {t : TypeId} {z : Value} {w : World} {b : Nat} {m : List (Int × Value)} {D : DataW Value} (h : w.ownsMap P t asIs b m.length D)
    (hD : ∀ x, D.atKey (.int .i64 x) (.held z) = .held (aSS z m x) ∧ Maps.has D (.int .i64 x) = aS5 m x) : ∃ o, w.heap[b]? = some o ∧ aSx P t z o m := by
  obtain ⟨es, clock, hb, r⟩ := h
  exact ⟨_, hb, ⟨es, clock, rfl⟩, fun w1 b1 h1 => ⟨D, ⟨es, clock, h1, r⟩, hD⟩⟩

theorem aYs (P : Program) (t : TypeId) (z : Value) : aSx P t z (.map #[] 0) [] := by
  have h0 := World.ownsMap_made (default : World) P t asIs
  obtain ⟨o, ho, hM⟩ := aVj (z := z) (m := []) h0 (fun x => ⟨rfl, rfl⟩)
  have e := (MapKept.heap_alloc (default : World) (.map #[] 0)).1
  rw [e] at ho
  cases ho
  exact hM

theorem baZ {α : Type} {d : Kd α} {e : Nat} {w : World} {base : Nat} {ok : Nat → Prop} {v : Value} {xs : List α} {P : Program} {t : TypeId} {z : Value} {g : Nat} {om : Obj} {m : List (Int × Value)}
    (h : d.R e w base ok v xs) (hb : w.heap[g]? = some om) (hM : aSx P t z om m) : some g ≠ v.ownBlock := by
  intro hg
  obtain ⟨cells, hc⟩ := Kd.dY h g hg.symm
  obtain ⟨⟨es, clock, rfl⟩, _⟩ := hM
  rw [hc] at hb
  cases hb

theorem a0a {w : World} {P : Program} {t : TypeId} {z : Value} {g b : Nat} {om : Obj} {m : List (Int × Value)} {cs : Array Value} {q : TypeId} {fz : Nat × Nat}
    (hb : w.heap[g]? = some om) (hM : aSx P t z om m) (hc : w.heap[b]? = some (.cells cs q fz)) : g ≠ b := by
  rintro rfl
  obtain ⟨⟨es, clock, rfl⟩, _⟩ := hM
  rw [hc] at hb
  cases hb

theorem a6H {α : Type} {d : Kd α} {e : Nat} {w w1 : World} {base : Nat} {ok : Nat → Prop} {v : Value} {xs : List α} {P : Program} {t : TypeId} {z : Value} {g : Nat} {om : Obj} {m : List (Int × Value)}
    (h : d.R e w base ok v xs) (hb : w.heap[g]? = some om) (hM : aSx P t z om m) (hg : w.grownBy w1 (some g)) : d.R e w1 base ok v xs := by
  refine Kd.aG (Kd.VD (Kd.nY h) hg (fun k hk => ?_)) (fun _ hk => hk.1)
  obtain ⟨_, _, _, q, _, cells, hc⟩ := hk
  intro e_
  injection e_ with e_
  subst e_
  obtain ⟨⟨es, clock, rfl⟩, _⟩ := hM
  rw [hc] at hb
  cases hb

theorem bdi {α : Type} {d : Kd α} {e : Nat} {w w1 : World} {base : Nat} {ok : Nat → Prop} {v : Value} {xs : List α} {P : Program} {t : TypeId} {z : Value} {g : Nat} {om : Obj} {m : List (Int × Value)}
    (h : Kd.S d e w base ok v xs) (hb : w.heap[g]? = some om) (hM : aSx P t z om m) (hg : w.grownBy w1 (some g)) : Kd.S d e w1 base ok v xs := by
  obtain ⟨f, hf⟩ := h
  exact ⟨f, a6H hf hb hM hg⟩

theorem a_S {w : World} {g : Nat} {o : Obj} (h : w.heap[g]? = some o) {p : Addr} (hp : g ≠ p.block) (u : Value) : (w.setCell p u).heap[g]? = some o := (Below.heap_setCell w p u g hp).trans h

section
variable {P : Program} {ops : Array Oper} {rest : List Oper} {o : Oper} {a : Act} {Q : Exit → Act → World → Prop} {W : World}

theorem aWE (hgd : o.guard = none) {N : Tmp} (_hd : o.dst = some N)
    (hrun : (execOp a.eval o).run P W = .ok (.value (.map (some W.heap.size))) (W.alloc (.map #[] 0)))
    (h : ∀ g, g = W.heap.size → ∀ w1, w1.heap[g]? = some (.map #[] 0) → Below W.heap.size W w1 → wpList P ops Q rest (a.put o.dst (.map (some g))) w1) : wpList P ops Q (o :: rest) a W :=
  Kd.H7 hgd hrun (h _ rfl _ (MapKept.heap_alloc W _).1 (jB (Below.refl _ _) _))

theorem aZM (hg : o.guard = none) (m x : Operand) (T t e : TypeId) (hop : o.op = Op.lookup T m x true)
    (ht : P.underlying T = some (.map t e)) (hi : P.underlying t = some (.int .i64)) {z : Value} (hz : (zeroValue e).run P W = .ok z W) {b : Nat} {om : Obj} {mm : List (Int × Value)}
    (hb : W.heap[b]? = some om) (hM : aSx P t z om mm) (hm : a.eval m = .map (some b)) (key : Int) (hx : a.eval x = .int .i64 key) (hw : wrap64 key = key)
    (hK : ∀ v hh, v = aSS z mm key → hh = aS5 mm key → wpList P ops Q rest (a.put o.dst (.tuple #[v, .bool hh])) W) : wpList P ops Q (o :: rest) a W := by
  obtain ⟨D, hown, hD⟩ := hM.2 W b hb
  have hkw : (Lit.int .i64 key).wf = true := by rw [← hw]; exact wrap64_wf _
  refine wpList_lookup_own_ok W hg m x T hop t e (Maps.int_keyed hi) ht asIs hz (.held z) [] rfl b mm.length D hm hown _ (.int .i64 key) hx (Maps.keyOf_int_mk hi hkw) (fun v ps hv => hK v _ ?_ (hD key).2)
  have h1 := (hD key).1
  simp only [asIs, Option.some.injEq, Prod.mk.injEq] at hv
  rw [← hv.1] at h1
  injection h1

theorem a9V (hg : o.guard = none) (m x : Operand) (T t e : TypeId) (hop : o.op = Op.lookup T m x false)
    (ht : P.underlying T = some (.map t e)) (hi : P.underlying t = some (.int .i64)) {z : Value} (hz : (zeroValue e).run P W = .ok z W) {b : Nat} {om : Obj} {mm : List (Int × Value)}
    (hb : W.heap[b]? = some om) (hM : aSx P t z om mm) (hm : a.eval m = .map (some b)) (key : Int) (hx : a.eval x = .int .i64 key) (hw : wrap64 key = key)
    (hK : ∀ v, v = aSS z mm key → wpList P ops Q rest (a.put o.dst v) W) : wpList P ops Q (o :: rest) a W := by
  obtain ⟨D, hown, hD⟩ := hM.2 W b hb
  have hkw : (Lit.int .i64 key).wf = true := by rw [← hw]; exact wrap64_wf _
  obtain ⟨v, ps, hrun, hv⟩ := hown.lookup (Maps.int_keyed hi) ht hz (zd := .held z) (zp := []) rfl (Maps.keyOf_int_mk hi hkw)
  refine wpList_plain hg fun K' hK' => ?_
  unfold Oper.wp
  simp [execOp, hop, hm, hx, hrun, Result.andThen]
  refine hK' _ _ (hK v ?_)
  have h1 := (hD key).1
  simp only [asIs, Option.some.injEq, Prod.mk.injEq] at hv
  rw [← hv.1] at h1
  injection h1

theorem aYu {T : TypeId} {m x v : Operand} (_ho : o.op = Op.mapUpdate T m x v) (h : wpList P ops Q (o :: rest) a W) : wpList P ops Q (o :: rest) a W := h

theorem aWC (hg : o.guard = none) (m x v : Operand) (T t e : TypeId) (hop : o.op = Op.mapUpdate T m x v) (hN : o.dst = none)
    (ht : P.underlying T = some (.map t e)) (hi : P.underlying t = some (.int .i64)) {z : Value} {b : Nat} {om : Obj} {mm : List (Int × Value)}
    (hb : W.heap[b]? = some om) (hM : aSx P t z om mm) (hn : mm.length < 17592186044416) (hm : a.eval m = .map (some b)) (key : Int) (val : Value) (hx : a.eval x = .int .i64 key) (hv : a.eval v = val)
    (hw : wrap64 key = key)
    (hK : ∀ w' o', w'.heap[b]? = some o' → aSx P t z o' ((key, val) :: mm) → W.grownBy w' (some b) → wpList P ops Q rest a w') : wpList P ops Q (o :: rest) a W := by
  obtain ⟨D, hown, hD⟩ := hM.2 W b hb
  have hkw : (Lit.int .i64 key).wf = true := by rw [← hw]; exact wrap64_wf _
  have K := Maps.int_keyed hi
  refine wpList_mapUpdate_own W hg m x v T hop t e K ht asIs b mm.length D hm hown (by unfold maxLen; omega) _ _ (.int .i64 key) hx hv (Maps.keyOf_int_mk hi hkw) _ [] rfl (fun w' hown' hgrow => ?_)
  have hD' : ∀ x, (D.put (.int .i64 key) (.held val)).atKey (.int .i64 x) (.held z) = .held (aSS z ((key, val) :: mm) x) ∧ Maps.has (D.put (.int .i64 key) (.held val)) (.int .i64 x) = aS5 ((key, val) :: mm) x := by
    intro x
    by_cases hxk : x = key
    · subst hxk
      have hkl : WideAt.IsKeyLit (Lit.int .i64 x) := trivial
      rw [Maps.atKey_put_same hown.isMap hkl, Maps.has_put_same hown.isMap hkl]
      simp [aSS, aS5]
    · have hne : (Lit.int .i64 x) ≠ .int .i64 key := by
        intro h; injection h with _ h; exact hxk h
      rw [Maps.atKey_put_other hne, Maps.has_put_other hne, (hD x).1, (hD x).2]
      have hb : (x == key) = false := by simpa using hxk
      simp [aSS, aS5, List.lookup_cons, hb]
  obtain ⟨o', ho', hM'⟩ := aVj (m := (key, val) :: mm) (by simpa using hown') hD'
  rw [hN]
  exact hK w' o' ho' hM' hgrow
theorem aWB (hg : o.guard = none) (m x v : Operand) (T t e : TypeId) (hop : o.op = Op.insert T m x v) (hN : o.dst = none)
    (ht : P.underlying T = some (.map t e)) (hi : P.underlying t = some (.int .i64)) {z : Value} {b : Nat} {om : Obj} {mm : List (Int × Value)}
    (hb : W.heap[b]? = some om) (hM : aSx P t z om mm) (hn : mm.length < 17592186044416) (hm : a.eval m = .map (some b)) (key : Int) (val : Value) (hx : a.eval x = .int .i64 key) (hv : a.eval v = val)
    (hw : wrap64 key = key)
    (hK : ∀ w' o', w'.heap[b]? = some o' → aSx P t z o' ((key, val) :: mm) → W.grownBy w' (some b) → wpList P ops Q rest a w') : wpList P ops Q (o :: rest) a W := by
  obtain ⟨D, hown, hD⟩ := hM.2 W b hb
  have hkw : (Lit.int .i64 key).wf = true := by rw [← hw]; exact wrap64_wf _
  have K := Maps.int_keyed hi
  refine wpList_plain hg fun K' hK' => ?_
  obtain ⟨w', hrun, hown', hgrow⟩ := hown.update K ht (by unfold maxLen; omega) (Maps.keyOf_int_mk hi hkw) (show asIs val = some (.held val, []) from rfl)
  unfold Oper.wp
  simp [execOp, hop, hm, hx, hv, hrun, Result.andThen]
  refine hK' _ _ ?_
  have hD' : ∀ x, (D.put (.int .i64 key) (.held val)).atKey (.int .i64 x) (.held z) = .held (aSS z ((key, val) :: mm) x) ∧ Maps.has (D.put (.int .i64 key) (.held val)) (.int .i64 x) = aS5 ((key, val) :: mm) x := by
    intro x
    by_cases hxk : x = key
    · subst hxk
      have hkl : WideAt.IsKeyLit (Lit.int .i64 x) := trivial
      rw [Maps.atKey_put_same hown.isMap hkl, Maps.has_put_same hown.isMap hkl]
      simp [aSS, aS5]
    · have hne : (Lit.int .i64 x) ≠ .int .i64 key := by
        intro h; injection h with _ h; exact hxk h
      rw [Maps.atKey_put_other hne, Maps.has_put_other hne, (hD x).1, (hD x).2]
      have hb : (x == key) = false := by simpa using hxk
      simp [aSS, aS5, List.lookup_cons, hb]
  obtain ⟨o', ho', hM'⟩ := aVj (m := (key, val) :: mm) (by simpa using hown') hD'
  rw [hN]
  exact hK w' o' ho' hM' hgrow
end
end Go.Proofs.Ytbpfdbjnnlmdjaa.P
