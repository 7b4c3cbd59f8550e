import Derived.Deep.Slices
import Derived.ChangeArms
import Derived.WideShapes
import Derived.Carry
import Derived.RowKit3
import Derived.Test.YthfnceilapgloaaWWords
/-! Arguments of struct and slice types, opened into the printed kinds: out of a reading ('DataW.trod') a value in the kind's own form. -/
namespace Go.Proofs.Ythfnceilapgloaa.Opened
open Go.ChangeShapes Go.WideShapes Go.Deep Go.RowKit Go.Proofs.YthfnceilapgloaaW.PrintWords
set_option linter.unusedVariables false
set_option linter.unusedSimpArgs false
section
variable {H : Type} {enc : TypeId × Value → H} {P : Program} {w : World}
/-- What reads at type t is of kind d, and G holds of it. -/
def Opens {α : Type} (enc : TypeId × Value → H) (P : Program) (w : World) (t : TypeId) (d : Kd α) (G : α → Prop) : Prop :=
  ∀ fuel cs x, DataW.trod enc P w 0 (fun _ => true) true fuel t cs = some x → ∃ a, d.K w a cs ∧ G a
theorem op_int {t : TypeId} (hu : P.underlying t = some (.int .i64)) : Opens enc P w t (Kd.int .i64) (fun n => (Lit.int .i64 n).wf = true) := by
  intro fuel cs x h
  obtain ⟨n, rfl, _, hw⟩ := DataW.trod_int hu h
  exact ⟨n, rfl, hw⟩
theorem op_mono {α : Type} {t : TypeId} {d : Kd α} {G G' : α → Prop} (h : Opens enc P w t d G) (hg : ∀ a, G a → G' a) : Opens enc P w t d G' := by
  intro fuel cs x hx
  obtain ⟨a, h1, h2⟩ := h fuel cs x hx
  exact ⟨a, h1, hg a h2⟩
/-- A slice: its address, its elements. -/
theorem open_row {α : Type} {t e : TypeId} {d : Kd α} {G : α → Prop} (ht : P.underlying t = some (.slice e)) (hE : P.cellsOf e = d.sz) (hop : Opens enc P w e d G) {fuel : Nat} {cs : List Value} {x : DataW H × List MemPlace}
    (h : DataW.trod enc P w 0 (fun _ => true) true fuel t cs = some x) : ∃ (A : Option Addr) (xs : List α) (c : Nat), cs = [.slice A xs.length c] ∧ xs.length ≤ c ∧ xs.length ≤ 9223372036854775807 ∧ Kd.C d w A xs.length xs ∧ ∀ a, a ∈ xs → G a := by
  classical
  rcases open_slice ht h with ⟨rfl, _⟩ | ⟨a, len, cap, m, n, D, Pl, rfl, _, hl, hm, hmm, _, hx⟩
  · exact ⟨none, [], 0, rfl, Nat.le_refl _, by simp, Kd.C_nil d w, by simp⟩
  · replace hmm : m = cap := by simpa using hmm
    subst m
    have key : ∀ i, i < len → ∃ u : α, (∃ c, c.length = d.sz ∧ d.K w u c ∧ ∀ j v, c[j]? = some v → w.cell? (a.add (i * d.sz + j)) = some v) ∧ G u := by
      intro i hi
      obtain ⟨cs', h1, h2⟩ := hx i (by omega)
      obtain ⟨u, hk, hg⟩ := hop _ _ _ h2
      obtain ⟨_, hlen, hcell⟩ := World.cells?_some h1
      refine ⟨u, ⟨cs', d.K_len hk, hk, ?_⟩, hg⟩
      intro j v hj
      have hjl : j < cs'.length := (List.getElem?_eq_some_iff.1 hj).1
      have := hcell j (by omega)
      rw [hE, Go.Deep.add_add] at this
      rw [this, hj]
    have hne : len = 0 ∨ 0 < len := by omega
    rcases hne with rfl | hpos
    · exact ⟨some a, [], cap, rfl, Nat.zero_le _, by simp, ⟨rfl, by simp, fun h => absurd h (Nat.lt_irrefl 0)⟩, by simp⟩
    · obtain ⟨u0, _⟩ := key 0 hpos
      let _ : Inhabited α := ⟨u0⟩
      obtain ⟨f, hf⟩ := choose_lt key
      have hmax : len ≤ 9223372036854775807 := by unfold maxLen at hm; omega
      refine ⟨some a, (List.range len).map f, cap, by simp, by simpa using hl, by simpa using hmax, ⟨rfl, by simpa using hmax, fun _ => ⟨a, rfl, ?_⟩⟩, ?_⟩
      · intro j p hj
        have hjl : j < len := by simpa using (List.getElem?_eq_some_iff.1 hj).1
        have hp : f j = p := by simpa [hjl] using hj
        subst hp
        exact (hf j hjl).1
      · intro p hp
        obtain ⟨i, hi, rfl⟩ := List.mem_map.1 hp
        exact (hf i (List.mem_range.1 hi)).2
theorem op_row {α : Type} {t e : TypeId} {d : Kd α} {G : α → Prop} (ht : P.underlying t = some (.slice e)) (hE : P.cellsOf e = d.sz) (hop : Opens enc P w e d G) : Opens enc P w t (Kd.slice e d) (fun xs => xs.length ≤ 9223372036854775807 ∧ ∀ a, a ∈ xs → G a) := by
  intro fuel cs x h
  obtain ⟨A, xs, c, h1, h2, h3, h4, h5⟩ := open_row ht hE hop h
  exact ⟨xs, ⟨A, c, h1, h2, h4⟩, h3, h5⟩
theorem fields_at {t : TypeId} {fs : Array Field} (ht : P.underlying t = some (.struct fs)) {fuel : Nat} {cs : List Value} {x : DataW H × List MemPlace} (h : DataW.trod enc P w 0 (fun _ => true) true fuel t cs = some x) :
    cs.length = P.cellsOf t ∧ ∃ n, ∀ (i : Nat) (f : Field), fs[i]? = some f → ∃ y, DataW.trod enc P w 0 (fun _ => true) true n f.type ((cs.drop f.offset).take (P.cellsOf f.type)) = some y := by
  obtain ⟨xs, n, _, _, hl, hlen, hf⟩ := DataW.trod_struct ht h
  refine ⟨hl, n, fun i f hi => ?_⟩
  have hil : i < xs.length := by rw [hlen]; exact (Array.getElem?_eq_some_iff.1 hi).1
  exact ⟨xs[i], by rw [hf i f hi, List.getElem?_eq_getElem hil]⟩
theorem op_pair {α β : Type} {t : TypeId} {f0 f1 : Field} {a : Kd α} {b : Kd β} {Ga : α → Prop} {Gb : β → Prop} (ht : P.underlying t = some (.struct #[f0, f1]))
    (ho : f0.offset = 0 ∧ f1.offset = P.cellsOf f0.type ∧ P.cellsOf t = P.cellsOf f0.type + P.cellsOf f1.type) (ha : Opens enc P w f0.type a Ga) (hb : Opens enc P w f1.type b Gb) :
    Opens enc P w t (Kd.pair a b) (fun x => Ga x.1 ∧ Gb x.2) := by
  intro fuel cs x h
  obtain ⟨hl, n, hf⟩ := fields_at ht h
  obtain ⟨y0, h0⟩ := hf 0 f0 rfl
  obtain ⟨y1, h1⟩ := hf 1 f1 rfl
  obtain ⟨u, hu, gu⟩ := ha _ _ _ h0
  obtain ⟨v, hv, gv⟩ := hb _ _ _ h1
  refine ⟨(u, v), ⟨_, _, ?_, hu, hv⟩, gu, gv⟩
  obtain ⟨o0, o1, hC⟩ := ho
  rw [o0, o1, List.drop_zero, List.take_of_length_le (l := cs.drop _) (by rw [List.length_drop]; omega), List.take_append_drop]
theorem op_three {α β γ : Type} {t : TypeId} {f0 f1 f2 : Field} {a : Kd α} {b : Kd β} {c : Kd γ} {Ga : α → Prop} {Gb : β → Prop} {Gc : γ → Prop} (ht : P.underlying t = some (.struct #[f0, f1, f2]))
    (ho : f0.offset = 0 ∧ f1.offset = P.cellsOf f0.type ∧ f2.offset = P.cellsOf f0.type + P.cellsOf f1.type ∧ P.cellsOf t = P.cellsOf f0.type + P.cellsOf f1.type + P.cellsOf f2.type) (ha : Opens enc P w f0.type a Ga) (hb : Opens enc P w f1.type b Gb) (hc : Opens enc P w f2.type c Gc) :
    Opens enc P w t (Kd.pair a (Kd.pair b c)) (fun x => Ga x.1 ∧ Gb x.2.1 ∧ Gc x.2.2) := by
  intro fuel cs x h
  obtain ⟨hl, n, hf⟩ := fields_at ht h
  obtain ⟨y0, h0⟩ := hf 0 f0 rfl
  obtain ⟨y1, h1⟩ := hf 1 f1 rfl
  obtain ⟨y2, h2⟩ := hf 2 f2 rfl
  obtain ⟨u, hu, gu⟩ := ha _ _ _ h0
  obtain ⟨v, hv, gv⟩ := hb _ _ _ h1
  obtain ⟨z, hz, gz⟩ := hc _ _ _ h2
  refine ⟨(u, v, z), ⟨_, _, ?_, hu, ⟨_, _, rfl, hv, hz⟩⟩, gu, gv, gz⟩
  obtain ⟨o0, o1, o2, hC⟩ := ho
  rw [o0, o1, o2, List.drop_zero, ← List.drop_drop, List.take_of_length_le (l := List.drop (P.cellsOf f1.type) _) (by simp only [List.length_drop]; omega), List.take_append_drop, List.take_append_drop]
theorem op_iso {α β : Type} {t : TypeId} {d : Kd α} {G : α → Prop} (f : β → α) (g : α → β) (hfg : ∀ a, f (g a) = a) (h : Opens enc P w t d G) : Opens enc P w t (Kd.iso d f) (fun b => G (f b)) := by
  intro fuel cs x hx
  obtain ⟨a, h1, h2⟩ := h fuel cs x hx
  exact ⟨g a, by show d.K w (f (g a)) cs; rw [hfg]; exact h1, by show G (f (g a)); rw [hfg]; exact h2⟩
theorem op_six {α β γ δ ε ζ : Type} {t : TypeId} {f0 f1 f2 f3 f4 f5 : Field} {a : Kd α} {b : Kd β} {c : Kd γ} {d : Kd δ} {e : Kd ε} {g : Kd ζ} {Ga : α → Prop} {Gb : β → Prop} {Gc : γ → Prop} {Gd : δ → Prop} {Ge : ε → Prop} {Gg : ζ → Prop}
    (ht : P.underlying t = some (.struct #[f0, f1, f2, f3, f4, f5]))
    (ho : f0.offset = 0 ∧ f1.offset = P.cellsOf f0.type ∧ f2.offset = P.cellsOf f0.type + P.cellsOf f1.type ∧ f3.offset = P.cellsOf f0.type + P.cellsOf f1.type + P.cellsOf f2.type ∧ f4.offset = P.cellsOf f0.type + P.cellsOf f1.type + P.cellsOf f2.type + P.cellsOf f3.type ∧ f5.offset = P.cellsOf f0.type + P.cellsOf f1.type + P.cellsOf f2.type + P.cellsOf f3.type + P.cellsOf f4.type ∧
      P.cellsOf t = P.cellsOf f0.type + P.cellsOf f1.type + P.cellsOf f2.type + P.cellsOf f3.type + P.cellsOf f4.type + P.cellsOf f5.type)
    (ha : Opens enc P w f0.type a Ga) (hb : Opens enc P w f1.type b Gb) (hc : Opens enc P w f2.type c Gc) (hd : Opens enc P w f3.type d Gd) (he : Opens enc P w f4.type e Ge) (hg : Opens enc P w f5.type g Gg) :
    Opens enc P w t (Kd.pair a (Kd.pair b (Kd.pair c (Kd.pair d (Kd.pair e g))))) (fun x => Ga x.1 ∧ Gb x.2.1 ∧ Gc x.2.2.1 ∧ Gd x.2.2.2.1 ∧ Ge x.2.2.2.2.1 ∧ Gg x.2.2.2.2.2) := by
  intro fuel cs x h
  obtain ⟨hl, n, hf⟩ := fields_at ht h
  obtain ⟨y0, h0⟩ := hf 0 f0 rfl
  obtain ⟨y1, h1⟩ := hf 1 f1 rfl
  obtain ⟨y2, h2⟩ := hf 2 f2 rfl
  obtain ⟨y3, h3⟩ := hf 3 f3 rfl
  obtain ⟨y4, h4⟩ := hf 4 f4 rfl
  obtain ⟨y5, h5⟩ := hf 5 f5 rfl
  obtain ⟨u0, k0, g0⟩ := ha _ _ _ h0
  obtain ⟨u1, k1, g1⟩ := hb _ _ _ h1
  obtain ⟨u2, k2, g2⟩ := hc _ _ _ h2
  obtain ⟨u3, k3, g3⟩ := hd _ _ _ h3
  obtain ⟨u4, k4, g4⟩ := he _ _ _ h4
  obtain ⟨u5, k5, g5⟩ := hg _ _ _ h5
  refine ⟨(u0, u1, u2, u3, u4, u5), ⟨_, _, ?_, k0, ⟨_, _, rfl, k1, ⟨_, _, rfl, k2, ⟨_, _, rfl, k3, ⟨_, _, rfl, k4, k5⟩⟩⟩⟩⟩, g0, g1, g2, g3, g4, g5⟩
  obtain ⟨o0, o1, o2, o3, o4, o5, hC⟩ := ho
  rw [o0, o1, o2, o3, o4, o5, List.drop_zero, List.take_of_length_le (l := List.drop (P.cellsOf f0.type + P.cellsOf f1.type + P.cellsOf f2.type + P.cellsOf f3.type + P.cellsOf f4.type) _) (by simp only [List.length_drop]; omega)]
  simp only [← List.drop_drop, List.take_append_drop]
end
end Go.Proofs.Ythfnceilapgloaa.Opened
