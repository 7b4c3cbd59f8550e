/- The program's test of a diagram, and that it answers as the reference's does. -/
import Derived.Test.YtfekgidcnidijaaDoorDiag
import Derived.Test.YtfekgidcnidijaaDoorPx0
import Derived.Test.YtfekgidcnidijaaDoorPx3
import Derived.Test.YtfekgidcnidijaaDoorPx4
namespace Go.Proofs.YtfekgidcnidijaaDoor.Diag
open Go.RowKit Go.Proofs.YtfekgidcnidijaaDoor.P Go.Proofs.YtfekgidcnidijaaDoor.Base Go.Proofs.YtfekgidcnidijaaDoor.Bit Go.Proofs.YtfekgidcnidijaaDoor.Nodes Go.Proofs.YtfekgidcnidijaaDoor.Dd Go.Proofs.YtfekgidcnidijaaDoorW.PrintWords Go.Proofs.YtfekgidcnidijaaDoorW.PrintLast Go.Proofs.YtfekgidcnidijaaDoorW.PrintMore
set_option linter.unusedVariables false
set_option linter.unusedSimpArgs false
def gref (ns : List Nd) (j : Nat) (r : Int) : Prop := 0 ≤ r ∧ r < 2 + (j : Int) ∧ (r < 2 ∨ (rd_T86 ns j).f0 < (rd_T86 ns (r - 2)).f0)
instance (ns : List Nd) (j : Nat) (r : Int) : Decidable (gref ns j r) := by unfold gref; infer_instance
theorem goodRef {n root r : Int} {ns : List Nd} {j : Nat} (hj : j < ns.length) (hb : ns.length ≤ 40) : impl_goodReference.f n ns root j r = some (decide (gref ns j r)) := by
  have no : ¬ gref ns j r → some false = some (decide (gref ns j r)) := fun h => by rw [decide_eq_false h]
  unfold impl_goodReference.f
  rw [wrap_id (x := 2 + (j : Int)) (by omega) (by omega)]
  by_cases c1 : r < 0
  · rw [if_pos c1]; exact no (fun h => by have := h.1; omega)
  rw [if_neg c1]
  by_cases c2 : r ≥ 2 + (j : Int)
  · rw [if_pos c2]; exact no (fun h => by have := h.2.1; omega)
  rw [if_neg c2]
  by_cases c3 : r < 2
  · rw [if_pos c3, decide_eq_true (show gref ns j r from ⟨by omega, by omega, .inl c3⟩)]
  rw [if_neg c3, wrap_id (x := r - 2) (by omega) (by omega), if_pos (by omega), if_pos (by omega), if_pos (by omega), if_pos (by omega)]
  congr 1
  rw [decide_eq_decide]
  exact ⟨fun h => ⟨by omega, by omega, .inr h⟩, fun h => h.2.2.resolve_left c3⟩
/-- What the program asks of a node. -/
def okI (n : Int) (ns : List Nd) (j : Nat) : Prop := 0 ≤ (rd_T86 ns j).f0 ∧ (rd_T86 ns j).f0 < n ∧ (rd_T86 ns j).f1 ≠ (rd_T86 ns j).f2 ∧ gref ns j (rd_T86 ns j).f1 ∧ gref ns j (rd_T86 ns j).f2 ∧ ∀ k : Nat, k < j → rd_T86 ns k ≠ rd_T86 ns j
theorem node_eq (x : Nd) (a b c : Int) : ((x.f0 == a && (x.f1 == b && (x.f2 == c))) = true) ↔ x = ⟨a, b, c⟩ := by
  obtain ⟨a', b', c'⟩ := x
  simp only [Bool.and_eq_true, beq_iff_eq]
  constructor
  · rintro ⟨rfl, rfl, rfl⟩; rfl
  · intro h; cases h; exact ⟨rfl, rfl, rfl⟩
theorem dup_loop {n root : Int} {ns : List Nd} (hb : ns.length ≤ 40) {i : Nat} (hi : i < ns.length) {a b c : Int} (d : Nat) : ∀ k : Nat, k + d = i →
    ((∃ j : Nat, k ≤ j ∧ j < i ∧ rd_T86 ns j = ⟨a, b, c⟩) → Ev (fun q => impl_IsDiagram.l1 q (i : Int) (k : Int) ns (ns.length : Int) (i : Int) n ns root a b c) false) ∧
    ((∀ j : Nat, k ≤ j → j < i → rd_T86 ns j ≠ ⟨a, b, c⟩) → ∀ r, Ev (fun q => impl_IsDiagram.l0 q ns (ns.length : Int) ((i + 1 : Nat) : Int) n ns root) r → Ev (fun q => impl_IsDiagram.l1 q (i : Int) (k : Int) ns (ns.length : Int) (i : Int) n ns root a b c) r) := by
  induction d with
  | zero =>
    intro k hk
    refine ⟨fun ⟨j, h1, h2, _⟩ => by omega, fun _ r h => Ev.succ ?_⟩
    simp only [impl_IsDiagram.l1]
    refine Ev.neg (by omega) ?_
    rw [wrap_nat (by omega)]; exact h
  | succ d ih =>
    intro k hk
    obtain ⟨i1, i2⟩ := ih (k + 1) (by omega)
    have step : ∀ r, Ev (fun q => if rd_T86 ns (k : Int) = ⟨a, b, c⟩ then some false else impl_IsDiagram.l1 q (i : Int) ((k + 1 : Nat) : Int) ns (ns.length : Int) (i : Int) n ns root a b c) r → Ev (fun q => impl_IsDiagram.l1 q (i : Int) (k : Int) ns (ns.length : Int) (i : Int) n ns root a b c) r := fun r h => by
      refine Ev.succ ?_
      simp only [impl_IsDiagram.l1]
      refine Ev.pos (by omega) (Ev.pos (by omega) (Ev.pos (by omega) ?_))
      rw [wrap_nat (by omega)]
      by_cases e : rd_T86 ns (k : Int) = ⟨a, b, c⟩
      · simp only [if_pos e] at h
        exact Ev.pos ((node_eq _ _ _ _).2 e) h
      · simp only [if_neg e] at h
        exact Ev.neg (fun h' => e ((node_eq _ _ _ _).1 h')) h
    refine ⟨fun ⟨j, h1, h2, h3⟩ => step _ ?_, fun h r hr => step _ ?_⟩
    · by_cases e : rd_T86 ns (k : Int) = ⟨a, b, c⟩
      · simp only [if_pos e]; exact Ev.now _
      · simp only [if_neg e]
        refine i1 ⟨j, ?_, h2, h3⟩
        by_cases ej : j = k
        · subst ej; exact absurd h3 e
        · omega
    · simp only [if_neg (h k (Nat.le_refl _) (by omega))]
      exact i2 (fun j h1 h2 => h j (by omega) h2) r hr
theorem nodes_loop {n root : Int} {ns : List Nd} (hb : ns.length ≤ 40) (d : Nat) : ∀ i : Nat, i + d = ns.length →
    ((∃ j, i ≤ j ∧ j < ns.length ∧ ¬ okI n ns j) → Ev (fun k => impl_IsDiagram.l0 k ns (ns.length : Int) (i : Int) n ns root) false) ∧
    ((∀ j, i ≤ j → j < ns.length → okI n ns j) → ∀ b, Ev (fun k => impl_IsDiagram.l0 k ns (ns.length : Int) (ns.length : Int) n ns root) b → Ev (fun k => impl_IsDiagram.l0 k ns (ns.length : Int) (i : Int) n ns root) b) := by
  induction d with
  | zero =>
    intro i hi
    refine ⟨fun ⟨j, h1, h2, _⟩ => by omega, fun _ b h => ?_⟩
    rw [show (i : Int) = (ns.length : Int) by omega]; exact h
  | succ d ih =>
    intro i hi
    obtain ⟨i1, i2⟩ := ih (i + 1) (by omega)
    obtain ⟨u1, u2⟩ := dup_loop (n := n) (root := root) hb (i := i) (by omega) (a := (rd_T86 ns i).f0) (b := (rd_T86 ns i).f1) (c := (rd_T86 ns i).f2) i 0 (by omega)
    have no : ∀ t : Bool, t = true → Ev (fun k => impl_IsDiagram.j2 k (i : Int) ns (ns.length : Int) (i : Int) t n ns root (rd_T86 ns i).f0 (rd_T86 ns i).f1 (rd_T86 ns i).f2) false := by
      rintro t rfl
      refine Ev.succ ?_
      simp only [impl_IsDiagram.j2]
      exact Ev.pos trivial (Ev.now _)
    have step : ∀ b, (¬ okI n ns i → b = false) → (okI n ns i → Ev (fun k => impl_IsDiagram.l0 k ns (ns.length : Int) ((i + 1 : Nat) : Int) n ns root) b) → Ev (fun k => impl_IsDiagram.l0 k ns (ns.length : Int) (i : Int) n ns root) b := fun b h1 h2 => by
      refine Ev.succ ?_
      simp only [impl_IsDiagram.l0]
      refine Ev.pos (by omega) (Ev.pos (by omega) (Ev.pos (by omega) ?_))
      by_cases c1 : (rd_T86 ns i).f0 < 0
      · rw [h1 (fun h => by have := h.1; omega)]
        exact Ev.pos c1 (no _ rfl)
      refine Ev.neg c1 ?_
      by_cases c2 : (rd_T86 ns i).f0 ≥ n
      · rw [h1 (fun h => by have := h.2.1; omega)]
        exact Ev.pos c2 (no _ rfl)
      refine Ev.neg c2 ?_
      by_cases c3 : (rd_T86 ns i).f1 = (rd_T86 ns i).f2
      · rw [h1 (fun h => h.2.2.1 c3)]
        exact Ev.pos c3 (no _ rfl)
      refine Ev.neg c3 ?_
      rw [goodRef (by omega) hb, goodRef (by omega) hb]
      simp only [Option.bind_some]
      by_cases c4 : gref ns i (rd_T86 ns i).f1
      · refine Ev.pos (decide_eq_true c4) ?_
        by_cases c5 : gref ns i (rd_T86 ns i).f2
        · refine Ev.succ ?_
          simp only [impl_IsDiagram.j2]
          refine Ev.neg (by simp [c5]) ?_
          by_cases c6 : ∀ k : Nat, k < i → rd_T86 ns k ≠ rd_T86 ns i
          · exact u2 (fun j _ hj => c6 j hj) b (h2 ⟨by omega, by omega, c3, c4, c5, c6⟩)
          · rw [h1 (fun h => c6 h.2.2.2.2.2)]
            simp only [Classical.not_forall, Classical.not_not] at c6
            obtain ⟨j, q1, q2⟩ := c6
            exact u1 ⟨j, Nat.zero_le _, q1, q2⟩
        · rw [h1 (fun h => c5 h.2.2.2.2.1)]
          exact no _ (by rw [decide_eq_false c5]; rfl)
      · rw [h1 (fun h => c4 h.2.2.2.1)]
        exact Ev.neg (by rw [decide_eq_true_eq]; exact c4) (no _ rfl)
    refine ⟨fun ⟨j, h1, h2, h3⟩ => step _ (fun _ => rfl) (fun c => ?_), fun h b hb' => step _ (fun c => absurd (h i (Nat.le_refl _) (by omega)) c) (fun _ => i2 (fun j h1 h2 => h j (by omega) h2) b hb')⟩
    refine i1 ⟨j, ?_, h2, h3⟩
    by_cases e : j = i
    · subst e; exact absurd c h3
    · omega
theorem count_loop {t : List Int} {L : Nat} (ht : t.length = L) (hL : L ≤ 1048576) (d : Nat) : ∀ i : Nat, i + d = L → Ev (fun k => impl_IsDiagram.l2 k t (L : Int) (i : Int)) (decide (t.drop i = (rg L).drop i)) := by
  induction d with
  | zero =>
    intro i hi
    refine Ev.succ ?_
    simp only [impl_IsDiagram.l2]
    refine Ev.neg (by omega) (Ev.val (Ev.now _) ?_)
    rw [List.drop_of_length_le (by omega), List.drop_of_length_le (by rw [rg_len]; omega)]; simp
  | succ d ih =>
    intro i hi
    have hr : (rg L)[i]'(by rw [rg_len]; omega) = (i : Int) := rg_at (List.getElem?_eq_getElem _)
    refine Ev.succ ?_
    simp only [impl_IsDiagram.l2]
    refine Ev.pos (by omega) (Ev.pos (by omega) (Ev.pos (by omega) ?_))
    rw [wrap_nat (by omega), rd_get (by omega), drop_cons (xs := t) (by omega), drop_cons (xs := rg L) (by rw [rg_len]; omega), hr]
    by_cases e : (i : Int) = t[i]
    · refine Ev.pos e (Ev.val (ih (i + 1) (by omega)) ?_)
      rw [decide_eq_decide, ← e]
      exact ⟨fun h => by rw [h], fun h => (List.cons.inj h).2⟩
    · refine Ev.neg e (Ev.val (Ev.now _) ?_)
      symm
      rw [decide_eq_false_iff_not]
      intro h
      exact e (List.cons.inj h).1.symm
theorem ok_iff {m : Nat} {n root : Int} {ns : List Nd} (hn : n = (m : Int)) (hr : 0 ≤ root ∧ root ≤ (ns.length : Int) + 1) : (∀ j, 0 ≤ j → j < ns.length → okI n ns j) ↔ Bnd m ns root ∧ Struct m ns := by
  have lv : ∀ (j : Nat) (hj : j < ns.length) (r : Int), 0 ≤ r → r < 2 + (j : Int) → ((r < 2 ∨ (rd_T86 ns j).f0 < (rd_T86 ns (r - 2)).f0) ↔ lev ns ns[j].f0 r) := fun j hj r h0 h1 => by
    by_cases c : r < 2
    · exact ⟨fun _ => .inl c, fun _ => .inl c⟩
    · have e : r - 2 = (((r - 2).toNat : Nat) : Int) := by omega
      have hr2 : (r - 2).toNat < ns.length := by omega
      rw [e, rdN_get hj, rdN_get hr2]
      constructor
      · rintro (h | h)
        · exact absurd h c
        · refine .inr fun x hx => ?_
          rw [List.getElem?_eq_getElem hr2] at hx; cases hx; exact h
      · rintro (h | h)
        · exact absurd h c
        · exact .inr (h _ (List.getElem?_eq_getElem hr2))
  constructor
  · intro h
    have g : ∀ j, (hj : j < ns.length) → _ := fun j hj => by have := h j (Nat.zero_le _) hj; unfold okI gref at this; exact this
    refine ⟨(bnd_of hn hr).2 (fun j _ hj => ?_), ⟨?_, ?_, ?_, ?_⟩⟩
    · obtain ⟨q1, q2, q3, q4, q5, q6⟩ := g j hj
      unfold okS; omega
    · intro j x e
      obtain ⟨hj, e'⟩ := List.getElem?_eq_some_iff.1 e
      obtain ⟨q1, q2, q3, q4, q5, q6⟩ := g j hj
      rw [rdN_get hj, e'] at q1 q2; omega
    · intro j x e
      obtain ⟨hj, e'⟩ := List.getElem?_eq_some_iff.1 e
      obtain ⟨q1, q2, q3, q4, q5, q6⟩ := g j hj
      rw [rdN_get hj, e'] at q3; exact q3
    · intro j x e
      obtain ⟨hj, e'⟩ := List.getElem?_eq_some_iff.1 e
      obtain ⟨q1, q2, q3, q4, q5, q6⟩ := g j hj
      have a1 := (lv j hj _ q4.1 q4.2.1).1 q4.2.2
      have a2 := (lv j hj _ q5.1 q5.2.1).1 q5.2.2
      rw [rdN_get hj, e'] at a1 a2
      exact ⟨a1, a2⟩
    · have key : ∀ (j k : Nat) (x : Nd), j < k → ns[j]? = some x → ns[k]? = some x → False := fun j k x hjk e e' => by
        obtain ⟨hj, ej⟩ := List.getElem?_eq_some_iff.1 e
        obtain ⟨hk, ek⟩ := List.getElem?_eq_some_iff.1 e'
        obtain ⟨q1, q2, q3, q4, q5, q6⟩ := g k hk
        refine q6 j hjk ?_
        rw [rdN_get hj, rdN_get hk, ej, ek]
      intro j k x e e'
      by_cases c : j < k
      · exact absurd (key j k x c e e') id
      · by_cases c' : k < j
        · exact absurd (key k j x c' e' e) id
        · omega
  · rintro ⟨hB, hS⟩ j _ hj
    have e := List.getElem?_eq_getElem hj
    have h1 := hS.inp _ _ e
    have h2 := hS.ne _ _ e
    have h3 := hS.lev _ _ e
    have h4 := hB.refs j hj
    have er := rdN_get hj
    refine ⟨by rw [er]; omega, by rw [er]; omega, by rw [er]; exact h2, ⟨by rw [er]; omega, by rw [er]; omega, ?_⟩, ⟨by rw [er]; omega, by rw [er]; omega, ?_⟩, fun k hk he => ?_⟩
    · refine (lv j hj _ (by rw [er]; omega) (by rw [er]; omega)).2 ?_
      rw [er]; exact h3.1
    · refine (lv j hj _ (by rw [er]; omega) (by rw [er]; omega)).2 ?_
      rw [er]; exact h3.2
    · rw [rdN_get (show k < ns.length by omega), er] at he
      have := hS.own k j _ (by rw [← he]; exact List.getElem?_eq_getElem (by omega)) e
      omega
/-- Both tests answer the same. -/
theorem test {n root : Int} {ns : List Nd} (hb : ns.length ≤ 1048576) : (∃ (m : Nat) (f : Nat → Int), In m n root ns ∧ (∀ x, Val ns x root (f x) ∧ 0 ≤ f x ∧ f x ≤ 1) ∧ Struct m ns ∧ Ev (fun k => spec_ddGood.f k n ns root) true ∧ Ev (fun k => impl_IsDiagram.f k n ns root) true) ∨
    (Ev (fun k => spec_ddGood.f k n ns root) false ∧ Ev (fun k => impl_IsDiagram.f k n ns root) false) := by
  have no : ∀ b : Bool, b = true → Ev (fun k => impl_IsDiagram.j0 k b n ns root) false := by
    rintro b rfl
    refine Ev.succ ?_
    simp only [impl_IsDiagram.j0]
    exact Ev.pos trivial (Ev.now _)
  by_cases c : (0 ≤ n ∧ n ≤ 4) ∧ ns.length ≤ 40 ∧ 0 ≤ root ∧ root ≤ (ns.length : Int) + 1
  · obtain ⟨c1, c2, c3⟩ := c
    obtain ⟨g1, g2⟩ := nodes_loop (n := n) (root := root) c2 ns.length 0 (by omega)
    have st : ∀ b, Ev (fun k => impl_IsDiagram.l0 k ns (ns.length : Int) ((0 : Nat) : Int) n ns root) b → Ev (fun k => impl_IsDiagram.f k n ns root) b := fun b h => by
      unfold impl_IsDiagram.f
      rw [wrap_id (x := 1 + (ns.length : Int)) (by omega) (by omega)]
      refine Ev.neg (by omega) (Ev.neg (by omega) (Ev.neg (by omega) (Ev.neg (by omega) (Ev.succ ?_))))
      simp only [impl_IsDiagram.j0]
      exact Ev.neg (by rw [decide_eq_true_eq]; omega) h
    obtain ⟨m0, hm0⟩ := Int.eq_ofNat_of_zero_le c1.1
    rcases specGood (n := n) (root := root) hb with ⟨m, f, hI, hf, hs⟩ | ⟨hn, hs⟩
    · have hv := same_iff hI.bnd (vs := tab f m) (fun x hx => by rw [tab_rd f hx]; exact (hf x).1)
      have fin : DRefs ns → Ev (fun k => impl_IsDiagram.l0 k ns (ns.length : Int) (ns.length : Int) n ns root) (decide (order ns root = rg ns.length)) := fun hR => by
        refine Ev.succ ?_
        simp only [impl_IsDiagram.l0]
        have ho : impl_visitOrder.f n ns root = some (order ns root) := by
          unfold impl_visitOrder.f
          rw [if_pos ⟨c2, hR, c3.1, by omega⟩]; rfl
        rw [ho]
        simp only [Option.bind_some]
        refine Ev.neg (by omega) ?_
        by_cases e : (order ns root).length = ns.length
        · refine Ev.pos (by omega) ?_
          rw [e]
          exact Ev.val (count_loop e (by omega) ns.length 0 (by omega)) (by simp)
        · refine Ev.neg (by omega) (Ev.val (Ev.now _) ?_)
          symm
          rw [decide_eq_false_iff_not]
          intro h
          exact e (by rw [h, rg_len])
      by_cases h : dbld (tab f m) m 0 0 [] = (ns, root)
      · obtain ⟨hS, hO⟩ := hv.1 h
        rw [decide_eq_true h] at hs
        refine .inl ⟨m, f, hI, hf, hS, hs, st _ (g2 ((ok_iff hI.n c3).2 ⟨hI.bnd, hS⟩) _ ?_)⟩
        exact Ev.val (fin hI.bnd.refs) (decide_eq_true hO)
      · rw [decide_eq_false h] at hs
        refine .inr ⟨hs, st _ ?_⟩
        by_cases hA : ∀ j, 0 ≤ j → j < ns.length → okI n ns j
        · obtain ⟨hB, hS⟩ := (ok_iff hI.n c3).1 hA
          refine g2 hA _ (Ev.val (fin hI.bnd.refs) ?_)
          rw [decide_eq_false_iff_not]
          exact fun hO => h (hv.2 ⟨hS, hO⟩)
        · simp only [Classical.not_forall] at hA
          obtain ⟨j, h1, h2, h3⟩ := hA
          exact g1 ⟨j, h1, h2, h3⟩
    · refine .inr ⟨hs, st _ (g1 ?_)⟩
      apply Classical.byContradiction
      intro hA
      refine hn ⟨m0, hm0, by omega, c2, ((ok_iff hm0 c3).1 (fun j h0 hj => ?_)).1⟩
      apply Classical.byContradiction
      exact fun h => hA ⟨j, h0, hj, h⟩
  · rcases specGood (n := n) (root := root) hb with ⟨m, f, hI, hf, hs⟩ | ⟨hn, hs⟩
    · exfalso
      refine c ⟨⟨by have := hI.n; omega, by have := hI.n; have := hI.four; omega⟩, hI.len, hI.bnd.lo, by have := hI.bnd.hi; omega⟩
    · refine .inr ⟨hs, ?_⟩
      unfold impl_IsDiagram.f
      rw [wrap_id (x := 1 + (ns.length : Int)) (by omega) (by omega)]
      refine Ev.split (fun _ => no _ rfl) (fun c1 => Ev.split (fun _ => no _ rfl) (fun c2 => Ev.split (fun _ => no _ rfl) (fun c3 => Ev.split (fun _ => no _ rfl) (fun c4 => no _ (decide_eq_true (by omega))))))
end Go.Proofs.YtfekgidcnidijaaDoor.Diag
