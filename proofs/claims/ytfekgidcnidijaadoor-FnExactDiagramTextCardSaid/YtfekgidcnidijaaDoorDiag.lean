/- The tests of a diagram: the reference's and the program's answer the same, whatever the diagram. -/
import Derived.Test.YtfekgidcnidijaaDoorDd
import Derived.Test.YtfekgidcnidijaaDoorBit
import Derived.Test.YtfekgidcnidijaaDoorPx0
import Derived.Test.YtfekgidcnidijaaDoorPx2
import Derived.Test.YtfekgidcnidijaaDoorPx3
namespace Go.Proofs.YtfekgidcnidijaaDoor.Diag
open Go.RowKit Go.Proofs.YtfekgidcnidijaaDoor.P Go.Proofs.YtfekgidcnidijaaDoor.Base Go.Proofs.YtfekgidcnidijaaDoor.Bit Go.Proofs.YtfekgidcnidijaaDoor.Nodes Go.Proofs.YtfekgidcnidijaaDoor.Dd Go.Proofs.YtfekgidcnidijaaDoorW.PrintWords Go.Proofs.YtfekgidcnidijaaDoorW.PrintLast Go.Proofs.YtfekgidcnidijaaDoorW.PrintMore
set_option linter.unusedVariables false
set_option linter.unusedSimpArgs false
theorem l1In (a b c : Int) : spec_l1In.f a b c = some (decide (b ≤ a ∧ a ≤ c)) := by
  unfold spec_l1In.f
  by_cases h : a ≥ b <;> simp [h]
theorem ttBit {x : Nat} (hx : x < 2 ^ 62) {i : Int} (h0 : 0 ≤ i) (h1 : i ≤ 4) : spec_ttBit.f (x : Int) i = some ((bitI x i : Nat) : Int) := by
  obtain ⟨j, rfl⟩ := Int.eq_ofNat_of_zero_le h0
  unfold spec_ttBit.f
  rw [wrapU (by omega) (by omega), bit_printed x j hx (by omega), if_pos (by omega)]
  simp [bit, bitI]
theorem at_node {ns : List Nd} (hl : ns.length ≤ 40) {r i l u : Int} (h : 1 < r) (e : ns[(r - 2).toNat]? = some ⟨i, l, u⟩) : wrap64 (r - 2) = r - 2 ∧ 0 ≤ r - 2 ∧ r - 2 < (ns.length : Int) ∧ rd_T86 ns (r - 2) = ⟨i, l, u⟩ := by
  obtain ⟨hj, e'⟩ := List.getElem?_eq_some_iff.1 e
  refine ⟨wrap_id (by omega) (by omega), by omega, by omega, ?_⟩
  have : r - 2 = (((r - 2).toNat : Nat) : Int) := by omega
  rw [this, rdN_get (by omega)]; exact e'
/-- A diagram within the bounds that both tests ask for. -/
structure In (m : Nat) (n root : Int) (ns : List Nd) : Prop where
  n : n = (m : Int)
  four : m ≤ 4
  len : ns.length ≤ 40
  bnd : Bnd m ns root
theorem value_loop {m : Nat} {n root : Int} {ns : List Nd} (hI : In m n root ns) {x : Nat} (hx : x < 2 ^ 62) {r v : Int} (h : Val ns x r v) : Ev (fun k => spec_ddValue.l0 k (x : Int) r n ns root) v := by
  have hl := hI.len
  have hf := hI.four
  induction h with
  | leaf h =>
    refine Ev.succ ?_
    simp only [spec_ddValue.l0]
    exact Ev.neg (by omega) (Ev.now _)
  | lo h e b hv ih =>
    obtain ⟨q1, q2, q3, q4⟩ := at_node hl h e
    have hi := hI.bnd.inp _ _ e
    simp only at hi
    refine Ev.succ ?_
    simp only [spec_ddValue.l0, q1, q4]
    rw [ttBit hx (by omega) (by omega), b]
    simp only [Option.bind_some]
    exact Ev.pos (by omega) (Ev.pos q2 (Ev.pos q3 (Ev.pos rfl ih)))
  | hi h e b hv ih =>
    obtain ⟨q1, q2, q3, q4⟩ := at_node hl h e
    have hi := hI.bnd.inp _ _ e
    simp only at hi
    refine Ev.succ ?_
    simp only [spec_ddValue.l0, q1, q4]
    rw [ttBit hx (by omega) (by omega)]
    simp only [Option.bind_some]
    exact Ev.pos (by omega) (Ev.pos q2 (Ev.pos q3 (Ev.neg (by omega) ih)))
/-- The values of a diagram, in the order of the indexes. -/
def tab (f : Nat → Int) (m : Nat) : List Int := (List.range (2 ^ m)).map f
theorem tab_len (f : Nat → Int) (m : Nat) : (tab f m).length = 2 ^ m := by simp [tab]
theorem tab_rd (f : Nat → Int) {m x : Nat} (h : x < 2 ^ m) : rd (tab f m) (x : Int) = f x := by
  rw [rd_get (by rw [tab_len]; exact h)]; simp [tab]
theorem pow16 {m : Nat} (h : m ≤ 4) : 1 ≤ 2 ^ m ∧ 2 ^ m ≤ 16 := ⟨Nat.one_le_two_pow, Nat.le_trans (Nat.pow_le_pow_right (by decide) h) (by decide)⟩
theorem values {m : Nat} {n root : Int} {ns : List Nd} (hI : In m n root ns) : ∃ f : Nat → Int, ∀ x, Val ns x root (f x) ∧ 0 ≤ f x ∧ f x ≤ 1 :=
  Classical.skolem.1 (fun x => val_some hI.bnd.refs x root.toNat root (Nat.le_refl _) hI.bnd.lo hI.bnd.hi)
theorem table_loop {m : Nat} {n root : Int} {ns : List Nd} (hI : In m n root ns) {f : Nat → Int} (hf : ∀ x, Val ns x root (f x) ∧ 0 ≤ f x ∧ f x ≤ 1) (d : Nat) : ∀ i : Nat, i + d = 2 ^ m → Ev (fun k => spec_ddTable.l0 k (i : Int) n ns root n ((List.range i).map f)) (n, tab f m) := by
  have hp := pow16 hI.four
  have hn := hI.n
  have hm := hI.four
  have e1 : shl .i64 1 (IntKind.u64.wrap n) = ((2 ^ m : Nat) : Int) := by
    rw [wrapU (by omega) (by omega), hn]; exact shl_one_nat m (by omega)
  induction d with
  | zero =>
    intro i hi
    refine Ev.succ ?_
    simp only [spec_ddTable.l0]
    rw [e1, wrapU (by omega) (by omega)]
    refine Ev.pos (by omega) (Ev.neg (by omega) (Ev.val (Ev.now _) ?_))
    rw [show i = 2 ^ m by omega]; rfl
  | succ d ih =>
    intro i hi
    refine Ev.succ ?_
    simp only [spec_ddTable.l0]
    rw [e1, wrapU (by omega) (by omega)]
    refine Ev.pos (by omega) (Ev.pos (by omega) (Ev.bind (value_loop hI (by omega) (hf i).1) (Ev.pos (by simp; omega) ?_)))
    rw [wrap_nat (by omega)]
    have := ih (i + 1) (by omega)
    rw [List.range_succ, List.map_append] at this
    exact this
theorem ddTable {m : Nat} {n root : Int} {ns : List Nd} (hI : In m n root ns) {f : Nat → Int} (hf : ∀ x, Val ns x root (f x) ∧ 0 ≤ f x ∧ f x ≤ 1) : Ev (fun k => spec_ddTable.f k n ns root) (n, tab f m) := by
  unfold spec_ddTable.f
  exact table_loop hI hf (2 ^ m) 0 (by omega)
theorem node_ne (x y : Nd) : ((!(x.f0 == y.f0) || (!(x.f1 == y.f1) || (!(x.f2 == y.f2)))) = true) ↔ x ≠ y := by
  obtain ⟨a, b, c⟩ := x
  obtain ⟨a', b', c'⟩ := y
  simp only [Bool.or_eq_true, Bool.not_eq_true', beq_eq_false_iff_ne, ne_eq]
  constructor
  · rintro h e
    cases e
    rcases h with h | h | h <;> exact h rfl
  · intro h
    by_cases h1 : a = a'
    · by_cases h2 : b = b'
      · exact .inr (.inr (fun h3 => h (by rw [h1, h2, h3])))
      · exact .inr (.inl h2)
    · exact .inl h1
theorem same_loop {n root : Int} {ns ms : List Nd} (hl : ns.length = ms.length) (hb : ns.length ≤ 1048576) (d : Nat) : ∀ i : Nat, i + d = ns.length → Ev (fun k => spec_ddSame.l0 k ns (ns.length : Int) (i : Int) n ms root) (decide (ms.drop i = ns.drop i)) := by
  induction d with
  | zero =>
    intro i hi
    refine Ev.succ ?_
    simp only [spec_ddSame.l0]
    refine Ev.neg (by omega) (Ev.val (Ev.now _) ?_)
    rw [List.drop_of_length_le (by omega), List.drop_of_length_le (by omega)]; simp
  | succ d ih =>
    intro i hi
    refine Ev.succ ?_
    simp only [spec_ddSame.l0]
    refine Ev.pos (by omega) (Ev.pos (by omega) (Ev.pos (by omega) (Ev.pos (by omega) ?_)))
    rw [wrap_nat (by omega), rdN_get (by omega), rdN_get (by omega), drop_cons (xs := ns) (by omega), drop_cons (xs := ms) (by omega)]
    by_cases e : ns[i] = ms[i]
    · refine Ev.neg (fun h => (node_ne _ _).1 h e) (Ev.val (ih (i + 1) (by omega)) ?_)
      rw [decide_eq_decide, e]
      exact ⟨fun h => by rw [h], fun h => (List.cons.inj h).2⟩
    · refine Ev.pos ((node_ne _ _).2 e) (Ev.val (Ev.now _) ?_)
      symm
      rw [decide_eq_false_iff_not]
      intro h
      injection h with h _
      exact e h.symm
theorem ddSame {n root r : Int} {ns ms : List Nd} (hb : ns.length ≤ 1048576) : Ev (fun k => spec_ddSame.f k n ns root n ms r) (decide ((ms, r) = (ns, root))) := by
  have no : (ms, r) ≠ (ns, root) → Ev (fun k => spec_ddSame.j0 k true n ns root n ms r) (decide ((ms, r) = (ns, root))) := fun h => by
    refine Ev.succ ?_
    simp only [spec_ddSame.j0]
    exact Ev.pos trivial (Ev.val (Ev.now _) (decide_eq_false h).symm)
  unfold spec_ddSame.f
  refine Ev.pos rfl (Ev.split (fun c => ?_) (fun c => no (fun h => c (by injection h with _ h; exact h.symm))))
  by_cases e : ns.length = ms.length
  · refine Ev.succ ?_
    simp only [spec_ddSame.j0]
    refine Ev.neg (by simp [e]) ?_
    refine Ev.val (same_loop e hb ns.length 0 (by omega)) ?_
    rw [decide_eq_decide, c]; simp
  · have h1 : ((ns.length : Int) != (ms.length : Int)) = true := by simp; omega
    rw [h1]
    exact no (fun h => e (by injection h with h _; rw [h]))
/-- What the reference asks of a node. -/
def okS (n : Int) (ns : List Nd) (j : Nat) : Prop := (0 ≤ (rd_T86 ns j).f0 ∧ (rd_T86 ns j).f0 ≤ n - 1) ∧ (0 ≤ (rd_T86 ns j).f1 ∧ (rd_T86 ns j).f1 ≤ j + 1) ∧ (0 ≤ (rd_T86 ns j).f2 ∧ (rd_T86 ns j).f2 ≤ j + 1)
instance (n : Int) (ns : List Nd) (j : Nat) : Decidable (okS n ns j) := by unfold okS; infer_instance
theorem good_loop {n root : Int} {ns : List Nd} (hn : 0 ≤ n ∧ n ≤ 4) (hb : ns.length ≤ 40) (d : Nat) : ∀ i : Nat, i + d = ns.length →
    ((∃ j, i ≤ j ∧ j < ns.length ∧ ¬ okS n ns j) → Ev (fun k => spec_ddGood.l0 k ns (ns.length : Int) (i : Int) n ns root) false) ∧
    ((∀ j, i ≤ j → j < ns.length → okS n ns j) → ∀ b, Ev (fun k => spec_ddGood.l0 k ns (ns.length : Int) (ns.length : Int) n ns root) b → Ev (fun k => spec_ddGood.l0 k ns (ns.length : Int) (i : Int) n ns root) b) := by
  have e1 : wrap64 (n - 1) = n - 1 := wrap_id (by omega) (by omega)
  induction d with
  | zero =>
    intro i hi
    refine ⟨fun ⟨j, h1, h2, _⟩ => by omega, fun _ b h => ?_⟩
    rw [show (i : Int) = (ns.length : Int) by omega]; exact h
  | succ d ih =>
    intro i hi
    obtain ⟨i1, i2⟩ := ih (i + 1) (by omega)
    have step : ∀ b, Ev (fun k => if okS n ns i then spec_ddGood.l0 k ns (ns.length : Int) ((i + 1 : Nat) : Int) n ns root else some false) b → Ev (fun k => spec_ddGood.l0 k ns (ns.length : Int) (i : Int) n ns root) b := fun b h => by
      refine Ev.succ ?_
      simp only [spec_ddGood.l0, l1In, Option.bind_some]
      refine Ev.pos (by omega) (Ev.pos (by omega) (Ev.pos (by omega) ?_))
      rw [wrap_nat (by omega), e1]
      have e2 : ((i + 1 : Nat) : Int) = (i : Int) + 1 := by omega
      by_cases c : okS n ns i
      · simp only [if_pos c] at h
        obtain ⟨c1, c2, c3⟩ := c
        rw [e2] at h ⊢
        exact Ev.pos (decide_eq_true c1) (Ev.pos (decide_eq_true c2) (Ev.pos (decide_eq_true c3) h))
      · simp only [if_neg c] at h
        rw [e2]
        by_cases c1 : 0 ≤ (rd_T86 ns i).f0 ∧ (rd_T86 ns i).f0 ≤ n - 1
        · refine Ev.pos (decide_eq_true c1) ?_
          by_cases c2 : 0 ≤ (rd_T86 ns i).f1 ∧ (rd_T86 ns i).f1 ≤ (i : Int) + 1
          · refine Ev.pos (decide_eq_true c2) (Ev.neg ?_ h)
            rw [decide_eq_true_eq]
            exact fun c3 => c ⟨c1, c2, c3⟩
          · exact Ev.neg (by rw [decide_eq_true_eq]; exact c2) h
        · exact Ev.neg (by rw [decide_eq_true_eq]; exact c1) h
    refine ⟨fun ⟨j, h1, h2, h3⟩ => step _ ?_, fun h b hb' => step _ ?_⟩
    · by_cases c : okS n ns i
      · simp only [if_pos c]
        refine i1 ⟨j, ?_, h2, h3⟩
        by_cases e : j = i
        · subst e; exact absurd c h3
        · omega
      · simp only [if_neg c]
        exact Ev.now _
    · simp only [if_pos (h i (Nat.le_refl _) (by omega))]
      exact i2 (fun j h1 h2 => h j (by omega) h2) b hb'
theorem bnd_of {m : Nat} {n root : Int} {ns : List Nd} (hn : n = (m : Int)) (hr : 0 ≤ root ∧ root ≤ (ns.length : Int) + 1) : Bnd m ns root ↔ ∀ j, 0 ≤ j → j < ns.length → okS n ns j := by
  constructor
  · intro h j _ hj
    have h1 := h.inp j ns[j] (List.getElem?_eq_getElem hj)
    have h2 := h.refs j hj
    unfold okS
    rw [rdN_get hj]
    omega
  · intro h
    refine ⟨fun j hj => ?_, fun j x e => ?_, hr.1, by omega⟩
    · have := h j (Nat.zero_le _) hj
      unfold okS at this
      rw [rdN_get hj] at this
      exact ⟨this.2.1.1, this.2.1.2, this.2.2.1, this.2.2.2⟩
    · obtain ⟨hj, e'⟩ := List.getElem?_eq_some_iff.1 e
      have := h j (Nat.zero_le _) hj
      unfold okS at this
      rw [rdN_get hj, e'] at this
      omega
/-- What the reference's test answers. -/
theorem specGood {n root : Int} {ns : List Nd} (hb : ns.length ≤ 1048576) : (∃ m f, In m n root ns ∧ (∀ x, Val ns x root (f x) ∧ 0 ≤ f x ∧ f x ≤ 1) ∧ Ev (fun k => spec_ddGood.f k n ns root) (decide (dbld (tab f m) m 0 0 [] = (ns, root)))) ∨
    ((¬ ∃ m, In m n root ns) ∧ Ev (fun k => spec_ddGood.f k n ns root) false) := by
  have no : ∀ b : Bool, b = true → Ev (fun k => spec_ddGood.j0 k b n ns root) false := by
    rintro b rfl
    refine Ev.succ ?_
    simp only [spec_ddGood.j0]
    exact Ev.pos trivial (Ev.now _)
  by_cases c1 : 0 ≤ n ∧ n ≤ 4
  · by_cases c2 : ns.length ≤ 40
    · have e1 : wrap64 ((ns.length : Int) + 1) = (ns.length : Int) + 1 := wrap_id (by omega) (by omega)
      by_cases c3 : 0 ≤ root ∧ root ≤ (ns.length : Int) + 1
      · have st : ∀ b, Ev (fun k => spec_ddGood.l0 k ns (ns.length : Int) ((0 : Nat) : Int) n ns root) b → Ev (fun k => spec_ddGood.f k n ns root) b := fun b h => by
          unfold spec_ddGood.f spec_ttInputs.f
          simp only [l1In, Option.bind_some]
          rw [e1]
          refine Ev.pos (decide_eq_true c1) (Ev.neg (by omega) ?_)
          rw [decide_eq_true c3]
          refine Ev.succ ?_
          simp only [spec_ddGood.j0]
          exact Ev.neg (by simp) h
        obtain ⟨g1, g2⟩ := good_loop (root := root) c1 c2 ns.length 0 (by omega)
        obtain ⟨m, hm⟩ := Int.eq_ofNat_of_zero_le c1.1
        by_cases c4 : ∀ j, 0 ≤ j → j < ns.length → okS n ns j
        · have hI : In m n root ns := ⟨hm, by omega, c2, (bnd_of hm c3).2 c4⟩
          obtain ⟨f, hf⟩ := values hI
          refine .inl ⟨m, f, hI, hf, st _ (g2 c4 _ ?_)⟩
          have hp := pow16 hI.four
          refine Ev.succ ?_
          simp only [spec_ddGood.l0]
          refine Ev.neg (by omega) (Ev.bind (ddTable hI hf) ?_)
          have hmk : spec_ddMake.f n (tab f m) = some (n, (dbld (tab f m) m 0 0 []).1, (dbld (tab f m) m 0 0 []).2) := by
            unfold spec_ddMake.f
            rw [if_pos ⟨c1.1, c1.2, by rw [tab_len, hm]; rfl⟩, hm]; rfl
          simp only [hmk, Option.bind_some]
          exact Ev.bind (ddSame hb) (Ev.now _)
        · refine .inr ⟨?_, st _ (g1 ?_)⟩
          · rintro ⟨m', hI⟩
            exact c4 ((bnd_of hI.n c3).1 hI.bnd)
          · simp only [Classical.not_forall] at c4
            obtain ⟨j, h1, h2, h3⟩ := c4
            exact ⟨j, h1, h2, h3⟩
      · refine .inr ⟨fun ⟨m, hI⟩ => c3 ⟨hI.bnd.lo, by have := hI.bnd.hi; omega⟩, ?_⟩
        unfold spec_ddGood.f spec_ttInputs.f
        simp only [l1In, Option.bind_some]
        rw [e1]
        exact Ev.pos (decide_eq_true c1) (Ev.neg (by omega) (no _ (by rw [decide_eq_false c3]; rfl)))
    · refine .inr ⟨fun ⟨m, hI⟩ => c2 hI.len, ?_⟩
      unfold spec_ddGood.f spec_ttInputs.f
      simp only [l1In, Option.bind_some]
      exact Ev.pos (decide_eq_true c1) (Ev.pos (by omega) (no _ rfl))
  · refine .inr ⟨fun ⟨m, hI⟩ => c1 ⟨by have := hI.n; omega, by have := hI.n; have := hI.four; omega⟩, ?_⟩
    unfold spec_ddGood.f spec_ttInputs.f
    simp only [l1In, Option.bind_some]
    exact Ev.neg (by rw [decide_eq_true_eq]; exact c1) (no _ rfl)
end Go.Proofs.YtfekgidcnidijaaDoor.Diag
