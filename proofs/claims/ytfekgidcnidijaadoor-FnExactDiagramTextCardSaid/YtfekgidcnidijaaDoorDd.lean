/- Decision diagrams: a diagram is valid exactly when it is the one that is made of its table. No program in sight, save the pure functions of the builder and of the visit. -/
import Derived.Test.YtfekgidcnidijaaDoorNodes
import Derived.Test.YtfekgidcnidijaaDoorPx0
import Derived.Test.YtfekgidcnidijaaDoorPx2
import Derived.Test.YtfekgidcnidijaaDoorPx4
namespace Go.Proofs.YtfekgidcnidijaaDoor.Dd
open Go.RowKit Go.Proofs.YtfekgidcnidijaaDoor.P Go.Proofs.YtfekgidcnidijaaDoor.Base Go.Proofs.YtfekgidcnidijaaDoor.Nodes Go.Proofs.YtfekgidcnidijaaDoorW.PrintWords Go.Proofs.YtfekgidcnidijaaDoorW.PrintLast Go.Proofs.YtfekgidcnidijaaDoorW.PrintMore
set_option linter.unusedVariables false
set_option linter.unusedSimpArgs false
abbrev mkF := spec_ddMake.f
abbrev orderF := impl_visitOrder.f
theorem place_lt {x : Nd} : ∀ {ns : List Nd}, x ∈ ns → dplace x ns < ns.length
  | y :: t, h => by
    simp only [dplace]
    split
    · simp
    · rename_i c
      have := place_lt (List.mem_of_ne_of_mem c h)
      simpa using this
theorem place_at {x : Nd} : ∀ {ns : List Nd}, x ∈ ns → ns[dplace x ns]? = some x
  | y :: t, h => by
    simp only [dplace]
    split
    · rename_i c; simp [c]
    · rename_i c
      simpa using place_at (List.mem_of_ne_of_mem c h)
/-- The bit of an index at an input. -/
def bitI (x : Nat) (i : Int) : Nat := x / 2 ^ i.toNat % 2
/-- The value that a reference has at an index. -/
inductive Val (ns : List Nd) (x : Nat) : Int → Int → Prop
  | leaf {r : Int} : r ≤ 1 → Val ns x r r
  | lo {r i l h v : Int} : 1 < r → ns[(r - 2).toNat]? = some ⟨i, l, h⟩ → bitI x i = 0 → Val ns x l v → Val ns x r v
  | hi {r i l h v : Int} : 1 < r → ns[(r - 2).toNat]? = some ⟨i, l, h⟩ → bitI x i ≠ 0 → Val ns x h v → Val ns x r v
theorem refs_at {ns : List Nd} (h : DRefs ns) {j : Nat} {i l u : Int} (e : ns[j]? = some ⟨i, l, u⟩) : 0 ≤ l ∧ l ≤ j + 1 ∧ 0 ≤ u ∧ u ≤ j + 1 := by
  obtain ⟨hj, e'⟩ := List.getElem?_eq_some_iff.1 e
  have := h j hj
  rw [e'] at this
  exact this
theorem val_some {ns : List Nd} (hR : DRefs ns) (x : Nat) : ∀ (m : Nat) (r : Int), r.toNat ≤ m → 0 ≤ r → r < 2 + (ns.length : Int) → ∃ v, Val ns x r v ∧ 0 ≤ v ∧ v ≤ 1
  | 0, r, hm, h0, _ => ⟨r, .leaf (by omega), h0, by omega⟩
  | m + 1, r, hm, h0, h1 => by
    by_cases c : r ≤ 1
    · exact ⟨r, .leaf c, h0, c⟩
    have hj : (r - 2).toNat < ns.length := by omega
    have e : ns[(r - 2).toNat]? = some ⟨ns[(r - 2).toNat].f0, ns[(r - 2).toNat].f1, ns[(r - 2).toNat].f2⟩ := List.getElem?_eq_getElem hj
    have hr := refs_at hR e
    by_cases b : bitI x ns[(r - 2).toNat].f0 = 0
    · obtain ⟨v, h, q⟩ := val_some hR x m ns[(r - 2).toNat].f1 (by omega) (by omega) (by omega)
      exact ⟨v, .lo (by omega) e b h, q⟩
    · obtain ⟨v, h, q⟩ := val_some hR x m ns[(r - 2).toNat].f2 (by omega) (by omega) (by omega)
      exact ⟨v, .hi (by omega) e b h, q⟩
theorem Val.low {ns : List Nd} {x : Nat} {r v : Int} (h : Val ns x r v) (c : r < 2) : v = r := by
  cases h with
  | leaf _ => rfl
  | lo h => omega
  | hi h => omega
theorem Val.inv {ns : List Nd} {x : Nat} {r v i l u : Int} (h : Val ns x r v) (c : 2 ≤ r) (e : ns[(r - 2).toNat]? = some ⟨i, l, u⟩) : bitI x i = 0 ∧ Val ns x l v ∨ bitI x i ≠ 0 ∧ Val ns x u v := by
  cases h with
  | leaf h => omega
  | lo h1 h2 h3 h4 => rw [e] at h2; cases h2; exact .inl ⟨h3, h4⟩
  | hi h1 h2 h3 h4 => rw [e] at h2; cases h2; exact .inr ⟨h3, h4⟩
/-- A visit: from the first k nodes met to the first k'. -/
inductive Vis (ns : List Nd) : Int → Nat → Nat → Prop
  | done {r : Int} {k : Nat} : r < 2 + (k : Int) → Vis ns r k k
  | new {j k k1 : Nat} {i l h : Int} : k ≤ j → ns[j]? = some ⟨i, l, h⟩ → Vis ns l k k1 → Vis ns h k1 j → Vis ns (2 + (j : Int)) k (j + 1)
theorem Vis.le {ns : List Nd} {r : Int} {k k' : Nat} (h : Vis ns r k k') : k ≤ k' ∧ r < 2 + (k' : Int) := by
  induction h with
  | done h => exact ⟨Nat.le_refl _, h⟩
  | new h1 h2 h3 h4 ih1 ih2 => exact ⟨by omega, by omega⟩
theorem Vis.same {ns : List Nd} {r : Int} {k k' : Nat} (h : Vis ns r k k') (h' : r < 2 + (k : Int)) : k' = k := by
  cases h with
  | done _ => rfl
  | new h1 => omega
theorem Vis.inv {ns : List Nd} {j k k' : Nat} {i l u : Int} (h : Vis ns (2 + (j : Int)) k k') (hk : k ≤ j) (e : ns[j]? = some ⟨i, l, u⟩) : ∃ k1, Vis ns l k k1 ∧ Vis ns u k1 j ∧ k' = j + 1 := by
  generalize er : 2 + (j : Int) = r at h
  cases h with
  | done h => omega
  | @new j' k1 _ _ _ _ h1 h2 h3 h4 =>
    have : j = j' := by omega
    subst this
    rw [e] at h2; cases h2
    exact ⟨_, h3, h4, rfl⟩
theorem Vis.more {ns ms : List Nd} (hp : ∀ (j : Nat) (x : Nd), ns[j]? = some x → ms[j]? = some x) {r : Int} {k k' : Nat} (h : Vis ns r k k') : Vis ms r k k' := by
  induction h with
  | done h => exact .done h
  | new h1 h2 h3 h4 ih1 ih2 => exact .new h1 (hp _ _ h2) ih1 ih2
theorem pre_at {α : Type} {ns ms : List α} (h : ns <+: ms) : ∀ (j : Nat) (x : α), ns[j]? = some x → ms[j]? = some x := by
  obtain ⟨t, rfl⟩ := h
  intro j x e
  obtain ⟨hj, e'⟩ := List.getElem?_eq_some_iff.1 e
  rw [List.getElem?_append_left hj]; exact e
/-! what a valid diagram is -/
/-- The lower references have later inputs. -/
def lev (ns : List Nd) (i r : Int) : Prop := r < 2 ∨ ∀ x : Nd, ns[(r - 2).toNat]? = some x → i < x.f0
structure Struct (n : Nat) (ns : List Nd) : Prop where
  inp : ∀ (j : Nat) (x : Nd), ns[j]? = some x → 0 ≤ x.f0 ∧ x.f0 < n
  ne : ∀ (j : Nat) (x : Nd), ns[j]? = some x → x.f1 ≠ x.f2
  lev : ∀ (j : Nat) (x : Nd), ns[j]? = some x → lev ns x.f0 x.f1 ∧ lev ns x.f0 x.f2
  own : ∀ (j k : Nat) (x : Nd), ns[j]? = some x → ns[k]? = some x → j = k
theorem bitI_lt (x : Nat) (i : Nat) : x / 2 ^ i % 2 < 2 := Nat.mod_lt _ (by decide)
theorem mod_next (x i : Nat) : x % 2 ^ (i + 1) = x % 2 ^ i + 2 ^ i * (x / 2 ^ i % 2) := by
  rw [Nat.pow_succ, Nat.mod_mul]
theorem place_take {ns : List Nd} {x : Nd} {j k : Nat} (hj : ns[j]? = some x) (own : ∀ (j k : Nat) (x : Nd), ns[j]? = some x → ns[k]? = some x → j = k) (hk : j < k) : x ∈ ns.take k ∧ dplace x (ns.take k) = j := by
  have e : (ns.take k)[j]? = some x := by rw [List.getElem?_take_of_lt hk]; exact hj
  have hm : x ∈ ns.take k := List.mem_of_getElem? e
  refine ⟨hm, ?_⟩
  have h1 := place_at hm
  have h2 := place_lt hm
  rw [List.getElem?_take_of_lt (by rw [List.length_take] at h2; omega)] at h1
  exact own _ _ _ h1 hj
/-- A valid diagram is made again out of its table. -/
theorem sim {n : Nat} {ns : List Nd} {vs : List Int} (hS : Struct n ns) (hR : DRefs ns) : ∀ (d i f : Nat) (r : Int) (k k' : Nat), i + d = n → f < 2 ^ i → Vis ns r k k' → 0 ≤ r → r < 2 + (ns.length : Int) → (r < 2 ∨ ∀ x : Nd, ns[(r - 2).toNat]? = some x → (i : Int) ≤ x.f0) →
    (∀ x : Nat, x < 2 ^ n → x % 2 ^ i = f → Val ns x r (rd vs (x : Int))) → dbld vs d i f (ns.take k) = (ns.take k', r) := by
  intro d
  induction d with
  | zero =>
    intro i f r k k' hi hf hv h0 h1 hl ht
    have hr : r < 2 := by
      rcases hl with h | h
      · exact h
      · apply Classical.byContradiction
        intro c
        have hj : (r - 2).toNat < ns.length := by omega
        have e := List.getElem?_eq_getElem hj
        have := h _ e
        have := (hS.inp _ _ e).2
        omega
    have hk : k' = k := hv.same (by omega)
    obtain rfl : i = n := by omega
    have := ht f hf (Nat.mod_eq_of_lt hf)
    simp only [dbld, hk, this.low hr]
  | succ d ih =>
    intro i f r k k' hi hf hv h0 h1 hl ht
    have hp : (2 : Nat) ^ (i + 1) = 2 ^ i + 2 ^ i := by rw [Nat.pow_succ]; omega
    have ha : ∀ x, x % 2 ^ (i + 1) = f → x % 2 ^ i = f ∧ x / 2 ^ i % 2 = 0 := fun x hx => by
      have := mod_next x i
      have h2 := bitI_lt x i
      have h3 := Nat.mod_lt x (Nat.two_pow_pos i)
      rcases (by omega : x / 2 ^ i % 2 = 0 ∨ x / 2 ^ i % 2 = 1) with e | e
      · rw [e] at this; exact ⟨by omega, e⟩
      · rw [e] at this; omega
    have hb : ∀ x, x % 2 ^ (i + 1) = f + 2 ^ i → x % 2 ^ i = f ∧ x / 2 ^ i % 2 ≠ 0 := fun x hx => by
      have := mod_next x i
      have h2 := bitI_lt x i
      have h3 := Nat.mod_lt x (Nat.two_pow_pos i)
      rcases (by omega : x / 2 ^ i % 2 = 0 ∨ x / 2 ^ i % 2 = 1) with e | e
      · rw [e] at this; omega
      · rw [e] at this; exact ⟨by omega, by omega⟩
    by_cases c : r < 2 ∨ ∀ x : Nd, ns[(r - 2).toNat]? = some x → (i : Int) < x.f0
    · -- the input is passed over
      have hl' : r < 2 ∨ ∀ x : Nd, ns[(r - 2).toNat]? = some x → ((i + 1 : Nat) : Int) ≤ x.f0 := by
        rcases c with c | c
        · exact .inl c
        · exact .inr fun x hx => by have := c x hx; omega
      have q1 := ih (i + 1) f r k k' (by omega) (by omega) hv h0 h1 hl' (fun x hx hm => ht x hx (ha x hm).1)
      have q2 := ih (i + 1) (f + 2 ^ i) r k' k' (by omega) (by omega) (.done hv.le.2) h0 h1 hl' (fun x hx hm => ht x hx (hb x hm).1)
      simp only [dbld, q1, q2, dnode, if_true]
    · have c1 : 2 ≤ r := by omega
      have hj : (r - 2).toNat < ns.length := by omega
      obtain ⟨j, ej⟩ : ∃ j : Nat, r = 2 + (j : Int) := ⟨(r - 2).toNat, by omega⟩
      subst ej
      have e2 : (2 + (j : Int) - 2).toNat = j := by omega
      rw [e2] at hl c hj
      obtain ⟨⟨i', l, u⟩, e⟩ : ∃ x, ns[j]? = some x := ⟨_, List.getElem?_eq_getElem hj⟩
      have hi' : i' = i := by
        have q1 : (i : Int) ≤ i' := by
          rcases hl with h | h
          · omega
          · exact h _ e
        have q2 : ¬ (i : Int) < i' := fun q => c (.inr fun x hx => by rw [e] at hx; cases hx; exact q)
        omega
      subst hi'
      have hr := refs_at hR e
      have hne := hS.ne _ _ e
      have hlv := hS.lev _ _ e
      have hc : ∀ t : Int, lev ns i t → t < 2 ∨ ∀ x : Nd, ns[(t - 2).toNat]? = some x → ((i + 1 : Nat) : Int) ≤ x.f0 := fun t h => by
        rcases h with h | h
        · exact .inl h
        · exact .inr fun x hx => by have := h x hx; omega
      have tl : ∀ x : Nat, x < 2 ^ n → x % 2 ^ (i + 1) = f → Val ns x l (rd vs (x : Int)) := fun x hx hm => by
        have q := ha x hm
        rcases (ht x hx q.1).inv c1 (by rw [e2]; exact e) with h | h
        · exact h.2
        · exact absurd q.2 (by simpa [bitI] using h.1)
      have tu : ∀ x : Nat, x < 2 ^ n → x % 2 ^ (i + 1) = f + 2 ^ i → Val ns x u (rd vs (x : Int)) := fun x hx hm => by
        have q := hb x hm
        rcases (ht x hx q.1).inv c1 (by rw [e2]; exact e) with h | h
        · exact absurd (by simpa [bitI] using h.1) q.2
        · exact h.2
      have go : ∀ k1 k2, Vis ns l k k1 → Vis ns u k1 k2 → dbld vs (d + 1) i f (ns.take k) = dnode (ns.take k2) (⟨i, l, u⟩ : Nd) := fun k1 k2 v1 v2 => by
        have q1 := ih (i + 1) f l k k1 (by omega) (by omega) v1 hr.1 (by omega) (hc l hlv.1) tl
        have q2 := ih (i + 1) (f + 2 ^ i) u k1 k2 (by omega) (by omega) v2 hr.2.2.1 (by omega) (hc u hlv.2) tu
        simp only [dbld, q1, q2]
      by_cases hk : j < k
      · have : k' = k := hv.same (by omega)
        rw [go k k (.done (by omega)) (.done (by omega)), this]
        have p := place_take e hS.own hk
        simp only [dnode, if_neg hne, if_pos p.1, p.2]
      · have key : ∃ k1, Vis ns l k k1 ∧ Vis ns u k1 j ∧ k' = j + 1 := by
          exact hv.inv (by omega) e
        obtain ⟨k1, v1, v2, rfl⟩ := key
        rw [go k1 j v1 v2]
        have hn : (⟨(i : Int), l, u⟩ : Nd) ∉ ns.take j := fun hm => by
          obtain ⟨a, ha', e'⟩ := List.getElem_of_mem hm
          rw [List.length_take] at ha'
          have : ns[a]? = some ⟨(i : Int), l, u⟩ := by
            rw [List.getElem_take] at e'
            rw [← e']; exact List.getElem?_eq_getElem (by omega)
          have := hS.own _ _ _ this e
          omega
        obtain ⟨hj', ej⟩ := List.getElem?_eq_some_iff.1 e
        simp only [dnode, if_neg hne, if_neg hn]
        rw [List.take_succ_eq_append_getElem hj', ej, List.length_take]
        simp; omega
/-! what is made is valid -/
structure Made (n i : Nat) (ns ms : List Nd) (r : Int) : Prop where
  str : Struct n ms
  refs : DRefs ms
  pre : ns <+: ms
  lo : 0 ≤ r
  hi : r < 2 + (ms.length : Int)
  lv : r < 2 ∨ ∀ x : Nd, ms[(r - 2).toNat]? = some x → (i : Int) ≤ x.f0
  new : ∀ (j : Nat) (x : Nd), ns.length ≤ j → ms[j]? = some x → (i : Int) ≤ x.f0
  vis : Vis ms r ns.length ms.length
theorem made {n : Nat} {vs : List Int} (hb : ∀ f : Nat, f < 2 ^ n → 0 ≤ rd vs (f : Int) ∧ rd vs (f : Int) ≤ 1) : ∀ (d i f : Nat) (ns : List Nd), i + d = n → f < 2 ^ i → Struct n ns → DRefs ns → Made n i ns (dbld vs d i f ns).1 (dbld vs d i f ns).2 := by
  intro d
  induction d with
  | zero =>
    intro i f ns hi hf hS hR
    obtain rfl : i = n := by omega
    have := hb f hf
    simp only [dbld]
    exact ⟨hS, hR, List.prefix_refl _, this.1, by omega, .inl (by omega), fun j x h e => by obtain ⟨h', _⟩ := List.getElem?_eq_some_iff.1 e; omega, .done (by omega)⟩
  | succ d ih =>
    intro i f ns hi hf hS hR
    have hp : (2 : Nat) ^ (i + 1) = 2 ^ i + 2 ^ i := by rw [Nat.pow_succ]; omega
    have A := ih (i + 1) f ns (by omega) (by omega) hS hR
    have B := ih (i + 1) (f + 2 ^ i) (dbld vs d (i + 1) f ns).1 (by omega) (by omega) A.str A.refs
    simp only [dbld]
    generalize (dbld vs d (i + 1) f ns).2 = l at *
    generalize (dbld vs d (i + 1) f ns).1 = n1 at *
    generalize (dbld vs d (i + 1) (f + 2 ^ i) n1).2 = u at *
    generalize (dbld vs d (i + 1) (f + 2 ^ i) n1).1 = n2 at *
    have hl1 := A.pre.length_le
    have hl2 := B.pre.length_le
    have hnew : ∀ (j : Nat) (x : Nd), ns.length ≤ j → n2[j]? = some x → ((i + 1 : Nat) : Int) ≤ x.f0 := fun j x hj e => by
      by_cases c : j < n1.length
      · have e1 : n1[j]? = some n1[j] := List.getElem?_eq_getElem c
        have := pre_at B.pre _ _ e1
        rw [e] at this; cases this
        exact A.new _ _ hj e1
      · exact B.new _ _ (by omega) e
    have hlv : ∀ (t : Int), (t < 2 ∨ ∀ x : Nd, n2[(t - 2).toNat]? = some x → ((i + 1 : Nat) : Int) ≤ x.f0) → lev n2 i t := fun t h => by
      rcases h with h | h
      · exact .inl h
      · exact .inr fun x hx => by have := h x hx; omega
    have ll : l < 2 ∨ ∀ x : Nd, n2[(l - 2).toNat]? = some x → ((i + 1 : Nat) : Int) ≤ x.f0 := by
      rcases A.lv with h | h
      · exact .inl h
      · by_cases c : l < 2
        · exact .inl c
        · refine .inr fun x hx => ?_
          have hh := A.hi
          have e1 : n1[(l - 2).toNat]? = some n1[(l - 2).toNat] := List.getElem?_eq_getElem (by omega)
          have := pre_at B.pre _ _ e1
          rw [hx] at this; cases this
          exact h _ e1
    have vl : Vis n2 l ns.length n1.length := A.vis.more (pre_at B.pre)
    have weak : ∀ (t : Int), (t < 2 ∨ ∀ x : Nd, n2[(t - 2).toNat]? = some x → ((i + 1 : Nat) : Int) ≤ x.f0) → (t < 2 ∨ ∀ x : Nd, n2[(t - 2).toNat]? = some x → (i : Int) ≤ x.f0) := fun t h => by
      rcases h with h | h
      · exact .inl h
      · exact .inr fun x hx => by have := h x hx; omega
    have hA := A.hi
    have hA0 := A.lo
    have hB := B.hi
    have hB0 := B.lo
    unfold dnode
    by_cases c1 : l = u
    · simp only [if_pos c1]
      subst c1
      have e := B.vis.same hA
      refine ⟨B.str, B.refs, A.pre.trans B.pre, hA0, by omega, weak _ ll, fun j x hj e => by have := hnew j x hj e; omega, ?_⟩
      rw [e]; exact vl
    · simp only [if_neg c1]
      by_cases c2 : (⟨(i : Int), l, u⟩ : Nd) ∈ n2
      · simp only [if_pos c2]
        have p1 := place_at c2
        have p2 := place_lt c2
        generalize dplace ⟨i, l, u⟩ n2 = j at *
        have hr : 0 ≤ l ∧ l ≤ (j : Int) + 1 ∧ 0 ≤ u ∧ u ≤ (j : Int) + 1 := refs_at B.refs p1
        have hj : j < ns.length := by
          apply Classical.byContradiction
          intro h
          have := hnew j _ (by omega) p1
          simp only at this
          omega
        have e1 := vl.same (by omega)
        have e2 := B.vis.same (by omega)
        refine ⟨B.str, B.refs, A.pre.trans B.pre, by omega, by omega, .inr fun x hx => ?_, fun j x hj e => by have := hnew j x hj e; omega, ?_⟩
        · rw [show (2 + (j : Int) - 2).toNat = j by omega, p1] at hx
          cases hx; simp
        · rw [e2, e1]; exact .done (by omega)
      · simp only [if_neg c2]
        have at_ : ∀ (j : Nat) (x : Nd), (n2 ++ [(⟨(i : Int), l, u⟩ : Nd)])[j]? = some x → n2[j]? = some x ∨ j = n2.length ∧ x = (⟨(i : Int), l, u⟩ : Nd) := fun j x e => by
          by_cases h : j < n2.length
          · rw [List.getElem?_append_left h] at e; exact .inl e
          · obtain ⟨h', e'⟩ := List.getElem?_eq_some_iff.1 e
            simp at h'
            have : j = n2.length := by omega
            subst this
            simp at e
            exact .inr ⟨rfl, e.symm⟩
        have lift : ∀ i' t : Int, t < 2 + (n2.length : Int) → lev n2 i' t → lev (n2 ++ [(⟨(i : Int), l, u⟩ : Nd)]) i' t := fun i' t ht h => by
          rcases h with h | h
          · exact .inl h
          · by_cases c : t < 2
            · exact .inl c
            · refine .inr fun x hx => h x ?_
              rcases at_ _ _ hx with q | ⟨q, _⟩
              · exact q
              · omega
        refine ⟨⟨?_, ?_, ?_, ?_⟩, ?_, (A.pre.trans B.pre).trans (List.prefix_append _ _), by omega, by simp; omega, .inr ?_, ?_, ?_⟩
        · intro j x e
          rcases at_ _ _ e with q | ⟨_, rfl⟩
          · exact B.str.inp _ _ q
          · simp only; omega
        · intro j x e
          rcases at_ _ _ e with q | ⟨_, rfl⟩
          · exact B.str.ne _ _ q
          · exact c1
        · intro j x e
          rcases at_ _ _ e with q | ⟨_, rfl⟩
          · have := B.str.lev _ _ q
            obtain ⟨hj, _⟩ := List.getElem?_eq_some_iff.1 q
            have hr := refs_at B.refs (i := x.f0) (l := x.f1) (u := x.f2) q
            exact ⟨lift x.f0 x.f1 (by omega) this.1, lift x.f0 x.f2 (by omega) this.2⟩
          · exact ⟨lift i l (by omega) (hlv _ ll), lift i u (by omega) (hlv _ B.lv)⟩
        · intro j k x e e'
          rcases at_ _ _ e with q | ⟨q, hx⟩ <;> rcases at_ _ _ e' with q' | ⟨q', hx'⟩
          · exact B.str.own _ _ _ q q'
          · subst hx'; exact absurd (List.mem_of_getElem? q) c2
          · subst hx; exact absurd (List.mem_of_getElem? q') c2
          · omega
        · intro j hj
          rcases at_ j _ (List.getElem?_eq_getElem hj) with q | ⟨q, hx⟩
          · exact refs_at B.refs (i := (n2 ++ [(⟨(i : Int), l, u⟩ : Nd)])[j].1) q
          · rw [hx]; simp only; omega
        · intro x hx
          rcases at_ _ _ hx with q | ⟨_, rfl⟩
          · obtain ⟨h', _⟩ := List.getElem?_eq_some_iff.1 q; omega
          · exact Int.le_refl _
        · intro j x hj e
          rcases at_ _ _ e with q | ⟨_, rfl⟩
          · have := hnew j x hj q; omega
          · exact Int.le_refl _
        · rw [List.length_append]
          exact .new (i := (i : Int)) (l := l) (h := u) (by omega) (by simp) (vl.more (pre_at (List.prefix_append _ _))) (B.vis.more (pre_at (List.prefix_append _ _)))
def rg (m : Nat) : List Int := (List.range m).map fun (j : Nat) => (j : Int)
theorem rg_len (m : Nat) : (rg m).length = m := by simp [rg]
theorem rg_at {m j : Nat} {x : Int} (h : (rg m)[j]? = some x) : x = j := by
  simp only [rg, List.getElem?_map] at h
  cases e : (List.range m)[j]? with
  | none => rw [e] at h; cases h
  | some y =>
    rw [e] at h; cases h
    obtain ⟨h1, h2⟩ := List.getElem?_eq_some_iff.1 e
    simp at h2; rw [h2]
theorem rg_succ (m : Nat) : rg (m + 1) = rg m ++ [(m : Int)] := by simp [rg, List.range_succ]
theorem dvst_succ (ns : List Nd) (q : Nat) (r : Int) (s : List Bool × List Int) : dvst ns (q + 1) r s = if r < 2 ∨ s.1.getD (r - 2).toNat false = true then s else
    ((dvst ns q (ns.getD (r - 2).toNat z86).f2 (dvst ns q (ns.getD (r - 2).toNat z86).f1 (s.1.set (r - 2).toNat true, s.2))).1,
      (dvst ns q (ns.getD (r - 2).toNat z86).f2 (dvst ns q (ns.getD (r - 2).toNat z86).f1 (s.1.set (r - 2).toNat true, s.2))).2 ++ [r - 2]) := rfl
theorem vst_pre (ns : List Nd) : ∀ k r s, s.2 <+: (dvst ns k r s).2
  | 0, _, _ => List.prefix_refl _
  | k + 1, r, s => by
    simp only [dvst]
    split
    · exact List.prefix_refl _
    · exact ((vst_pre ns k _ (s.1.set (r - 2).toNat true, s.2)).trans (vst_pre ns k _ _)).trans (List.prefix_append _ _)
theorem getD_set (S : List Bool) (i j : Nat) (h : i < S.length) : (S.set i true).getD j false = (decide (i = j) || S.getD j false) := by
  by_cases e : i = j
  · subst e; simp [List.getD, h]
  · simp [List.getD, e]
/-- What the marks say when k nodes are numbered. -/
structure Marks (k : Nat) (r : Int) (S : List Bool) : Prop where
  yes : ∀ j : Nat, j < k → S.getD j false = true
  no : ∀ j : Nat, (j : Int) + 2 ≤ r → S.getD j false = true → j < k
structure Went (k' : Nat) (S S' : List Bool) : Prop where
  yes : ∀ j : Nat, j < k' → S'.getD j false = true
  from_ : ∀ j : Nat, S'.getD j false = true → S.getD j false = true ∨ j < k'
  keep : ∀ j : Nat, S.getD j false = true → S'.getD j false = true
theorem Marks.first {k j : Nat} {r l : Int} {S : List Bool} (h : Marks k r S) (hr : r = 2 + (j : Int)) (hj : j < S.length) (hl : l ≤ j + 1) : Marks k l (S.set j true) :=
  ⟨fun i hi => by rw [getD_set _ _ _ hj, h.yes i hi]; simp, fun i hi e => by
    rw [getD_set _ _ _ hj] at e
    have : ¬ j = i := by omega
    simp only [this, decide_false, Bool.false_or] at e
    exact h.no i (by omega) e⟩
theorem Marks.next {k k1 j : Nat} {r u : Int} {S S1 : List Bool} (h : Marks k r S) (hr : r = 2 + (j : Int)) (hj : j < S.length) (hu : u ≤ j + 1) (hk : k ≤ k1) (w : Went k1 (S.set j true) S1) : Marks k1 u S1 :=
  ⟨w.yes, fun i hi e => by
    rcases w.from_ i e with q | q
    · rw [getD_set _ _ _ hj] at q
      have : ¬ j = i := by omega
      simp only [this, decide_false, Bool.false_or] at q
      have := h.no i (by omega) q
      omega
    · exact q⟩
theorem Went.last {k1 j : Nat} {S S1 S2 : List Bool} (hj : j < S.length) (w : Went k1 (S.set j true) S1) (w2 : Went j S1 S2) (hk : k1 ≤ j) : Went (j + 1) S S2 :=
  ⟨fun i hi => by
    by_cases e : i = j
    · subst e
      exact w2.keep i (w.keep i (by rw [getD_set _ _ _ hj]; simp))
    · exact w2.yes i (by omega),
   fun i e => by
    rcases w2.from_ i e with q | q
    · rcases w.from_ i q with q | q
      · rw [getD_set _ _ _ hj] at q
        by_cases e : j = i
        · exact .inr (by omega)
        · simp only [e, decide_false, Bool.false_or] at q; exact .inl q
      · exact .inr (by omega)
    · exact .inr (by omega),
   fun i e => w2.keep i (w.keep i (by rw [getD_set _ _ _ hj, e]; simp))⟩
/-- An order that comes out as 0, 1, .. was a visit in the order of the numbers. -/
theorem vst_vis {ns : List Nd} (hR : DRefs ns) (m : Nat) : ∀ (q : Nat) (r : Int) (S : List Bool) (k : Nat), r.toNat < q → r < 2 + (ns.length : Int) → S.length = ns.length → Marks k r S → (dvst ns q r (S, rg k)).2 <+: rg m →
    ∃ k', Vis ns r k k' ∧ (dvst ns q r (S, rg k)).2 = rg k' ∧ Went k' S (dvst ns q r (S, rg k)).1
  | 0, r, S, k, h, _, _, _, _ => by omega
  | q + 1, r, S, k, h, h1, hl, hm, hp => by
    by_cases c : r < 2 ∨ S.getD (r - 2).toNat false = true
    · have e : dvst ns (q + 1) r (S, rg k) = (S, rg k) := by simp only [dvst_succ, if_pos c]
      rw [e]
      refine ⟨k, .done ?_, rfl, hm.yes, fun j => .inl, fun j => id⟩
      rcases c with c | c
      · omega
      · by_cases c1 : r < 2
        · omega
        · have := hm.no _ (by omega) c
          omega
    · obtain ⟨j, ej⟩ : ∃ j : Nat, r = 2 + (j : Int) := ⟨(r - 2).toNat, by omega⟩
      have e2 : (r - 2).toNat = j := by omega
      have hj : j < ns.length := by omega
      have hjS : j < S.length := by omega
      obtain ⟨⟨i, l, u⟩, e⟩ : ∃ x, ns[j]? = some x := ⟨_, List.getElem?_eq_getElem hj⟩
      have eD : ns.getD j z86 = (⟨i, l, u⟩ : Nd) := by simp [List.getD, e]
      have hr := refs_at hR e
      have hk : k ≤ j := by
        apply Classical.byContradiction
        intro h'
        rw [e2] at c
        exact c (.inr (hm.yes j (by omega)))
      rw [e2] at c
      simp only [dvst_succ, e2, if_neg c, eD] at hp ⊢
      have hpa := vst_pre ns q l (S.set j true, rg k)
      have hpb := vst_pre ns q u (dvst ns q l (S.set j true, rg k))
      have hpc := (List.prefix_append _ [r - 2]).trans hp
      obtain ⟨k1, v1, e1, w1⟩ := vst_vis hR m q l (S.set j true) k (by omega) (by omega) (by simpa using hl) (hm.first ej hjS hr.2.1) (hpb.trans hpc)
      have hk1 := v1.le
      have eP : dvst ns q l (S.set j true, rg k) = ((dvst ns q l (S.set j true, rg k)).1, rg k1) := by rw [← e1]
      have hln : (dvst ns q l (S.set j true, rg k)).1.length = ns.length := by rw [dvst_len]; simpa using hl
      generalize (dvst ns q l (S.set j true, rg k)).1 = S1 at *
      rw [eP] at hpc hp ⊢
      obtain ⟨k2, v2, e3, w2⟩ := vst_vis hR m q u S1 k1 (by omega) (by omega) hln (hm.next ej hjS hr.2.2.2 hk1.1 w1) hpc
      have hk2 := v2.le
      rw [e3] at hp ⊢
      have : j = k2 := by
        have := pre_at hp k2 (r - 2) (by rw [List.getElem?_append_right (by rw [rg_len]; omega), rg_len]; simp)
        have := rg_at this
        omega
      subst this
      refine ⟨j + 1, ?_, ?_, Went.last hjS w1 w2 hk2.1⟩
      · rw [ej]; exact .new hk e v1 v2
      · rw [rg_succ, show r - 2 = (j : Int) by omega]
/-- And the other way. -/
theorem vis_vst {ns : List Nd} (hR : DRefs ns) {r : Int} {k k' : Nat} (h : Vis ns r k k') : ∀ (q : Nat) (S : List Bool), r.toNat < q → S.length = ns.length → Marks k r S → (dvst ns q r (S, rg k)).2 = rg k' ∧ Went k' S (dvst ns q r (S, rg k)).1 := by
  induction h with
  | @done r k h =>
    intro q S hq hl hm
    cases q with
    | zero => omega
    | succ q =>
      have c : r < 2 ∨ S.getD (r - 2).toNat false = true := by
        by_cases c : r < 2
        · exact .inl c
        · exact .inr (hm.yes _ (by omega))
      simp only [dvst_succ, if_pos c]
      exact ⟨trivial, hm.yes, fun j => .inl, fun j => id⟩
  | @new j k k1 i l u h1 h2 h3 h4 ih1 ih2 =>
    intro q S hq hl hm
    cases q with
    | zero => omega
    | succ q =>
      obtain ⟨hj, _⟩ := List.getElem?_eq_some_iff.1 h2
      have hjS : j < S.length := by omega
      have hr := refs_at hR h2
      have e2 : (2 + (j : Int) - 2).toNat = j := by omega
      have eD : ns.getD j z86 = (⟨i, l, u⟩ : Nd) := by simp [List.getD, h2]
      have c : ¬ (2 + (j : Int) < 2 ∨ S.getD j false = true) := by
        rintro (c | c)
        · omega
        · have := hm.no j (by omega) c
          omega
      simp only [dvst_succ, e2, if_neg c, eD]
      obtain ⟨e1, w1⟩ := ih1 q (S.set j true) (by omega) (by simpa using hl) (hm.first rfl hjS hr.2.1)
      have eP : dvst ns q l (S.set j true, rg k) = ((dvst ns q l (S.set j true, rg k)).1, rg k1) := by rw [← e1]
      have hln : (dvst ns q l (S.set j true, rg k)).1.length = ns.length := by rw [dvst_len]; simpa using hl
      generalize (dvst ns q l (S.set j true, rg k)).1 = S1 at *
      rw [eP]
      obtain ⟨e3, w2⟩ := ih2 q S1 (by omega) hln (hm.next rfl hjS hr.2.2.2 h3.le.1 w1)
      rw [e3]
      refine ⟨?_, Went.last hjS w1 w2 h4.le.1⟩
      rw [rg_succ, show 2 + (j : Int) - 2 = (j : Int) by omega]
/-- The order in which the program meets the nodes. -/
def order (ns : List Nd) (root : Int) : List Int := (dvst ns (root.toNat + 1) root (List.replicate ns.length false, [])).2
theorem order_iff {ns : List Nd} (hR : DRefs ns) {root : Int} (hr : root < 2 + (ns.length : Int)) (h0 : 0 ≤ root) : order ns root = rg ns.length ↔ Vis ns root 0 ns.length := by
  have hm : Marks 0 root (List.replicate ns.length false) := ⟨fun j h => by omega, fun j _ h => by
    simp only [List.getD, List.getElem?_replicate] at h
    split at h <;> simp at h⟩
  constructor
  · intro h
    unfold order at h
    obtain ⟨k', v, e, _⟩ := vst_vis hR ns.length (root.toNat + 1) root _ 0 (by omega) hr (by simp) hm (by rw [show rg 0 = [] from rfl, h]; exact List.prefix_refl _)
    rw [show rg 0 = [] from rfl, h] at e
    have := congrArg List.length e
    rw [rg_len, rg_len] at this
    rw [this]; exact v
  · intro h
    exact (vis_vst hR h (root.toNat + 1) _ (by omega) (by simp) hm).1
/-- The bounds that both tests ask for. -/
structure Bnd (n : Nat) (ns : List Nd) (root : Int) : Prop where
  refs : DRefs ns
  inp : ∀ (j : Nat) (x : Nd), ns[j]? = some x → 0 ≤ x.f0 ∧ x.f0 < n
  lo : 0 ≤ root
  hi : root < 2 + (ns.length : Int)
/-- One diagram is valid: the one that is made of its table. -/
theorem same_iff {n : Nat} {ns : List Nd} {root : Int} (h : Bnd n ns root) {vs : List Int} (hv : ∀ x : Nat, x < 2 ^ n → Val ns x root (rd vs (x : Int))) : dbld vs n 0 0 [] = (ns, root) ↔ Struct n ns ∧ order ns root = rg ns.length := by
  rw [order_iff h.refs h.hi h.lo]
  constructor
  · intro e
    have hb : ∀ f : Nat, f < 2 ^ n → 0 ≤ rd vs (f : Int) ∧ rd vs (f : Int) ≤ 1 := fun f hf => by
      obtain ⟨v, h1, h2⟩ := val_some h.refs f root.toNat root (Nat.le_refl _) h.lo h.hi
      have det : ∀ {r v w : Int}, Val ns f r v → Val ns f r w → v = w := by
        intro r v w a
        induction a generalizing w with
        | leaf _ => intro b; cases b <;> first | rfl | omega
        | lo a1 a2 a3 a4 ih =>
          intro b
          cases b with
          | leaf _ => omega
          | lo b1 b2 b3 b4 => rw [a2] at b2; cases b2; exact ih b4
          | hi b1 b2 b3 b4 => rw [a2] at b2; cases b2; exact absurd a3 b3
        | hi a1 a2 a3 a4 ih =>
          intro b
          cases b with
          | leaf _ => omega
          | lo b1 b2 b3 b4 => rw [a2] at b2; cases b2; exact absurd b3 a3
          | hi b1 b2 b3 b4 => rw [a2] at b2; cases b2; exact ih b4
      rw [det (hv f hf) h1]; exact h2
    have M := made hb n 0 0 [] (by omega) (by simp) ⟨by simp, by simp, by simp, by simp⟩ (fun j hj => by simp at hj)
    rw [e] at M
    exact ⟨M.str, M.vis⟩
  · rintro ⟨hS, hV⟩
    have := sim hS h.refs n 0 0 root 0 ns.length (by omega) (by simp) hV h.lo h.hi (by
      by_cases c : root < 2
      · exact .inl c
      · exact .inr fun x hx => by have := (hS.inp _ _ hx).1; omega) (fun x hx _ => hv x hx)
    simpa using this
end Go.Proofs.YtfekgidcnidijaaDoor.Dd
