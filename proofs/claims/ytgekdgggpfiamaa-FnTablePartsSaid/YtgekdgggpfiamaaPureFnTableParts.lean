/- The pure statement of the law FnTableParts: its printed function comes to true, whatever the bytes. -/
import Derived.Test.YtgekdgggpfiamaaParts
import Derived.Test.YtgekdgggpfiamaaSymIn
import Derived.Test.YtgekdgggpfiamaaDraw
import Derived.Test.YtgekdgggpfiamaaPx4
import Derived.Test.YtgekdgggpfiamaaPx5
import Derived.Test.YtgekdgggpfiamaaPx6
namespace Go.Proofs.Ytgekdgggpfiamaa.Pure
open Go.RowKit Go.Proofs.Ytgekdgggpfiamaa.P Go.Proofs.Ytgekdgggpfiamaa.Base Go.Proofs.Ytgekdgggpfiamaa.Bit Go.Proofs.Ytgekdgggpfiamaa.Tab Go.Proofs.Ytgekdgggpfiamaa.Reord Go.Proofs.Ytgekdgggpfiamaa.Swap Go.Proofs.Ytgekdgggpfiamaa.FixIn Go.Proofs.Ytgekdgggpfiamaa.Depends Go.Proofs.Ytgekdgggpfiamaa.Put Go.Proofs.Ytgekdgggpfiamaa.Parts Go.Proofs.YtgekdgggpfiamaaW.PrintWords Go.Proofs.YtgekdgggpfiamaaW.PrintLast Go.Proofs.YtgekdgggpfiamaaW.PrintMore
set_option linter.unusedVariables false
set_option linter.unusedSimpArgs false
/-! the statement's own words -/
theorem qInts_loop (l m : List Int) (hl : l.length = m.length) (hb : l.length < 9223372036854775807) (d : Nat) : ∀ (i : Nat), i + d = l.length → Ev (fun k => laws_qInts.l0 k l m l.length i) (decide (l.drop i = m.drop i)) := by
  induction d with
  | zero =>
    intro i hi
    refine Ev.succ ?_
    simp only [laws_qInts.l0]
    refine Ev.neg (by omega) (Ev.val (Ev.now _) ?_)
    rw [List.drop_of_length_le (by omega), List.drop_of_length_le (by omega)]; simp
  | succ d ih =>
    intro i hi
    refine Ev.succ ?_
    simp only [laws_qInts.l0]
    refine Ev.pos (by omega) (Ev.pos (by omega) (Ev.pos (by omega) (Ev.pos (by omega) ?_)))
    rw [wrap_nat (by omega), rd_get (by omega), rd_get (by omega), drop_cons (xs := l) (by omega), drop_cons (xs := m) (by omega)]
    refine Ev.split (fun c => Ev.val (ih (i + 1) (by omega)) (by simp only [List.cons.injEq, c, true_and])) (fun c => Ev.val (Ev.now _) (by simp only [List.cons.injEq, c, false_and, decide_false]))
theorem qInts (l m : List Int) (hb : l.length < 9223372036854775807) : Ev (fun k => laws_qInts.f k l m) (decide (l = m)) := by
  unfold laws_qInts.f
  refine Ev.split (fun c => Ev.val (qInts_loop l m (by omega) hb l.length 0 (by omega)) (by simp)) (fun c => Ev.val (Ev.now _) ?_)
  symm; rw [decide_eq_false_iff_not]; rintro rfl; exact c rfl
theorem qTable (a : Int) (l : List Int) (b : Int) (m : List Int) (hb : l.length < 9223372036854775807) : Ev (fun k => laws_qTable.f k a l b m) (decide (a = b ∧ l = m)) := by
  unfold laws_qTable.f
  refine Ev.split (fun c => Ev.bind (qInts l m hb) (Ev.val (Ev.now _) (by simp only [c, true_and]))) (fun c => Ev.val (Ev.now _) (by simp only [c, false_and, decide_false]))
theorem qTable_true {a : Int} {l : List Int} {b : Int} {m : List Int} (hb : l.length < 9223372036854775807) (h1 : a = b) (h2 : l = m) : Ev (fun k => laws_qTable.f k a l b m) true := Ev.val (qTable a l b m hb) (decide_eq_true ⟨h1, h2⟩)
theorem qSum_loop (l : List Int) (hb : Bits l) (hl : l.length ≤ 1000) (d : Nat) : ∀ (i : Nat) (c : Int), i + d = l.length → 0 ≤ c → c ≤ i → Ev (fun k => laws_qSum.l0 k c l l.length i) (c + sumL (l.drop i)) := by
  induction d with
  | zero =>
    intro i c hi h0 h1
    refine Ev.succ ?_
    simp only [laws_qSum.l0]
    refine Ev.neg (by omega) (Ev.val (Ev.now _) ?_)
    rw [List.drop_of_length_le (by omega)]; simp [sumL]
  | succ d ih =>
    intro i c hi h0 h1
    refine Ev.succ ?_
    simp only [laws_qSum.l0]
    have hx := hb.get (i := i) (by omega)
    refine Ev.pos (by omega) (Ev.pos (by omega) (Ev.pos (by omega) ?_))
    rw [wrap_nat (by omega), rd_get (by omega), wrap_id (by omega) (by omega), drop_cons (xs := l) (by omega)]
    refine Ev.val (ih (i + 1) _ (by omega) (by omega) (by omega)) ?_
    simp only [sumL]; omega
theorem qSum (l : List Int) (hb : Bits l) (hl : l.length ≤ 1000) : Ev (fun k => laws_qSum.f k l) (sumL l) := by
  unfold laws_qSum.f
  exact Ev.val (qSum_loop l hb hl l.length 0 0 (by omega) (by omega) (by omega)) (by simp)
theorem qHas_loop (l : List Int) (x : Int) (hl : l.length ≤ 1000) (d : Nat) : ∀ (i : Nat), i + d = l.length → Ev (fun k => laws_qHas.l0 k x l l.length i) (decide (x ∈ l.drop i)) := by
  induction d with
  | zero =>
    intro i hi
    refine Ev.succ ?_
    simp only [laws_qHas.l0]
    refine Ev.neg (by omega) (Ev.val (Ev.now _) ?_)
    rw [List.drop_of_length_le (by omega)]; simp
  | succ d ih =>
    intro i hi
    refine Ev.succ ?_
    simp only [laws_qHas.l0]
    refine Ev.pos (by omega) (Ev.pos (by omega) (Ev.pos (by omega) ?_))
    rw [wrap_nat (by omega), rd_get (by omega), drop_cons (xs := l) (by omega)]
    refine Ev.split (fun c => Ev.val (Ev.now _) (by simp [c])) (fun c => Ev.val (ih (i + 1) (by omega)) ?_)
    have : ¬ x = l[i] := fun e => c e.symm
    simp only [List.mem_cons, this, false_or]
theorem qHas (l : List Int) (x : Int) (hl : l.length ≤ 1000) : Ev (fun k => laws_qHas.f k l x) (decide (x ∈ l)) := by
  unfold laws_qHas.f
  exact Ev.val (qHas_loop l x hl l.length 0 (by omega)) (by simp)
/-! the ones -/
theorem ones_loop (l : List Int) (hb : l.length ≤ 16) (hbit : Bits l) (d : Nat) : ∀ (i : Nat) (acc : List Int), i + d = l.length → acc.length ≤ i →
    ∃ L : List Int, L.length ≤ 16 ∧ (L.length : Int) = acc.length + sumL (l.drop i) ∧ Ev (fun k => spec_ttOnes.l0 k acc l l.length i) L ∧ Ev (fun k => impl_OnesOf.l0 k acc l l.length i) (L, true) := by
  induction d with
  | zero =>
    intro i acc hi ha
    refine ⟨acc, by omega, by rw [List.drop_of_length_le (by omega)]; simp [sumL], Ev.succ ?_, Ev.succ ?_⟩
    · simp only [spec_ttOnes.l0]
      exact Ev.neg (by omega) (Ev.now _)
    · simp only [impl_OnesOf.l0]
      exact Ev.neg (by omega) (Ev.now _)
  | succ d ih =>
    intro i acc hi ha
    have hx := hbit.get (i := i) (by omega)
    have hg := rd_get (xs := l) (i := i) (by omega)
    have hd := drop_cons (xs := l) (i := i) (by omega)
    by_cases c : rd l (i : Int) = 1
    · obtain ⟨L, hL, hs, h1, h2⟩ := ih (i + 1) (acc ++ [(i : Int)]) (by omega) (by simp; omega)
      refine ⟨L, hL, ?_, Ev.succ ?_, Ev.succ ?_⟩
      · rw [hs, hd]; simp only [sumL, List.length_append, List.length_singleton]; omega
      · simp only [spec_ttOnes.l0]
        refine Ev.pos (by omega) (Ev.pos (by omega) (Ev.pos (by omega) (Ev.pos c (Ev.pos (by omega) ?_))))
        rw [wrap_nat (by omega)]; exact h1
      · simp only [impl_OnesOf.l0]
        refine Ev.pos (by omega) (Ev.pos (by omega) (Ev.pos (by omega) (Ev.pos c (Ev.pos (by omega) ?_))))
        rw [wrap_nat (by omega)]; exact h2
    · obtain ⟨L, hL, hs, h1, h2⟩ := ih (i + 1) acc (by omega) (by omega)
      refine ⟨L, hL, ?_, Ev.succ ?_, Ev.succ ?_⟩
      · rw [hs, hd]; simp only [sumL]; omega
      · simp only [spec_ttOnes.l0]
        refine Ev.pos (by omega) (Ev.pos (by omega) (Ev.pos (by omega) (Ev.neg c ?_)))
        rw [wrap_nat (by omega)]; exact h1
      · simp only [impl_OnesOf.l0]
        refine Ev.pos (by omega) (Ev.pos (by omega) (Ev.pos (by omega) (Ev.neg c ?_)))
        rw [wrap_nat (by omega)]; exact h2
/-- What is known of the four answers. -/
def Known (m : Int) (M D O : List Int) (bm bs : Bool) : Prop :=
  ∃ z : Nat, m = z ∧ TGood z M ∧ (O.length : Int) = sumL M ∧ (∀ i : Nat, i < z → ((i : Int) ∈ D ↔ ¬ ∀ y : Nat, y < 2 ^ z → rd M (y : Int) = rd M ((y ^^^ 2 ^ i : Nat) : Int))) ∧
    (bm = true → ∀ x i : Nat, x < 2 ^ z → i < z → Mono.okS M x i = true) ∧ (bs = true → ∀ j, 1 ≤ j → j < z → reVals M (order z (j - 1) j) M.length = M)
theorem four (m : Int) (M : List Int) (hM : M.length ≤ 32) : ∃ (D O : List Int) (bm bs ok : Bool), D.length ≤ 100 ∧ O.length ≤ 100 ∧ Ev (fun k => impl_DependsOn.f k m M) (D, ok) ∧ Ev (fun k => spec_DependsOn.f k m M) (D, ok) ∧
    Ev (fun k => impl_OnesOf.f k m M) (O, ok) ∧ Ev (fun k => spec_OnesOf.f k m M) (O, ok) ∧ Ev (fun k => impl_IsMonotone.f k m M) (bm, ok) ∧ Ev (fun k => spec_IsMonotone.f k m M) (bm, ok) ∧
    Ev (fun k => impl_IsSymmetric.f k m M) (bs, ok) ∧ Ev (fun k => spec_IsSymmetric.f k m M) (bs, ok) ∧ (ok = true → Known m M D O bm bs) := by
  by_cases h : TGood m M
  · obtain ⟨h0, h1, h2, h3⟩ := id h
    obtain ⟨z, rfl⟩ := Int.eq_ofNat_of_zero_le h0
    rw [Int.toNat_natCast] at h2
    have hl := h.len
    obtain ⟨O, hO, hs, o1, o2⟩ := ones_loop M (by omega) h3 M.length 0 [] (by omega) (by simp)
    obtain ⟨m1, m2⟩ := Mono.value z M h
    obtain ⟨bs, s1, s2, s3⟩ := Sym.value z M h
    have gi := Ev.val (implIsTable (z : Int) M (by omega)) (decide_eq_true h)
    have gs := Ev.val (ttGood (z : Int) M (by omega)) (decide_eq_true h)
    refine ⟨those (fun j => !(allB (fun y => eqv M y j) 0 M.length)) 0 z, O, allB (fun y => allB (Mono.okS M y) 0 z) 0 M.length, bs, true, by have := those_length (fun j => !(allB (fun y => eqv M y j) 0 M.length)) 0 z; omega, by omega, ?_, ?_, ?_, ?_, m2, m1, s2, s1, fun _ => ⟨z, rfl, h, by rw [hs]; simp, ?_, ?_, s3⟩⟩
    · unfold impl_DependsOn.f
      exact Ev.bind gi (Ev.pos rfl (impl_outer z M (by omega) h2 z 0 (by omega)))
    · unfold spec_DependsOn.f
      refine Ev.bind gs (Ev.pos rfl ?_)
      have e1 : those (Depends.seen M 0 0) 0 z = [] := by
        rw [← those_empty 0 z]
        apply those_congr
        intro j _ _
        simp [Depends.seen, allB]
      have e2 : those (Depends.seen M M.length 0) 0 z = those (fun j => !(allB (fun y => eqv M y j) 0 M.length)) 0 z := by
        apply those_congr
        intro j _ _
        simp [Depends.seen]
      have := spec_outer z M (by omega) h2 M.length 0 (by omega)
      rw [e1, e2] at this
      exact this
    · unfold impl_OnesOf.f
      exact Ev.bind gi (Ev.pos rfl o2)
    · unfold spec_OnesOf.f spec_ttOnes.f
      exact Ev.bind gs (Ev.pos rfl (Ev.bind o1 (Ev.now _)))
    · intro i hi
      rw [those_mem _ z i hi, Bool.not_eq_true', ← Bool.not_eq_true, allB_iff]
      simp only [eqv, decide_eq_true_eq]
      refine not_congr ⟨fun hh y hy => hh y (by omega) (by omega), fun hh y _ hy => hh y (by omega)⟩
    · intro hb x i hx hi
      rw [allB_iff] at hb
      have := hb x (by omega) (by omega)
      rw [allB_iff] at this
      exact this i (by omega) (by omega)
  · have gi := Ev.val (implIsTable m M (by omega)) (decide_eq_false h)
    have gs := Ev.val (ttGood m M (by omega)) (decide_eq_false h)
    refine ⟨[], [], false, false, false, by simp, by simp, ?_, ?_, ?_, ?_, ?_, ?_, ?_, ?_, fun hh => absurd hh (by simp)⟩
    · unfold impl_DependsOn.f; exact Ev.bind gi (Ev.neg (by simp) (Ev.now _))
    · unfold spec_DependsOn.f; exact Ev.bind gs (Ev.neg (by simp) (Ev.now _))
    · unfold impl_OnesOf.f; exact Ev.bind gi (Ev.neg (by simp) (Ev.now _))
    · unfold spec_OnesOf.f; exact Ev.bind gs (Ev.neg (by simp) (Ev.now _))
    · unfold impl_IsMonotone.f; exact Ev.bind gi (Ev.neg (by simp) (Ev.now _))
    · unfold spec_IsMonotone.f; exact Ev.bind gs (Ev.neg (by simp) (Ev.now _))
    · unfold impl_IsSymmetric.f; exact Ev.bind gi (Ev.neg (by simp) (Ev.now _))
    · unfold spec_IsSymmetric.f; exact Ev.bind gs (Ev.neg (by simp) (Ev.now _))
/-! the parts of a fixed table -/
theorem j7 (n : Int) (L : List Int) (hL : L.length ≤ 32) (i v : Int) : Ev (fun k => laws_FnTableParts.j7 k i v (fixed n L i v).2.2 n L (fixed n L i v).1 (fixed n L i v).2.1) true := by
  by_cases h : TGood n L ∧ 0 ≤ i ∧ i < n ∧ 0 ≤ v ∧ v ≤ 1
  · have e : fixed n L i v = (n - 1, kept L i.toNat v 0 L.length, true) := by unfold fixed; rw [if_pos h]
    rw [e]
    obtain ⟨hg, hi0, hi, hv0, hv1⟩ := h
    obtain ⟨h0, h1, h2, h3⟩ := id hg
    obtain ⟨z, rfl⟩ := Int.eq_ofNat_of_zero_le h0
    obtain ⟨a, rfl⟩ := Int.eq_ofNat_of_zero_le hi0
    obtain ⟨w, rfl⟩ := Int.eq_ofNat_of_zero_le hv0
    rw [Int.toNat_natCast] at h2
    have hz : z ≤ 4 := by omega
    have ha : a < z := by omega
    have hp : (2 : Nat) ^ z ≤ 2 ^ 4 := Nat.pow_le_pow_right (by decide) hz
    have hpa : (2 : Nat) ^ a < 2 ^ z := Nat.pow_lt_pow_right (by decide) ha
    have hpa0 := Nat.two_pow_pos a
    have hz1 : 2 ^ (z - 1) * 2 = 2 ^ z := by rw [← Nat.pow_succ]; congr 1; omega
    simp only [Int.toNat_natCast]
    have hk := kept_ins hz ha w (by omega) L h2
    have hins := ((ins_facts hz ha).1 w (by omega)).2
    refine Ev.succ ?_
    simp only [laws_FnTableParts.j7]
    refine Ev.pos trivial ?_
    rw [hk]
    have hlen : ((List.range (2 ^ (z - 1))).map fun j => rd L ((ins a w j : Nat) : Int)).length = 2 ^ (z - 1) := by simp
    have hu : IntKind.u64.wrap (a : Int) = (a : Int) := wrapU (by omega) (by omega)
    have hs1 : shl .i64 1 (a : Int) = ((2 ^ a : Nat) : Int) := shl_one_nat a (by omega)
    have hws : w * 2 ^ a < 2 ^ 62 := by
      have : w * 2 ^ a ≤ 1 * 2 ^ a := Nat.mul_le_mul_right _ (by omega)
      omega
    have hs2 : shl .i64 (w : Int) (a : Int) = ((w * 2 ^ a : Nat) : Int) := shl_nat w a (by omega) hws
    have loop : ∀ (d j : Nat), j + d = 2 ^ (z - 1) → Ev (fun k => laws_FnTableParts.l3 k a w ((List.range (2 ^ (z - 1))).map fun j => rd L ((ins a w j : Nat) : Int)) (((List.range (2 ^ (z - 1))).map fun j => rd L ((ins a w j : Nat) : Int)).length : Int) j z L ((z : Int) - 1) ((List.range (2 ^ (z - 1))).map fun j => rd L ((ins a w j : Nat) : Int))) true := by
      intro d
      induction d with
      | zero =>
        intro j hj
        refine Ev.succ ?_
        simp only [laws_FnTableParts.l3]
        rw [hlen]
        refine Ev.neg (by omega) (Ev.val (Ev.now _) ?_)
        rw [wrap_id (by omega) (by omega)]; simp
      | succ d ih =>
        intro j hj
        have hj' : j < 2 ^ (z - 1) := by omega
        have hw1 : w * 2 ^ a ≤ 2 ^ a := by
          have : w * 2 ^ a ≤ 1 * 2 ^ a := Nat.mul_le_mul_right _ (by omega)
          omega
        have hm : Int.tmod (j : Int) ((2 ^ a : Nat) : Int) = ((j % 2 ^ a : Nat) : Int) := by rw [← Int.ofNat_tmod]
        have hmle : j % 2 ^ a ≤ j := Nat.mod_le _ _
        have hidx : wrap64 (wrap64 (((j % 2 ^ a : Nat) : Int) + ((w * 2 ^ a : Nat) : Int)) + wrap64 (wrap64 ((j : Int) - ((j % 2 ^ a : Nat) : Int)) * 2)) = ((ins a w j : Nat) : Int) := by
          rw [wrap_id (x := ((j % 2 ^ a : Nat) : Int) + ((w * 2 ^ a : Nat) : Int)) (by omega) (by omega), wrap_id (x := (j : Int) - ((j % 2 ^ a : Nat) : Int)) (by omega) (by omega), wrap_id (x := ((j : Int) - ((j % 2 ^ a : Nat) : Int)) * 2) (by omega) (by omega), wrap_id (by omega) (by omega)]
          unfold ins
          omega
        have hlt := hins j hj'
        refine Ev.succ ?_
        simp only [laws_FnTableParts.l3]
        rw [hlen] at ih ⊢
        rw [hu, hs1, hs2, hm, hidx, rd_map hj', wrap_nat (by omega)]
        refine Ev.pos (by omega) (Ev.pos (by omega) (Ev.pos (by omega) (Ev.pos (by omega) (Ev.neg (by omega) (Ev.pos (by omega) (Ev.pos (by omega) (Ev.pos rfl ?_)))))))
        exact ih (j + 1) (by omega)
    exact loop (2 ^ (z - 1)) 0 (by omega)
  · have e : fixed n L i v = (0, [], false) := by unfold fixed; rw [if_neg h]
    rw [e]
    refine Ev.succ ?_
    simp only [laws_FnTableParts.j7]
    exact Ev.neg (by simp) (Ev.now _)
/-! the loops over the inputs -/
section
variable (i v : Int) (fok : Bool) (n : Int) (L : List Int) (fn : Int) (fl : List Int) (D O M : List Int) (bm bs : Bool) (z : Nat)
theorem l2_ev (hg : TGood z M) (hsym : bs = true → ∀ j, 1 ≤ j → j < z → reVals M (order z (j - 1) j) M.length = M) (x : Nat) (hx : x < z)
    (hN : Ev (fun k => laws_FnTableParts.l0 k i v fok D bm bs ((x + 1 : Nat) : Int) n L fn fl z M) true) (d : Nat) : ∀ (y : Nat), y + d = x → Ev (fun k => laws_FnTableParts.l2 k i v fok D bm bs x y n L fn fl z M) true := by
  have hl := hg.len
  have hz4 := hg.2.1
  have h2 := hg.2.2.1
  rw [Int.toNat_natCast] at h2
  have stop : ∀ y : Nat, Ev (fun k => laws_FnTableParts.j6 k i v fok D bm bs x y false n L fn fl z M) true := by
    intro y
    refine Ev.succ ?_
    simp only [laws_FnTableParts.j6]
    refine Ev.neg (by simp) ?_
    rw [wrap_nat (by omega)]
    exact hN
  induction d with
  | zero =>
    intro y hy
    refine Ev.succ ?_
    simp only [laws_FnTableParts.l2]
    exact Ev.neg (by omega) (stop y)
  | succ d ih =>
    intro y hy
    refine Ev.succ ?_
    simp only [laws_FnTableParts.l2]
    refine Ev.pos (by omega) ?_
    cases hbs : bs with
    | false => exact hbs ▸ stop y
    | true =>
      refine Ev.succ ?_
      simp only [laws_FnTableParts.j6]
      refine Ev.pos trivial (Ev.bind (implSwap (z : Int) M (x : Int) (y : Int) (by omega)) ?_)
      have e : swappedTo (z : Int) M (x : Int) (y : Int) = ((z : Int), M, true) := by
        unfold swappedTo
        rw [if_pos ⟨hg, by omega, by omega, by omega, by omega⟩]
        simp only [Int.toNat_natCast]
        rw [reVals_any (by omega) M h2 (hsym hbs) (by omega) hx]
      rw [e]
      refine Ev.pos rfl (Ev.bind (qTable_true (by first | omega | (dsimp only; omega)) rfl rfl) (Ev.pos rfl ?_))
      rw [wrap_nat (by omega)]
      have := ih (y + 1) (by omega)
      rw [hbs] at this
      exact this
theorem l1_ev (hg : TGood z M) (hmon : bm = true → ∀ x i : Nat, x < 2 ^ z → i < z → Mono.okS M x i = true) (hsym : bs = true → ∀ j, 1 ≤ j → j < z → reVals M (order z (j - 1) j) M.length = M) (x : Nat) (hx : x < z)
    (hN : Ev (fun k => laws_FnTableParts.l0 k i v fok D bm bs ((x + 1 : Nat) : Int) n L fn fl z M) true) (c : Int) (d : Nat) : ∀ (j : Nat), j + d = 2 ^ (z - 1) →
    Ev (fun k => laws_FnTableParts.l1 k i v fok D bm bs x (kept M x 0 0 M.length) ((2 ^ (z - 1) : Nat) : Int) j n L fn fl z M c (kept M x 1 0 M.length)) true := by
  have hl := hg.len
  have hz4 := hg.2.1
  have h2 := hg.2.2.1
  rw [Int.toNat_natCast] at h2
  have hz : z ≤ 4 := by omega
  have k0 : (kept M x 0 0 M.length).length = 2 ^ (z - 1) := by
    have := kept_ins hz hx 0 (by omega) M h2
    rw [show ((0 : Nat) : Int) = 0 from rfl] at this
    rw [this]; simp
  have k1 : (kept M x 1 0 M.length).length = 2 ^ (z - 1) := by
    have := kept_ins hz hx 1 (by omega) M h2
    rw [show ((1 : Nat) : Int) = 1 from rfl] at this
    rw [this]; simp
  have hp : (2 : Nat) ^ (z - 1) ≤ 2 ^ 4 := Nat.pow_le_pow_right (by decide) (by omega)
  induction d with
  | zero =>
    intro j hj
    refine Ev.succ ?_
    simp only [laws_FnTableParts.l1]
    refine Ev.neg (by omega) ?_
    exact l2_ev i v fok n L fn fl D M bm bs z hg hsym x hx hN x 0 (by omega)
  | succ d ih =>
    intro j hj
    refine Ev.succ ?_
    simp only [laws_FnTableParts.l1]
    refine Ev.pos (by omega) (Ev.pos (by omega) (Ev.pos (by omega) ?_))
    rw [wrap_nat (by omega)]
    have hI := ih (j + 1) (by omega)
    refine Ev.split (fun hb => Ev.pos (by omega) (Ev.neg ?_ hI)) (fun hb => hI)
    have := kept_le hz hx M h2 hg.2.2.2 (fun y hy => hmon hb y x hy hx) j (by omega)
    omega
theorem l0_ev (hg : TGood z M) (hD : D.length ≤ 100) (hdep : ∀ i : Nat, i < z → ((i : Int) ∈ D ↔ ¬ ∀ y : Nat, y < 2 ^ z → rd M (y : Int) = rd M ((y ^^^ 2 ^ i : Nat) : Int)))
    (hmon : bm = true → ∀ x i : Nat, x < 2 ^ z → i < z → Mono.okS M x i = true) (hsym : bs = true → ∀ j, 1 ≤ j → j < z → reVals M (order z (j - 1) j) M.length = M)
    (hJ : Ev (fun k => laws_FnTableParts.j7 k i v fok n L fn fl) true) (d : Nat) : ∀ (x : Nat), x + d = z → Ev (fun k => laws_FnTableParts.l0 k i v fok D bm bs x n L fn fl z M) true := by
  have hl := hg.len
  have hz4 := hg.2.1
  have h2 := hg.2.2.1
  rw [Int.toNat_natCast] at h2
  have hz : z ≤ 4 := by omega
  induction d with
  | zero =>
    intro x hx
    refine Ev.succ ?_
    simp only [laws_FnTableParts.l0]
    exact Ev.neg (by omega) hJ
  | succ d ih =>
    intro x hx
    have hxz : x < z := by omega
    have e0 : fixed (z : Int) M (x : Int) 0 = ((z : Int) - 1, kept M x 0 0 M.length, true) := by
      unfold fixed; rw [if_pos ⟨hg, by omega, by omega, by omega, by omega⟩, Int.toNat_natCast]
    have e1 : fixed (z : Int) M (x : Int) 1 = ((z : Int) - 1, kept M x 1 0 M.length, true) := by
      unfold fixed; rw [if_pos ⟨hg, by omega, by omega, by omega, by omega⟩, Int.toNat_natCast]
    have a0 := impl_fix (z : Int) M (x : Int) 0 (by omega)
    have a1 := impl_fix (z : Int) M (x : Int) 1 (by omega)
    have b0 := spec_fix (z : Int) M (x : Int) 0 (by omega)
    have b1 := spec_fix (z : Int) M (x : Int) 1 (by omega)
    rw [e0] at a0 b0
    rw [e1] at a1 b1
    have n0 := kept_length M x 0 M.length 0
    have n1 := kept_length M x 1 M.length 0
    have k0 : (kept M x 0 0 M.length).length = 2 ^ (z - 1) := by
      have := kept_ins hz hxz 0 (by omega) M h2
      rw [show ((0 : Nat) : Int) = 0 from rfl] at this
      rw [this]; simp
    refine Ev.succ ?_
    simp only [laws_FnTableParts.l0]
    refine Ev.pos (by omega) (Ev.bind a0 (Ev.bind a1 (Ev.bind b0 (Ev.bind b1 (Ev.pos rfl (Ev.pos rfl ?_))))))
    refine Ev.bind (qTable_true (by first | omega | (dsimp only; omega)) rfl rfl) (Ev.pos rfl (Ev.bind (qTable_true (by first | omega | (dsimp only; omega)) rfl rfl) (Ev.pos rfl (Ev.pos rfl (Ev.pos rfl ?_)))))
    refine Ev.bind (qHas D (x : Int) (by omega)) (Ev.bind (qTable _ _ _ _ (by first | omega | (dsimp only; omega))) (Ev.succ ?_))
    simp only [laws_FnTableParts.j3]
    refine Ev.neg ?_ ?_
    · have h := hdep x hxz
      rw [← kept_same hz hxz M h2] at h
      simp only [true_and]
      by_cases hk : kept M x 0 0 M.length = kept M x 1 0 M.length
      · have : ¬ (x : Int) ∈ D := fun hh => h.1 hh hk
        simp [hk, this]
      · have : (x : Int) ∈ D := h.2 hk
        simp [hk, this]
    · rw [k0]
      exact l1_ev i v fok n L fn fl D M bm bs z hg hmon hsym x hxz (ih (x + 1) (by omega)) _ (2 ^ (z - 1)) 0 (by omega)
end
theorem byt {l : List Int} (h : ∀ x ∈ l, (Lit.int .u8 x).wf = true) : Draw.Byt l := by
  intro x hx
  have := h x hx
  have hx : 0 ≤ x ∧ x ≤ 255 := by simpa [Lit.wf, IntKind.min, IntKind.max, IntKind.signed, IntKind.bits] using this
  exact hx
theorem FnTableParts : ∀ (l0 : List Int) (l1 : List Int), l0.length <= maxLen -> l0.length * 1 <= 140737488351232 -> (∀ x ∈ l0, (Lit.int .u8 x).wf = true) -> l1.length <= maxLen -> l1.length * 1 <= 140737488351232 -> (∀ x ∈ l1, (Lit.int .u8 x).wf = true) -> ∃ k, laws_FnTableParts.f k l0 l1 = some true := by
  intro l0 l1 _ _ hw0 _ _ hw1
  apply Ev.rounds
  unfold laws_FnTableParts.f
  refine Ev.split (fun _ => Ev.now _) (fun _ => ?_)
  obtain ⟨n, L, i, v, d1, hL⟩ := Draw.drawFix l0 (byt hw0)
  obtain ⟨n2, L2, a, b, d2, hL2⟩ := Draw.drawSwap l1 (byt hw1)
  obtain ⟨m, M, d3, hM⟩ := Draw.drawDep l1 (byt hw1)
  obtain ⟨D, O, bm, bs, ok, hD, hO, q1, q2, q3, q4, q5, q6, q7, q8, hK⟩ := four m M hM
  have f1 := fixed_length n L i v (by omega)
  have f2 := swappedTo_length n2 L2 a b (by omega)
  refine Ev.bind d1 (Ev.bind (impl_fix n L i v (by omega)) (Ev.bind (spec_fix n L i v (by omega)) (Ev.bind d2 (Ev.bind (implSwap n2 L2 a b (by omega)) (Ev.bind (specSwap n2 L2 a b (by omega)) (Ev.bind d3 ?_))))))
  refine Ev.bind q1 (Ev.bind q2 (Ev.bind q3 (Ev.bind q4 (Ev.bind q5 (Ev.bind q6 (Ev.bind q7 (Ev.bind q8 ?_)))))))
  simp only [bne_self_eq_false, Bool.false_eq_true, if_false]
  refine Ev.bind (qTable_true (by first | omega | (dsimp only; omega)) rfl rfl) (Ev.pos rfl (Ev.bind (qTable_true (by first | omega | (dsimp only; omega)) rfl rfl) (Ev.pos rfl ?_)))
  refine Ev.bind (Ev.val (qInts D D (by omega)) (decide_eq_true rfl)) (Ev.pos rfl (Ev.bind (Ev.val (qInts O O (by omega)) (decide_eq_true rfl)) (Ev.pos rfl (Ev.succ ?_))))
  simp only [laws_FnTableParts.j0]
  have hJ := j7 n L hL i v
  have hJ1 : Ev (fun k => laws_FnTableParts.j1 k i v (fixed n L i v).2.2 ok D O bm bs n L (fixed n L i v).1 (fixed n L i v).2.1 m M) true := by
    refine Ev.succ ?_
    simp only [laws_FnTableParts.j1]
    refine Ev.split (fun hok => ?_) (fun _ => hJ)
    obtain ⟨z, rfl, hg, hs, hdep, hmon, hsym⟩ := hK hok
    have hl := hg.len
    refine Ev.bind (qSum M hg.2.2.2 (by omega)) (Ev.pos hs ?_)
    exact l0_ev i v _ n L _ _ D M bm bs z hg hD hdep hmon hsym hJ z 0 (by omega)
  refine Ev.neg (by simp) (Ev.split (fun hok => ?_) (fun _ => hJ1))
  by_cases h : TGood n2 L2 ∧ 0 ≤ a ∧ a < n2 ∧ 0 ≤ b ∧ b < n2
  · obtain ⟨hg, ha0, ha, hb0, hb⟩ := id h
    obtain ⟨h0, h1, h2, h3⟩ := id hg
    obtain ⟨z, rfl⟩ := Int.eq_ofNat_of_zero_le h0
    obtain ⟨x, rfl⟩ := Int.eq_ofNat_of_zero_le ha0
    obtain ⟨y, rfl⟩ := Int.eq_ofNat_of_zero_le hb0
    rw [Int.toNat_natCast] at h2
    have hl := hg.len
    have hz : z ≤ 4 := by omega
    have hx : x < z := by omega
    have hy : y < z := by omega
    have e : swappedTo (z : Int) L2 x y = ((z : Int), reVals L2 (order z x y) L2.length, true) := by unfold swappedTo; rw [if_pos h]; rfl
    have hg2 : TGood (z : Int) (reVals L2 (order z x y) L2.length) := ⟨h0, h1, by rw [reVals_length, Int.toNat_natCast]; exact h2, reVals_bits hz hx hy L2 h2 h3⟩
    have e2 : swappedTo (z : Int) (reVals L2 (order z x y) L2.length) x y = ((z : Int), L2, true) := by
      unfold swappedTo
      rw [if_pos ⟨hg2, ha0, ha, hb0, hb⟩]
      simp only [Int.toNat_natCast]
      rw [reVals_length, reVals_twice hz hx hy L2 h2]
    rw [e]
    have s1 := implSwap (z : Int) (reVals L2 (order z x y) L2.length) x y (by rw [reVals_length]; omega)
    rw [e2] at s1
    refine Ev.bind s1 (Ev.pos rfl (Ev.bind (qTable_true (by first | omega | (dsimp only; omega)) rfl rfl) (Ev.pos rfl ?_)))
    refine Ev.bind (qSum _ hg2.2.2.2 (by rw [reVals_length]; omega)) (Ev.bind (qSum L2 h3 (by omega)) (Ev.pos (reVals_sum hz hx hy L2 h2) hJ1))
  · have e : swappedTo n2 L2 a b = (0, [], false) := by unfold swappedTo; rw [if_neg h]
    rw [e] at hok
    exact absurd hok (by simp)
end Go.Proofs.Ytgekdgggpfiamaa.Pure
