/- What the drawn tables and numbers are: they are drawn, a table has at most 32 values. Condition: bytes. -/
import Derived.Test.YtgekdgggpfiamaaBit
import Derived.Test.YtgekdgggpfiamaaPx1
import Derived.Test.YtgekdgggpfiamaaPx2
import Derived.Test.YtgekdgggpfiamaaPx3
import Derived.Test.YtgekdgggpfiamaaPx4
namespace Go.Proofs.Ytgekdgggpfiamaa.Draw
open Go.RowKit Go.Proofs.Ytgekdgggpfiamaa.P Go.Proofs.Ytgekdgggpfiamaa.Base Go.Proofs.Ytgekdgggpfiamaa.Bit Go.Proofs.YtgekdgggpfiamaaW.PrintWords Go.Proofs.YtgekdgggpfiamaaW.PrintLast Go.Proofs.YtgekdgggpfiamaaW.PrintMore
set_option linter.unusedVariables false
set_option linter.unusedSimpArgs false
def Byt (l : List Int) : Prop := ∀ x, x ∈ l → 0 ≤ x ∧ x ≤ 255
theorem rd_byt {l : List Int} (h : Byt l) (i : Int) : 0 ≤ rd l i ∧ rd l i ≤ 255 := by
  rw [rd_neg_at]
  by_cases c : i.toNat < l.length
  · rw [List.getD_eq_getElem?_getD, List.getElem?_eq_getElem c]
    exact h _ (List.getElem_mem c)
  · rw [List.getD_eq_getElem?_getD, List.getElem?_eq_none (by omega)]
    exact ⟨by decide, by decide⟩
/-- Room for m more bytes. -/
def Room (m : Nat) (a : Int) : Prop := 0 ≤ a ∧ a + (m : Int) ≤ 1000
theorem Room.less {m m' : Nat} {a : Int} (h : Room m a) (hm : m' ≤ m) : Room m' a := ⟨h.1, by have := h.2; omega⟩
theorem and255 (x : Int) : 0 ≤ Go.bits .and .u64 x 255 ∧ Go.bits .and .u64 x 255 ≤ 255 := by
  have h : ∃ z : Nat, z ≤ 255 ∧ Go.bits .and .u64 x 255 = IntKind.u64.wrap (z : Int) := by
    refine ⟨(BitVec.ofInt IntKind.u64.bits x &&& BitVec.ofInt IntKind.u64.bits 255).toNat, ?_, ?_⟩
    · rw [BitVec.toNat_and]
      refine Nat.le_trans Nat.and_le_right ?_
      decide
    · rfl
  obtain ⟨z, hz, e⟩ := h
  rw [e, wrapU (by omega) (by omega)]
  omega
theorem next (l : List Int) (hl : Byt l) (a s : Int) (m : Nat) (h : Room (m + 1) a) : ∃ x s', spec_l1Cur_next.f l a s = some (x, a + 1, s') ∧ Room m (a + 1) ∧ 0 ≤ x ∧ x ≤ 255 := by
  have h0 := h.1
  have h1 := h.2
  have hw : wrap64 (a + 1) = a + 1 := wrap_id (by omega) (by omega)
  have hr := rd_byt hl a
  have hb : ∀ y : Int, wrap64 (Go.bits .and .u64 y 255) = Go.bits .and .u64 y 255 := fun y => by have := and255 y; exact wrap_id (by omega) (by omega)
  have hm : Room m (a + 1) := ⟨by omega, by omega⟩
  unfold spec_l1Cur_next.f
  rw [hw]
  simp only [hb]
  by_cases c : a < (l.length : Int)
  · rw [if_pos c, if_pos h0, wrap_id (x := rd l a) (by omega) (by omega)]
    by_cases c2 : a + 1 ≤ (l.length : Int)
    · rw [if_pos c2]; exact ⟨_, _, rfl, hm, hr⟩
    · rw [if_neg c2]; exact ⟨_, _, rfl, hm, and255 _⟩
  · rw [if_neg c]
    by_cases c2 : a + 1 ≤ (l.length : Int)
    · rw [if_pos c2]; exact ⟨_, _, rfl, hm, by omega, by omega⟩
    · rw [if_neg c2]; exact ⟨_, _, rfl, hm, and255 _⟩
theorem tmod_lt {x n : Int} (h : 0 ≤ x) (hn : 0 < n) : 0 ≤ Int.tmod x n ∧ Int.tmod x n < n := ⟨Int.tmod_nonneg _ h, Int.tmod_lt_of_pos _ hn⟩
theorem pick (l : List Int) (hl : Byt l) (a s n : Int) (m : Nat) (h : Room (m + 2) a) : ∃ x a' s', spec_l1Cur_pick.f l a s n = some (x, a', s') ∧ Room m a' ∧ 0 ≤ x ∧ (x < n ∨ x = 0) := by
  unfold spec_l1Cur_pick.f
  by_cases c : n ≤ 1
  · rw [if_pos c]; exact ⟨_, _, _, rfl, h.less (by omega), by omega, .inr rfl⟩
  · rw [if_neg c]
    obtain ⟨x, s1, e1, r1, x0, x1⟩ := next l hl a s (m + 1) h
    rw [e1]
    simp only [Option.bind_some]
    by_cases c2 : n > 200
    · rw [if_pos c2]
      obtain ⟨y, s2, e2, r2, y0, y1⟩ := next l hl (a + 1) s1 m r1
      rw [e2]
      simp only [Option.bind_some]
      rw [if_neg (by omega), wrap_id (x := x * 256) (by omega) (by omega), wrap_id (by omega) (by omega)]
      have := tmod_lt (x := x * 256 + y) (n := n) (by omega) (by omega)
      exact ⟨_, _, _, rfl, r2, this.1, .inl this.2⟩
    · rw [if_neg c2, if_neg (by omega)]
      have := tmod_lt (x := x) (n := n) (by omega) (by omega)
      exact ⟨_, _, _, rfl, r1.less (by omega), this.1, .inl this.2⟩
theorem among (l : List Int) (hl : Byt l) (a s : Int) (xs : List Int) (hx : 0 < xs.length) (m : Nat) (h : Room (m + 2) a) : ∃ x a' s', spec_l1Cur_among.f l a s xs = some (x, a', s') ∧ Room m a' ∧ x ∈ xs := by
  unfold spec_l1Cur_among.f
  obtain ⟨x, a', s', e, r, x0, x1⟩ := pick l hl a s (xs.length : Int) m h
  rw [e]
  simp only [Option.bind_some]
  obtain ⟨z, rfl⟩ := Int.eq_ofNat_of_zero_le x0
  have hz : z < xs.length := by omega
  rw [if_pos (by omega), if_pos (by omega), rd_get hz]
  exact ⟨_, _, _, rfl, r, List.getElem_mem hz⟩
theorem ttBit_some (x i : Nat) (hx : x < 2 ^ 61) (hi : i ≤ 64) : spec_ttBit.f x i = some ((bit x i : Nat) : Int) := by
  unfold spec_ttBit.f
  rw [wrapU (by omega) (by omega), if_pos (by omega), bit_printed x i (by omega) hi]
theorem tableOf_inner (l : List Int) (n i : Nat) (hn : n ≤ 4) (hi : i < 16) (few : Int) (acc : List Int) (ha : acc.length ≤ 16) (a s t : Int) (Q : Int × List Int × Int × Int → Prop)
    (h : ∀ y, ∃ R, Ev (fun k => spec_l1Cur_tableOf.l0 k n few ((i + 1 : Nat) : Int) l a s t (acc ++ [y])) R ∧ Q R) (d : Nat) : ∀ (j : Nat) (x8 : Int), j + d = n →
    ∃ R, Ev (fun k => spec_l1Cur_tableOf.l1 k n few i x8 j l a s t acc) R ∧ Q R := by
  induction d with
  | zero =>
    intro j x8 hj
    obtain ⟨R, h1, h2⟩ := h (Int.tmod (wrap64 (Int.tdiv x8 2)) 2)
    refine ⟨R, Ev.succ ?_, h2⟩
    simp only [spec_l1Cur_tableOf.l1]
    refine Ev.neg (by omega) (Ev.pos (by omega) ?_)
    rw [wrap_nat (by omega)]; exact h1
  | succ d ih =>
    intro j x8 hj
    obtain ⟨R, h1, h2⟩ := ih (j + 1) (wrap64 (x8 + ((bit i j : Nat) : Int))) (by omega)
    refine ⟨R, Ev.succ ?_, h2⟩
    simp only [spec_l1Cur_tableOf.l1]
    refine Ev.pos (by omega) ?_
    rw [ttBit_some i j (by omega) (by omega), wrap_nat (by omega)]
    simp only [Option.bind_some]
    exact h1
theorem tableOf_loop (l : List Int) (hl : Byt l) (n : Nat) (hn : n ≤ 4) (few : Int) (t : Int) (m : Nat) (d : Nat) : ∀ (i : Nat) (acc : List Int) (a s : Int), i + d = 2 ^ n → acc.length = i → Room (m + 2 * d) a →
    ∃ R : Int × List Int × Int × Int, Ev (fun k => spec_l1Cur_tableOf.l0 k n few i l a s t acc) R ∧ R.1 = t ∧ 1 ≤ R.2.1.length ∧ R.2.1.length ≤ 16 ∧ Room m R.2.2.1 := by
  have hp : (2 : Nat) ^ n ≤ 2 ^ 4 := Nat.pow_le_pow_right (by decide) hn
  have hp1 : 1 ≤ (2 : Nat) ^ n := Nat.two_pow_pos n
  have hsh : shl .i64 1 (IntKind.u64.wrap (n : Int)) = ((2 ^ n : Nat) : Int) := by rw [wrapU (by omega) (by omega), shl_one_nat n (by omega)]
  induction d with
  | zero =>
    intro i acc a s hi ha hr
    refine ⟨(t, acc, a, s), Ev.succ ?_, rfl, by simp only; omega, by simp only; omega, hr⟩
    simp only [spec_l1Cur_tableOf.l0, hsh]
    rw [wrapU (by omega) (by omega)]
    exact Ev.pos (by omega) (Ev.neg (by omega) (Ev.now _))
  | succ d ih =>
    intro i acc a s hi ha hr
    by_cases c : few = 8
    · obtain ⟨R, h1, h2⟩ := tableOf_inner l n i hn (by omega) few acc (by omega) a s t (fun R => R.1 = t ∧ 1 ≤ R.2.1.length ∧ R.2.1.length ≤ 16 ∧ Room m R.2.2.1)
        (fun y => ih (i + 1) (acc ++ [y]) a s (by omega) (by simp; omega) (hr.less (by omega))) n 0 0 (by omega)
      refine ⟨R, Ev.succ ?_, h2⟩
      simp only [spec_l1Cur_tableOf.l0, hsh]
      rw [wrapU (by omega) (by omega)]
      exact Ev.pos (by omega) (Ev.pos (by omega) (Ev.pos c h1))
    · obtain ⟨x, a', s', e, r, _, _⟩ := pick l hl a s few (m + 2 * d) (hr.less (by omega))
      have e1 : spec_l1Cur_one.f l a s few = some ((x == 0), a', s') := by unfold spec_l1Cur_one.f; rw [e]; rfl
      by_cases c2 : (x == 0) = true
      · obtain ⟨R, h1, h2⟩ := ih (i + 1) (acc ++ [1]) a' s' (by omega) (by simp; omega) r
        refine ⟨R, Ev.succ ?_, h2⟩
        simp only [spec_l1Cur_tableOf.l0, hsh, e1, Option.bind_some]
        rw [wrapU (by omega) (by omega), wrap_nat (by omega)]
        exact Ev.pos (by omega) (Ev.pos (by omega) (Ev.neg c (Ev.pos c2 (Ev.pos (by omega) h1))))
      · obtain ⟨R, h1, h2⟩ := ih (i + 1) (acc ++ [0]) a' s' (by omega) (by simp; omega) r
        refine ⟨R, Ev.succ ?_, h2⟩
        simp only [spec_l1Cur_tableOf.l0, hsh, e1, Option.bind_some]
        rw [wrapU (by omega) (by omega), wrap_nat (by omega)]
        exact Ev.pos (by omega) (Ev.pos (by omega) (Ev.neg c (Ev.neg c2 (Ev.pos (by omega) h1))))
theorem table (l : List Int) (hl : Byt l) (a s : Int) (m : Nat) (h : Room (m + 36) a) : ∃ (n : Int) (L : List Int) (a' s' : Int), Ev (fun k => spec_l1Cur_table.f k l a s) (n, L, a', s') ∧ 0 ≤ n ∧ n ≤ 4 ∧ 1 ≤ L.length ∧ L.length ≤ 16 ∧ Room m a' := by
  obtain ⟨n, a1, s1, e1, r1, hn⟩ := among l hl a s [0, 1, 2, 2, 3, 3, 4] (by decide) (m + 34) h
  have hn4 : 0 ≤ n ∧ n ≤ 4 := by simp at hn; omega
  obtain ⟨few, a2, s2, e2, r2, _⟩ := among l hl a1 s1 [2, 2, 4, 8] (by decide) (m + 32) r1
  obtain ⟨z, rfl⟩ := Int.eq_ofNat_of_zero_le hn4.1
  have hp : (2 : Nat) ^ z ≤ 2 ^ 4 := Nat.pow_le_pow_right (by decide) (by omega)
  obtain ⟨⟨t, L, a3, s3⟩, h1, h2, h3, h4, h5⟩ := tableOf_loop l hl z (by omega) few (z : Int) m (2 ^ z) 0 [] a2 s2 (by omega) rfl (r2.less (by omega))
  simp only at h2 h3 h4 h5
  subst h2
  refine ⟨z, L, a3, s3, ?_, by omega, by omega, h3, h4, h5⟩
  unfold spec_l1Cur_table.f spec_l1Cur_tableOf.f
  rw [e1]
  simp only [Option.bind_some]
  rw [e2]
  simp only [Option.bind_some]
  exact Ev.bind h1 (Ev.now _)
theorem anyTable (l : List Int) (hl : Byt l) (a s : Int) (m : Nat) (h : Room (m + 42) a) : ∃ (n : Int) (L : List Int) (a' s' : Int), Ev (fun k => spec_l1Cur_anyTable.f k l a s) (n, L, a', s') ∧ -1 ≤ n ∧ n ≤ 5 ∧ L.length ≤ 32 ∧ Room m a' := by
  obtain ⟨n, L, a1, s1, h1, n0, n4, l1, l16, r1⟩ := table l hl a s (m + 6) h
  obtain ⟨x, a2, s2, e2, r2, _, _⟩ := pick l hl a1 s1 30 (m + 4) r1
  unfold spec_l1Cur_anyTable.f
  by_cases c0 : x = 0
  · obtain ⟨y, a3, s3, e3, r3, hy⟩ := among l hl a2 s2 [-1, wrap64 (n + 1)] (by simp) (m + 2) r2
    have hy' : y = -1 ∨ y = n + 1 := by rw [wrap_id (by omega) (by omega)] at hy; simpa using hy
    refine ⟨y, L, a3, s3, Ev.bind h1 ?_, by omega, by omega, by omega, r3.less (by omega)⟩
    simp only [e2, Option.bind_some]
    refine Ev.pos c0 ?_
    simp only [e3, Option.bind_some]
    exact Ev.now _
  by_cases c1 : x = 1
  · obtain ⟨y, a3, s3, e3, r3, y0, y1⟩ := pick l hl a2 s2 (L.length : Int) (m + 2) r2
    obtain ⟨z, a4, s4, e4, r4, _⟩ := among l hl a3 s3 [-1, 2] (by simp) m r3
    refine ⟨n, L.set (y : Int).toNat z, a4, s4, Ev.bind h1 ?_, by omega, by omega, by simp; omega, r4⟩
    simp only [e2, Option.bind_some]
    refine Ev.neg c0 (Ev.pos c1 ?_)
    simp only [e3, e4, Option.bind_some]
    exact Ev.pos (by omega) (Ev.pos (by omega) (Ev.now _))
  by_cases c2 : x = 2
  · refine ⟨n, L.drop (1 : Int).toNat, a2, s2, Ev.bind h1 ?_, by omega, by omega, by simp; omega, r2.less (by omega)⟩
    simp only [e2, Option.bind_some]
    exact Ev.neg c0 (Ev.neg c1 (Ev.pos c2 (Ev.pos (by omega) (Ev.now _))))
  by_cases c3 : x = 3
  · refine ⟨5, List.replicate 32 0, a2, s2, Ev.bind h1 ?_, by omega, by omega, by simp, r2.less (by omega)⟩
    simp only [e2, Option.bind_some]
    exact Ev.neg c0 (Ev.neg c1 (Ev.neg c2 (Ev.pos c3 (Ev.pos (by omega) (Ev.now _)))))
  · refine ⟨n, L, a2, s2, Ev.bind h1 ?_, by omega, by omega, by omega, r2.less (by omega)⟩
    simp only [e2, Option.bind_some]
    exact Ev.neg c0 (Ev.neg c1 (Ev.neg c2 (Ev.neg c3 (Ev.now _))))
theorem input (l : List Int) (hl : Byt l) (a s n : Int) (L : List Int) (m : Nat) (h : Room (m + 6) a) : ∃ x a' s', spec_l1Cur_input.f l a s n L = some (x, a', s') ∧ Room m a' := by
  unfold spec_l1Cur_input.f
  obtain ⟨t, ht⟩ : ∃ t, spec_l1Most.f 1 n = some t := by
    unfold spec_l1Most.f
    split <;> exact ⟨_, rfl⟩
  rw [ht]
  simp only [Option.bind_some]
  obtain ⟨x, a1, s1, e1, r1, _, _⟩ := pick l hl a s 16 (m + 4) h
  rw [e1]
  simp only [Option.bind_some]
  obtain ⟨y, a2, s2, e2, r2, _, _⟩ := pick l hl a1 s1 (wrap64 (t + wrap64 (Int.tdiv x 15))) (m + 2) r1
  rw [e2]
  simp only [Option.bind_some]
  obtain ⟨z, a3, s3, e3, r3, _, _⟩ := pick l hl a2 s2 24 m r2
  rw [e3]
  simp only [Option.bind_some]
  exact ⟨_, _, _, rfl, r3⟩
theorem room0 : Room 100 0 := ⟨by omega, by omega⟩
theorem drawFix (l : List Int) (hl : Byt l) : ∃ (n : Int) (L : List Int) (i v : Int), Ev (fun k => spec_DrawFixInput.f k l) (n, L, i, v) ∧ L.length ≤ 32 := by
  obtain ⟨n, L, a1, s1, h1, _, _, hL, r1⟩ := anyTable l hl 0 0 58 room0
  obtain ⟨i, a2, s2, e2, r2⟩ := input l hl a1 s1 n L 52 r1
  obtain ⟨x, a3, s3, e3, r3, _⟩ := among l hl a2 s2 [-1, 2] (by simp) 50 r2
  obtain ⟨v, a4, s4, e4, r4, _⟩ := among l hl a3 s3 [0, 1, 0, 1, x] (by simp) 48 r3
  refine ⟨n, L, i, v, ?_, hL⟩
  unfold spec_DrawFixInput.f spec_DrawFixInput.g
  have g : Ev (fun k => (spec_l1Cur_anyTable.f k l 0 0).bind fun bt => (spec_l1Cur_input.f l bt.2.2.1 bt.2.2.2 bt.1 bt.2.1).bind fun bt2 => (spec_l1Cur_among.f l bt2.2.1 bt2.2.2 [-1, 2]).bind fun bt3 => (spec_l1Cur_among.f l bt3.2.1 bt3.2.2 [0, 1, 0, 1, bt3.1]).bind fun bt4 => some (bt.1, bt.2.1, bt2.1, bt4.1, bt4.2.1, bt4.2.2)) (n, L, i, v, a4, s4) := by
    refine Ev.bind h1 ?_
    simp only [e2, e3, e4, Option.bind_some]
    exact Ev.now _
  exact Ev.bind g (Ev.now _)
theorem drawSwap (l : List Int) (hl : Byt l) : ∃ (n : Int) (L : List Int) (i v : Int), Ev (fun k => spec_DrawSwapInputs.f k l) (n, L, i, v) ∧ L.length ≤ 32 := by
  obtain ⟨n, L, a1, s1, h1, _, _, hL, r1⟩ := anyTable l hl 0 0 58 room0
  obtain ⟨i, a2, s2, e2, r2⟩ := input l hl a1 s1 n L 52 r1
  obtain ⟨v, a3, s3, e3, r3⟩ := input l hl a2 s2 n L 46 r2
  refine ⟨n, L, i, v, ?_, hL⟩
  unfold spec_DrawSwapInputs.f spec_DrawSwapInputs.g
  have g : Ev (fun k => (spec_l1Cur_anyTable.f k l 0 0).bind fun bt => (spec_l1Cur_input.f l bt.2.2.1 bt.2.2.2 bt.1 bt.2.1).bind fun bt2 => (spec_l1Cur_input.f l bt2.2.1 bt2.2.2 bt.1 bt.2.1).bind fun bt3 => some (bt.1, bt.2.1, bt2.1, bt3.1, bt3.2.1, bt3.2.2)) (n, L, i, v, a3, s3) := by
    refine Ev.bind h1 ?_
    simp only [e2, e3, Option.bind_some]
    exact Ev.now _
  exact Ev.bind g (Ev.now _)
theorem drawDep (l : List Int) (hl : Byt l) : ∃ (n : Int) (L : List Int), Ev (fun k => spec_DrawDependsOn.f k l) (n, L) ∧ L.length ≤ 32 := by
  obtain ⟨n, L, a1, s1, h1, _, _, hL, r1⟩ := anyTable l hl 0 0 58 room0
  refine ⟨n, L, ?_, hL⟩
  unfold spec_DrawDependsOn.f spec_DrawIsTable.f spec_DrawIsTable.g
  exact Ev.bind (Ev.bind (Ev.bind h1 (Ev.now _)) (Ev.now _)) (Ev.now _)
end Go.Proofs.Ytgekdgggpfiamaa.Draw
