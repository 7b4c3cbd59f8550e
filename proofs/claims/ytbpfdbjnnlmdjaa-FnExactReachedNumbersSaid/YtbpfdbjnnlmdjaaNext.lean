/- The state behind a marble: the reference's number and the program's table are one. -/
import Derived.Test.YtbpfdbjnnlmdjaaInState
import Derived.Test.YtbpfdbjnnlmdjaaBitNum
import Derived.Test.YtbpfdbjnnlmdjaaFall
import Derived.Test.YtbpfdbjnnlmdjaaSameU
import Derived.Test.YtbpfdbjnnlmdjaaPx1
import Derived.Test.YtbpfdbjnnlmdjaaPx2
import Derived.Test.YtbpfdbjnnlmdjaaPx3
import Derived.Test.YtbpfdbjnnlmdjaaPx4
namespace Go.Proofs.Ytbpfdbjnnlmdjaa.Units
open Go.RowKit P Base Board Groups YtbpfdbjnnlmdjaaW.PrintWords YtbpfdbjnnlmdjaaW.PrintLast YtbpfdbjnnlmdjaaW.PrintMore
set_option linter.all false
theorem shl_nat {i : Nat} (hi : i ≤ 16) : shl .i64 1 (i : Int) = ((2 ^ i : Nat) : Int) := by
  have := pow16 hi
  unfold shl
  rw [show min (Int.toNat (i : Int)) IntKind.i64.bits = i by simp [IntKind.bits]; omega, Int.one_mul, i64_w, wrap_id (by omega) (by omega)]
  simp
theorem pow_nat {i : Nat} (hi : i ≤ 16) : 1 ≤ 2 ^ i ∧ 2 ^ i ≤ 65536 := ⟨Nat.one_le_two_pow, Nat.le_trans (Nat.pow_le_pow_right (by decide) hi) (by decide)⟩
theorem pow_cast (i : Nat) : ((2 ^ i : Nat) : Int) = 2 ^ i := by simp
theorem Us.like {a b : List C} {n : Nat} {U : List (List Int)} (hU : Us b n U) (h : Like a b) : Us a n U :=
  ⟨hU.some, hU.small, fun k hk x hx => by
    obtain ⟨j, hj, e, hi, kd⟩ := hU.at_ k hk x hx
    have h2 := h.2 (j : Int)
    rw [rdC_get (by rw [h.1]; exact hj), rdC_get hj] at h2
    exact ⟨j, by rw [h.1]; exact hj, e, hi, by rw [h2]; exact kd⟩, hU.own, hU.few⟩
structure Step (r c : Int) (cs : List C) (U : List (List Int)) (G : List Int) (n col N e : Int) : Prop where
  spec : ∃ rw cl, Ev (fun k => spec_reNext.f k r c cs n col) (N, e, rw, cl)
  impl : ∃ (R0 R : List C) (W : List Int) (rw cl : Int), Ev (fun k => impl_setBits.f k r c cs U (bitsN n U.length)) R0 ∧ Ev (fun k => impl_drop.f k r c R0 G col) (e, rw, cl, W, R) ∧ R0.length = cs.length ∧ Like R cs ∧ Ev (fun k => impl_numberOf.f k (U.map (bitAt R))) N
  lo : 0 ≤ N
  hi : N < ((2 ^ U.length : Nat) : Int)
  elo : 1 ≤ e
  ehi : e ≤ 3
theorem next {r c : Int} {cs : List C} (h : Board.Good r c cs) {U : List (List Int)} (hU : Us cs cs.length U) (u1 : Ev (fun k => spec_saUnits.f k r c cs) U) (h16 : U.length ≤ 16) {G : List Int} (g1 : Ev (fun k => spec_ggGroups.f k r c cs) G) (hG : G.length = cs.length)
    (n col : Int) (h0 : 0 ≤ col) (h1 : col < c) : ∃ N e, Step r c cs U G n col N e := by
  obtain ⟨R0, i1, i2, hl0, hL0, hg0⟩ := inState h hU u1 n
  obtain ⟨e, rw', cl, R, W, W', f1, f2, hLR, hgR, e1, e2, _⟩ := Fall.fall hg0 h0 h1 (G := G) (by rw [hG, hl0]) R0
  have hL : Like R cs := hLR.trans hL0
  obtain ⟨U', hU', v1, _, b1, _, b01⟩ := bitsOK hgR
  have eU : U' = U := by rw [units_like hL] at v1; exact det v1 u1
  subst eU
  have hB : (U'.map (bitAt R)).length ≤ 16 := by simpa using h16
  have hv := value_lt (U'.map (bitAt R)) b01 _ (Nat.le_refl _)
  have hl := h.len
  refine ⟨value (U'.map (bitAt R)) (U'.map (bitAt R)).length, e, ⟨rw', cl, ?_⟩, ⟨R0, R, W, rw', cl, i2, f2, hl0, hL, ?_⟩, hv.1, ?_, e1, e2⟩
  · unfold spec_reNext.f
    refine Ev.bind i1 (Ev.bind (a := (e, rw', cl, r, c, R)) ?_ (Ev.bind (a := value (U'.map (bitAt R)) (U'.map (bitAt R)).length) ?_ (Ev.now _)))
    · unfold spec_flRun.f
      refine Ev.bind (a := G) (by rw [groups_like hL0]; exact g1) (Ev.bind (a := (e, rw', cl, r, c, R, W')) ?_ (Ev.now _))
      unfold spec_flGo.f
      rw [boOwn (by show R0.length ≤ _; omega)]
      simp only [Option.bind_some]
      exact f1
    · unfold spec_saNumber.f
      exact Ev.bind b1 (specNum_loop hB b01 (U'.map (bitAt R)).length 0 (by omega))
  · unfold impl_numberOf.f
    exact implNum_loop hB b01 (U'.map (bitAt R)).length 0 (by omega)
  · have := hv.2
    rw [List.length_map] at this ⊢
    rw [pow_cast]; exact this
theorem nexts {r c : Int} {cs : List C} (h : Board.Good r c cs) {U : List (List Int)} (hU : Us cs cs.length U) (u1 : Ev (fun k => spec_saUnits.f k r c cs) U) (h16 : U.length ≤ 16) {G : List Int} (g1 : Ev (fun k => spec_ggGroups.f k r c cs) G) (hG : G.length = cs.length) :
    ∃ NX EX : Int → Int → Int, ∀ n col, 0 ≤ col → col < c → Step r c cs U G n col (NX n col) (EX n col) := by
  have hp : ∀ p : Int × Int, ∃ q : Int × Int, 0 ≤ p.2 → p.2 < c → Step r c cs U G p.1 p.2 q.1 q.2 := fun p => by
    by_cases hp : 0 ≤ p.2 ∧ p.2 < c
    · obtain ⟨N, e, s⟩ := next h hU u1 h16 g1 hG p.1 p.2 hp.1 hp.2
      exact ⟨(N, e), fun _ _ => s⟩
    · exact ⟨(0, 0), fun a b => absurd ⟨a, b⟩ hp⟩
  obtain ⟨f, hf⟩ := Classical.skolem.1 hp
  exact ⟨fun n col => (f (n, col)).1, fun n col => (f (n, col)).2, fun n col a b => hf (n, col) a b⟩
def rowN (NX : Int → Int → Int) (m : Nat) (col : Int) : List Int := (List.range (2 ^ m)).map fun (n : Nat) => NX n col
theorem rowN_len (NX : Int → Int → Int) (m : Nat) (col : Int) : (rowN NX m col).length = 2 ^ m := by simp [rowN]
theorem rowN_rd (NX : Int → Int → Int) (m : Nat) (col : Int) {n : Nat} (hn : n < 2 ^ m) : rd (rowN NX m col) (n : Int) = NX n col := by
  rw [rd_get (by rw [rowN_len]; exact hn)]; simp [rowN]
theorem take_next {α : Type} {a b : List α} {i : Nat} (ha : i < a.length) (hb : i < b.length) (h : a.take i = b.take i) (he : a[i] = b[i]) : a.take (i + 1) = b.take (i + 1) := by
  rw [List.take_succ_eq_append_getElem ha, List.take_succ_eq_append_getElem hb, h, he]
theorem na_bits {r c : Int} {cs R : List C} {U out : List (List Int)} (hU : Us R R.length U) (hR : R.length ≤ 90) {G cols : List Int} {x8 x9 x10 x22 x23 x39 x40 : Int} {res : List (List Int)}
    (K : Ev (fun k => if 0 ≤ x8 then (if x8 < (out.length : Int) then ((impl_numberOf.f k (U.map (bitAt R))).bind fun t => (if 0 ≤ x10 then (if x10 < ((rd_L3 out x8).length : Int) then (impl_numbersAfter.l1 k U G (out.set (x8 : Int).toNat ((rd_L3 out x8).set (x10 : Int).toNat t)) x8 x9 cols x22 x23 x39 (wrap64 (x40 + 1)) r c cs) else (none)) else (none))) else (none)) else (none)) res) (d : Nat) :
    ∀ (i : Nat) (x12 : List Int), i + d = U.length → x12.length = U.length → x12.take i = (U.map (bitAt R)).take i → Ev (fun k => impl_numbersAfter.l2 k U G out x8 x9 x10 x12 cols x22 x23 x39 x40 U.length i r c cs r c R) res := by
  have hf := hU.few
  induction d with
  | zero =>
    intro i x12 hi hx ht
    have e : x12 = U.map (bitAt R) := by
      rw [List.take_of_length_le (by omega), List.take_of_length_le (by simp; omega)] at ht
      exact ht
    refine Ev.succ ?_
    simp only [impl_numbersAfter.l2]
    refine Ev.neg (by omega) ?_
    rw [e]; exact K
  | succ d ih =>
    intro i x12 hi hx ht
    have hk : i < U.length := by omega
    have h0 := hU.some i hk
    obtain ⟨j, hj, e, _, _, _⟩ := hU.first hk
    refine Ev.succ ?_
    simp only [impl_numbersAfter.l2]
    refine Ev.pos (by omega) (Ev.pos (by omega) (Ev.pos (by omega) ?_))
    rw [rdL_get hk]
    refine Ev.pos (by omega) (Ev.pos (by omega) (Ev.pos (by omega) (Ev.pos (by omega) ?_)))
    rw [wrap_nat (by omega), Int.toNat_natCast]
    refine ih (i + 1) _ (by omega) (by simpa using hx) (take_next (by simp; omega) (by simp; omega) (by rw [List.take_set_of_le (Nat.le_refl _)]; exact ht) ?_)
    simp [bitAt]
theorem na_row {r c : Int} {cs : List C} (h : Board.Good r c cs) {U : List (List Int)} (hU : Us cs cs.length U) (h16 : U.length ≤ 16) {G : List Int} {NX EX : Int → Int → Int} {col : Int} (hN : ∀ n, Step r c cs U G n col (NX n col) (EX n col)) {cols : List Int} {T : List (List Int)} {i : Nat} {res : List (List Int)}
    (K : ∀ out : List (List Int), out.length = cols.length → out.take i = T.take i → (hi : i < out.length) → out[i] = rowN NX U.length col → Ev (fun k => impl_numbersAfter.l0 k U G out cols cols.length (wrap64 ((i : Int) + 1)) r c cs) res) (hi : i < cols.length) (d : Nat) :
    ∀ (n : Nat) (out : List (List Int)), n + d = 2 ^ U.length → out.length = cols.length → (hi : i < out.length) → out.take i = T.take i → out[i].length = 2 ^ U.length → out[i].take n = (rowN NX U.length col).take n →
      Ev (fun k => impl_numbersAfter.l1 k U G out i col cols cols.length i ((2 ^ U.length : Nat) : Int) n r c cs) res := by
  have hp := pow_nat h16
  have hl := h.len
  have hf := hU.few
  induction d with
  | zero =>
    intro n out hn ho hi ht hM hr
    refine Ev.succ ?_
    simp only [impl_numbersAfter.l1]
    refine Ev.neg (by omega) (K out ho ht hi ?_)
    rw [List.take_of_length_le (by omega), List.take_of_length_le (by rw [rowN_len]; omega)] at hr
    exact hr
  | succ d ih =>
    intro n out hn ho hi ht hM hr
    obtain ⟨R0, R, W, rw', cl, s1, s2, hl0, hLR, s3⟩ := (hN n).impl
    have hlR := hLR.1
    have hUR : Us R R.length U := by rw [hlR]; exact hU.like hLR
    refine Ev.succ ?_
    simp only [impl_numbersAfter.l1]
    refine Ev.pos (by omega) ?_
    rw [copyBoard (by omega)]
    simp only [Option.bind_some]
    refine Ev.bind (bitList (by omega)) (Ev.bind s1 (Ev.bind s2 (Ev.pos (by omega) (Ev.pos (by omega) ?_))))
    rw [Int.toNat_natCast]
    refine na_bits hUR (by omega) ?_ U.length 0 _ (by omega) (by simp) rfl
    refine Ev.pos (by omega) (Ev.pos (by omega) (Ev.bind s3 ?_))
    rw [rdL_get hi, Int.toNat_natCast, Int.toNat_natCast]
    refine Ev.pos (by omega) (Ev.pos (by omega) ?_)
    rw [wrap_nat (by omega)]
    refine ih (n + 1) _ (by omega) (by simpa using ho) (by simpa using hi) (by rw [List.take_set_of_le (Nat.le_refl _)]; exact ht) (by simpa using hM) ?_
    rw [List.getElem_set_self]
    refine take_next (by simp; omega) (by rw [rowN_len]; omega) (by rw [List.take_set_of_le (Nat.le_refl _)]; exact hr) ?_
    simp [rowN]
theorem na_cols {r c : Int} {cs : List C} (h : Board.Good r c cs) {U : List (List Int)} (hU : Us cs cs.length U) (h16 : U.length ≤ 16) {G : List Int} {NX EX : Int → Int → Int} (hN : ∀ n col, 0 ≤ col → col < c → Step r c cs U G n col (NX n col) (EX n col)) {cols : List Int} (hb : cols.length ≤ 1048576) (hc : ∀ x ∈ cols, 0 ≤ x ∧ x < c) (d : Nat) :
    ∀ (i : Nat) (out : List (List Int)), i + d = cols.length → out.length = cols.length → out.take i = (cols.map (rowN NX U.length)).take i → Ev (fun k => impl_numbersAfter.l0 k U G out cols cols.length i r c cs) (cols.map (rowN NX U.length)) := by
  have hp := pow_nat h16
  induction d with
  | zero =>
    intro i out hi ho ht
    refine Ev.succ ?_
    simp only [impl_numbersAfter.l0]
    refine Ev.neg (by omega) (Ev.val (Ev.now _) ?_)
    rw [List.take_of_length_le (by omega), List.take_of_length_le (by simp; omega)] at ht
    exact ht
  | succ d ih =>
    intro i out hi ho ht
    have hx := hc cols[i] (List.getElem_mem (by omega))
    refine Ev.succ ?_
    simp only [impl_numbersAfter.l0, Option.bind_some]
    rw [shl_nat h16]
    refine Ev.pos (by omega) (Ev.pos (by omega) (Ev.pos (by omega) (Ev.pos (by omega) (Ev.pos (by omega) (Ev.pos (by omega) ?_)))))
    rw [Int.toNat_natCast, Int.toNat_natCast, rd_get (by omega), rdL_get (by simp; omega), List.getElem_set_self, List.length_replicate]
    refine na_row h hU h16 (fun n => hN n cols[i] hx.1 hx.2) (T := cols.map (rowN NX U.length)) (fun out' ho' ht' hi' he => ?_) (by omega) (2 ^ U.length) 0 _ (by omega) (by simpa using ho) (by simp; omega) (by rw [List.take_set_of_le (Nat.le_refl _)]; exact ht) (by rw [List.getElem_set_self]; simp) rfl
    rw [wrap_nat (by omega)]
    exact ih (i + 1) out' (by omega) ho' (take_next hi' (by simp; omega) ht' (by rw [he]; simp))
theorem numbersAfter {r c : Int} {cs : List C} (h : Board.Good r c cs) {U : List (List Int)} (hU : Us cs cs.length U) (u2 : Ev (fun k => impl_unitsOf.f k r c cs) U) (h16 : U.length ≤ 16) {G : List Int} (g2 : Ev (fun k => impl_groupNumbers.f k r c cs) G) {NX EX : Int → Int → Int} (hN : ∀ n col, 0 ≤ col → col < c → Step r c cs U G n col (NX n col) (EX n col)) {cols : List Int} (hb : cols.length ≤ 1048576) (hc : ∀ x ∈ cols, 0 ≤ x ∧ x < c) :
    Ev (fun k => impl_numbersAfter.f k r c cs cols) (cols.map (rowN NX U.length)) := by
  unfold impl_numbersAfter.f
  refine Ev.bind u2 (Ev.bind g2 ?_)
  unfold impl_numbersAfter.g
  refine Ev.pos (by omega) (Ev.pos (by omega) ?_)
  exact na_cols h hU h16 hN hb hc cols.length 0 _ (by omega) (by simp) (by simp)
end Go.Proofs.Ytbpfdbjnnlmdjaa.Units
