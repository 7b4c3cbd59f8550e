--MINI
/- All states that the marbles reach: the reference's list of numbers and the program's marks tell the same. -/
import Derived.Test.YtbpfdbjnnlmdjaaFew
import Derived.Test.YtbpfdbjnnlmdjaaPx3
import Derived.Test.YtbpfdbjnnlmdjaaPx6
import Derived.Test.YtbpfdbjnnlmdjaaPx8
import Derived.Test.YtbpfdbjnnlmdjaaPx10
namespace Go.Proofs.Ytbpfdbjnnlmdjaa.Reach
open Go.RowKit Go.Proofs.Ytbpfdbjnnlmdjaa.P Go.Proofs.Ytbpfdbjnnlmdjaa.Base Go.Proofs.Ytbpfdbjnnlmdjaa.Board Go.Proofs.Ytbpfdbjnnlmdjaa.Groups Go.Proofs.Ytbpfdbjnnlmdjaa.Units Go.Proofs.YtbpfdbjnnlmdjaaW.PrintWords Go.Proofs.YtbpfdbjnnlmdjaaW.PrintLast Go.Proofs.YtbpfdbjnnlmdjaaW.PrintMore
set_option linter.unusedVariables false
set_option linter.unusedSimpArgs false
/-! the columns asked for -/
def okB (c : Int) (l : List Int) (i : Nat) : Bool := decide (0 ≤ rd l i ∧ rd l i < c ∧ (0 < i → rd l ((i : Int) - 1) < rd l i))
theorem Sr {c : Int} (hc : 1 ≤ c ∧ c ≤ 9) {l : List Int} (hl : l.length < 9223372036854775807) (d : Nat) : ∀ i : Nat, i + d = l.length → Ev (fun k => dI.l0 k l 0 (wrap64 (c - 1)) l l.length i) (zK (okB c l) i d) := by
  have e1 : wrap64 (c - 1) = c - 1 := gH (by omega) (by omega)
  induction d with
  | zero =>
    intro i hi
    refine Ev.succ ?_
    simp only [dI.l0]
    exact Ev.neg (by omega) (Ev.now _)
  | succ d ih =>
    intro i hi
    have ih' := ih (i + 1) (by omega)
    rw [e1] at ih' ⊢
    refine Ev.succ ?_
    simp only [dI.l0, Fall.ay3, Option.bind_some]
    refine Ev.pos (by omega) (Ev.pos (by omega) (Ev.pos (by omega) ?_))
    rw [bI (by omega), gH (x := (i : Int) - 1) (by omega) (by omega)]
    by_cases h : 0 ≤ rd l i ∧ rd l i < c
    · refine Ev.pos (decide_eq_true (by omega)) ?_
      by_cases h0 : 0 < i
      · refine Ev.pos (by omega) (Ev.pos (by omega) (Ev.pos (by omega) ?_))
        by_cases h1 : rd l ((i : Int) - 1) < rd l i
        · refine Ev.neg (by omega) (Ev.val ih' ?_)
          simp [zK, okB, h, h1]
        · refine Ev.pos (by omega) (Ev.val (Ev.now _) ?_)
          simp only [zK, okB]
          rw [decide_eq_false (by rintro ⟨_, _, q⟩; exact h1 (q h0))]; rfl
      · refine Ev.neg (by omega) (Ev.val ih' ?_)
        simp [zK, okB, h, h0]
    · refine Ev.neg (by simp only [decide_eq_true_eq]; omega) (Ev.val (Ev.now _) ?_)
      simp only [zK, okB]
      rw [decide_eq_false (by rintro ⟨q, q', _⟩; exact h ⟨q, q'⟩)]; rfl
theorem ahK {r c : Int} {cs : List C} (hc : 1 ≤ c ∧ c ≤ 9) {l : List Int} (hl : l.length < 9223372036854775807) (d : Nat) : ∀ i : Nat, i + d = l.length → Ev (fun k => aN.l0 k l l l.length i r c cs) (zK (okB c l) i d) := by
  induction d with
  | zero =>
    intro i hi
    refine Ev.succ ?_
    simp only [aN.l0]
    exact Ev.neg (by omega) (Ev.now _)
  | succ d ih =>
    intro i hi
    have ih' := ih (i + 1) (by omega)
    refine Ev.succ ?_
    simp only [aN.l0]
    refine Ev.pos (by omega) (Ev.pos (by omega) (Ev.pos (by omega) ?_))
    rw [bI (by omega), gH (x := (i : Int) - 1) (by omega) (by omega)]
    by_cases h : 0 ≤ rd l i ∧ rd l i < c
    · refine Ev.neg (by omega) (Ev.neg (by omega) ?_)
      by_cases h0 : 0 < i
      · refine Ev.pos (by omega) (Ev.pos (by omega) (Ev.pos (by omega) ?_))
        by_cases h1 : rd l ((i : Int) - 1) < rd l i
        · refine Ev.neg (by omega) (Ev.val ih' ?_)
          simp [zK, okB, h, h1]
        · refine Ev.pos (by omega) (Ev.val (Ev.now _) ?_)
          simp only [zK, okB]
          rw [decide_eq_false (by rintro ⟨_, _, q⟩; exact h1 (q h0))]; rfl
      · refine Ev.neg (by omega) (Ev.val ih' ?_)
        simp [zK, okB, h, h0]
    · have e : false = zK (okB c l) i (d + 1) := by
        simp only [zK, okB]
        rw [decide_eq_false (by rintro ⟨q, q', _⟩; exact h ⟨q, q'⟩)]; rfl
      refine Ev.split (fun _ => Ev.val (Ev.now _) e) (fun h0 => Ev.pos (by omega) (Ev.val (Ev.now _) e))
/-- The tests of a board and of columns. -/
theorem XO (r c : Int) (cs : List C) (l : List Int) (hb : cs.length ≤ 1048576) (hl : l.length ≤ 1048576) : (∃ U NX EX G B N0, Few r c cs U NX EX G B N0 ∧ (∀ x ∈ l, 0 ≤ x ∧ x < c) ∧ Ev (fun k => fH.f k r c cs l) true ∧ Ev (fun k => dP.f k r c cs) true ∧ Ev (fun k => aN.f k r c cs l) true) ∨
    (Ev (fun k => fH.f k r c cs l) false ∧ (Ev (fun k => dP.f k r c cs) false ∨ Ev (fun k => dP.f k r c cs) true ∧ Ev (fun k => aN.f k r c cs l) false)) := by
  rcases ahL r c cs hb with ⟨U, NX, EX, G, B, N0, hF, s, i⟩ | ⟨s, i⟩
  · have hg := hF.good.1
    have hc : 1 ≤ c ∧ c ≤ 9 := ⟨by omega, by omega⟩
    by_cases h0 : 0 < l.length
    · have sp : ∀ b, zK (okB c l) 0 l.length = b → Ev (fun k => fH.f k r c cs l) b := fun b hb' => by
        unfold fH.f
        refine Ev.bind s (Ev.pos rfl (Ev.pos (by omega) (Ev.bind (a := b) ?_ (Ev.now _))))
        unfold dI.f
        exact Ev.val (Sr hc (by omega) l.length 0 (by omega)) hb'
      have im : ∀ b, zK (okB c l) 0 l.length = b → Ev (fun k => aN.f k r c cs l) b := fun b hb' => by
        unfold aN.f
        exact Ev.neg (by omega) (Ev.val (ahK hc (by omega) l.length 0 (by omega)) hb')
      cases hq : zK (okB c l) 0 l.length with
      | true =>
        refine .inl ⟨U, NX, EX, G, B, N0, hF, fun x hx => ?_, sp _ hq, i, im _ hq⟩
        obtain ⟨j, hj, rfl⟩ := List.getElem_of_mem hx
        have q := (Ho _ _ _).1 hq j (by omega) (by omega)
        simp only [okB, decide_eq_true_eq] at q
        rw [lh hj] at q
        exact ⟨q.1, q.2.1⟩
      | false => exact .inr ⟨sp _ hq, .inr ⟨i, im _ hq⟩⟩
    · refine .inr ⟨?_, .inr ⟨i, ?_⟩⟩
      · unfold fH.f
        exact Ev.bind s (Ev.pos rfl (Ev.neg (by omega) (Ev.now _)))
      · unfold aN.f
        exact Ev.pos (by omega) (Ev.now _)
  · refine .inr ⟨?_, .inl i⟩
    unfold fH.f
    exact Ev.bind s (Ev.neg (by simp) (Ev.now _))
/-! the search -/
theorem U7 {l : List Int} {x : Int} (hl : l.length < 9223372036854775807) (d : Nat) : ∀ i : Nat, i + d = l.length → Ev (fun k => fF.l0 k x l l.length i) (decide (x ∈ l.drop i)) := by
  induction d with
  | zero =>
    intro i hi
    refine Ev.succ ?_
    simp only [fF.l0]
    refine Ev.neg (by omega) (Ev.val (Ev.now _) ?_)
    rw [List.drop_of_length_le (by omega)]; simp
  | succ d ih =>
    intro i hi
    refine Ev.succ ?_
    simp only [fF.l0]
    refine Ev.pos (by omega) (Ev.pos (by omega) (Ev.pos (by omega) ?_))
    rw [bI (by omega), lh (by omega), oK (xs := l) (by omega)]
    by_cases e : l[i] = x
    · refine Ev.pos e (Ev.val (Ev.now _) ?_)
      simp [e]
    · refine Ev.neg e (Ev.val (ih (i + 1) (by omega)) ?_)
      have : ¬ x = l[i] := fun h => e h.symm
      rw [decide_eq_decide]; simp only [List.mem_cons, this, false_or]
theorem ay4 {l : List Int} (x : Int) (hl : l.length < 9223372036854775807) : Ev (fun k => fF.f k l x) (decide (x ∈ l)) := by
  unfold fF.f
  exact Ev.val (U7 hl l.length 0 (by omega)) (by simp)
def EN (S : List Bool) : Nat := (S.filter (!·)).length
theorem EO : ∀ (S : List Bool) (i : Nat), i < S.length → S.getD i false = false → EN (S.set i true) + 1 = EN S
  | [], i, h, _ => by simp at h
  | b :: S, 0, _, h => by simp at h; subst h; simp [EN]
  | b :: S, i + 1, h, h' => by
    have := EO S i (by simpa using h) (by simpa using h')
    simp only [EN, List.set_cons_succ, List.filter_cons] at this ⊢
    split
    · simp only [List.length_cons]; omega
    · exact this
/-- What holds of the search, all along: the numbers met, the ways, the marks. -/
structure Inv (M : Nat) (N : List Int) (W : List (List Int)) (S : List Bool) : Prop where
  len : W.length = N.length
  ways : ∀ w ∈ W, w.length ≤ W.length
  lt : ∀ x ∈ N, 0 ≤ x ∧ x < (M : Int)
  sl : S.length = M
  seen : ∀ i : Nat, i < M → S.getD i false = decide ((i : Int) ∈ N)
  fit : N.length + EN S = M
theorem Inv.add {M : Nat} {N : List Int} {W : List (List Int)} {S : List Bool} (h : Inv M N W S) {x : Int} (h0 : 0 ≤ x) (h1 : x < (M : Int)) (hx : x ∉ N) {w : List Int} (hw : w ∈ W) (y : Int) : Inv M (N ++ [x]) (W ++ [w ++ [y]]) (S.set x.toNat true) := by
  obtain ⟨n, rfl⟩ := Int.eq_ofNat_of_zero_le h0
  have hn : n < M := by omega
  have hs := h.seen n hn
  rw [decide_eq_false hx] at hs
  refine ⟨by simp [h.len], ?_, ?_, by simpa using h.sl, ?_, ?_⟩
  · intro v hv
    rcases List.mem_append.1 hv with q | q
    · have := h.ways v q; simp; omega
    · have e := List.mem_singleton.1 q
      have := h.ways w hw
      rw [e]; simp; omega
  · intro z hz
    rcases List.mem_append.1 hz with q | q
    · exact h.lt z q
    · rw [List.mem_singleton.1 q]; exact ⟨h0, h1⟩
  · intro i hi
    rw [Int.toNat_natCast]
    by_cases e : n = i
    · subst e
      simp [List.getD, List.getElem?_set, h.sl, hi]
    · have q := h.seen i hi
      have e' : ¬ (i : Int) = (n : Int) := by omega
      simp only [List.getD, List.getElem?_set, if_neg e] at q ⊢
      rw [q]; simp [e']
  · have := EO S n (by rw [h.sl]; exact hn) hs
    have := h.fit
    rw [Int.toNat_natCast]; simp; omega
theorem rdS {S : List Bool} {x : Int} (h0 : 0 ≤ x) : Eu false S x = S.getD x.toNat false := rfl
end Go.Proofs.Ytbpfdbjnnlmdjaa.Reach
