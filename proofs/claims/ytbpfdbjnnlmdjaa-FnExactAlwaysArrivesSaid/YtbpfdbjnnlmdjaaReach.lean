--MINI
/- All states that the marbles reach: the reference's list of numbers and the program's marks tell the same. -/
import Derived.Test.YtbpfdbjnnlmdjaaFew
import Derived.Test.YtbpfdbjnnlmdjaaPx2
import Derived.Test.YtbpfdbjnnlmdjaaPx4
import Derived.Test.YtbpfdbjnnlmdjaaPx5
import Derived.Test.YtbpfdbjnnlmdjaaPx6
namespace Go.Proofs.Ytbpfdbjnnlmdjaa.Reach
open Go.RowKit Go.Proofs.Ytbpfdbjnnlmdjaa.P Go.Proofs.Ytbpfdbjnnlmdjaa.Base Go.Proofs.Ytbpfdbjnnlmdjaa.Board Go.Proofs.Ytbpfdbjnnlmdjaa.Groups Go.Proofs.Ytbpfdbjnnlmdjaa.Units Go.Proofs.YtbpfdbjnnlmdjaaW.PrintWords Go.Proofs.YtbpfdbjnnlmdjaaW.PrintLast Go.Proofs.YtbpfdbjnnlmdjaaW.PrintMore
set_option linter.unusedVariables false
set_option linter.unusedSimpArgs false
/-! the columns asked for -/
def okB (c : Int) (l : List Int) (i : Nat) : Bool := decide (0 ≤ rd l i ∧ rd l i < c ∧ (0 < i → rd l ((i : Int) - 1) < rd l i))
theorem Sr {c : Int} (hc : 1 ≤ c ∧ c ≤ 9) {l : List Int} (hl : l.length < 9223372036854775807) (d : Nat) : ∀ i : Nat, i + d = l.length → Ev (fun k => dI.l0 k l 0 (wrap64 (c - 1)) l l.length i) (zK (okB c l) i d) := by
  have e1 : wrap64 (c - 1) = c - 1 := gH (by omega) (by omega)
  induction d with
  | zero =>
    intro i hi
    refine Ev.succ ?_
    simp only [dI.l0]
    exact Ev.neg (by omega) (Ev.now _)
  | succ d ih =>
    intro i hi
    have ih' := ih (i + 1) (by omega)
    rw [e1] at ih' ⊢
    refine Ev.succ ?_
    simp only [dI.l0, Fall.ay3, Option.bind_some]
    refine Ev.pos (by omega) (Ev.pos (by omega) (Ev.pos (by omega) ?_))
    rw [bI (by omega), gH (x := (i : Int) - 1) (by omega) (by omega)]
    by_cases h : 0 ≤ rd l i ∧ rd l i < c
    · refine Ev.pos (decide_eq_true (by omega)) ?_
      by_cases h0 : 0 < i
      · refine Ev.pos (by omega) (Ev.pos (by omega) (Ev.pos (by omega) ?_))
        by_cases h1 : rd l ((i : Int) - 1) < rd l i
        · refine Ev.neg (by omega) (Ev.val ih' ?_)
          simp [zK, okB, h, h1]
        · refine Ev.pos (by omega) (Ev.val (Ev.now _) ?_)
          simp only [zK, okB]
          rw [decide_eq_false (by rintro ⟨_, _, q⟩; exact h1 (q h0))]; rfl
      · refine Ev.neg (by omega) (Ev.val ih' ?_)
        simp [zK, okB, h, h0]
    · refine Ev.neg (by simp only [decide_eq_true_eq]; omega) (Ev.val (Ev.now _) ?_)
      simp only [zK, okB]
      rw [decide_eq_false (by rintro ⟨q, q', _⟩; exact h ⟨q, q'⟩)]; rfl
theorem ahK {r c : Int} {cs : List C} (hc : 1 ≤ c ∧ c ≤ 9) {l : List Int} (hl : l.length < 9223372036854775807) (d : Nat) : ∀ i : Nat, i + d = l.length → Ev (fun k => aN.l0 k l l l.length i r c cs) (zK (okB c l) i d) := by
  induction d with
  | zero =>
    intro i hi
    refine Ev.succ ?_
    simp only [aN.l0]
    exact Ev.neg (by omega) (Ev.now _)
  | succ d ih =>
    intro i hi
    have ih' := ih (i + 1) (by omega)
    refine Ev.succ ?_
    simp only [aN.l0]
    refine Ev.pos (by omega) (Ev.pos (by omega) (Ev.pos (by omega) ?_))
    rw [bI (by omega), gH (x := (i : Int) - 1) (by omega) (by omega)]
    by_cases h : 0 ≤ rd l i ∧ rd l i < c
    · refine Ev.neg (by omega) (Ev.neg (by omega) ?_)
      by_cases h0 : 0 < i
      · refine Ev.pos (by omega) (Ev.pos (by omega) (Ev.pos (by omega) ?_))
        by_cases h1 : rd l ((i : Int) - 1) < rd l i
        · refine Ev.neg (by omega) (Ev.val ih' ?_)
          simp [zK, okB, h, h1]
        · refine Ev.pos (by omega) (Ev.val (Ev.now _) ?_)
          simp only [zK, okB]
          rw [decide_eq_false (by rintro ⟨_, _, q⟩; exact h1 (q h0))]; rfl
      · refine Ev.neg (by omega) (Ev.val ih' ?_)
        simp [zK, okB, h, h0]
    · have e : false = zK (okB c l) i (d + 1) := by
        simp only [zK, okB]
        rw [decide_eq_false (by rintro ⟨q, q', _⟩; exact h ⟨q, q'⟩)]; rfl
      refine Ev.split (fun _ => Ev.val (Ev.now _) e) (fun h0 => Ev.pos (by omega) (Ev.val (Ev.now _) e))
/-- The tests of a board and of columns. -/
theorem XO (r c : Int) (cs : List C) (l : List Int) (hb : cs.length ≤ 1048576) (hl : l.length ≤ 1048576) : (∃ U NX EX G B N0, Few r c cs U NX EX G B N0 ∧ (∀ x ∈ l, 0 ≤ x ∧ x < c) ∧ Ev (fun k => fH.f k r c cs l) true ∧ Ev (fun k => dP.f k r c cs) true ∧ Ev (fun k => aN.f k r c cs l) true) ∨
    (Ev (fun k => fH.f k r c cs l) false ∧ (Ev (fun k => dP.f k r c cs) false ∨ Ev (fun k => dP.f k r c cs) true ∧ Ev (fun k => aN.f k r c cs l) false)) := by
  rcases ahL r c cs hb with ⟨U, NX, EX, G, B, N0, hF, s, i⟩ | ⟨s, i⟩
  · have hg := hF.good.1
    have hc : 1 ≤ c ∧ c ≤ 9 := ⟨by omega, by omega⟩
    by_cases h0 : 0 < l.length
    · have sp : ∀ b, zK (okB c l) 0 l.length = b → Ev (fun k => fH.f k r c cs l) b := fun b hb' => by
        unfold fH.f
        refine Ev.bind s (Ev.pos rfl (Ev.pos (by omega) (Ev.bind (a := b) ?_ (Ev.now _))))
        unfold dI.f
        exact Ev.val (Sr hc (by omega) l.length 0 (by omega)) hb'
      have im : ∀ b, zK (okB c l) 0 l.length = b → Ev (fun k => aN.f k r c cs l) b := fun b hb' => by
        unfold aN.f
        exact Ev.neg (by omega) (Ev.val (ahK hc (by omega) l.length 0 (by omega)) hb')
      cases hq : zK (okB c l) 0 l.length with
      | true =>
        refine .inl ⟨U, NX, EX, G, B, N0, hF, fun x hx => ?_, sp _ hq, i, im _ hq⟩
        obtain ⟨j, hj, rfl⟩ := List.getElem_of_mem hx
        have q := (Ho _ _ _).1 hq j (by omega) (by omega)
        simp only [okB, decide_eq_true_eq] at q
        rw [lh hj] at q
        exact ⟨q.1, q.2.1⟩
      | false => exact .inr ⟨sp _ hq, .inr ⟨i, im _ hq⟩⟩
    · refine .inr ⟨?_, .inr ⟨i, ?_⟩⟩
      · unfold fH.f
        exact Ev.bind s (Ev.pos rfl (Ev.neg (by omega) (Ev.now _)))
      · unfold aN.f
        exact Ev.pos (by omega) (Ev.now _)
  · refine .inr ⟨?_, .inl i⟩
    unfold fH.f
    exact Ev.bind s (Ev.neg (by simp) (Ev.now _))
/-! the search -/
theorem U7 {l : List Int} {x : Int} (hl : l.length < 9223372036854775807) (d : Nat) : ∀ i : Nat, i + d = l.length → Ev (fun k => fF.l0 k x l l.length i) (decide (x ∈ l.drop i)) := by
  induction d with
  | zero =>
    intro i hi
    refine Ev.succ ?_
    simp only [fF.l0]
    refine Ev.neg (by omega) (Ev.val (Ev.now _) ?_)
    rw [List.drop_of_length_le (by omega)]; simp
  | succ d ih =>
    intro i hi
    refine Ev.succ ?_
    simp only [fF.l0]
    refine Ev.pos (by omega) (Ev.pos (by omega) (Ev.pos (by omega) ?_))
    rw [bI (by omega), lh (by omega), oK (xs := l) (by omega)]
    by_cases e : l[i] = x
    · refine Ev.pos e (Ev.val (Ev.now _) ?_)
      simp [e]
    · refine Ev.neg e (Ev.val (ih (i + 1) (by omega)) ?_)
      have : ¬ x = l[i] := fun h => e h.symm
      rw [decide_eq_decide]; simp only [List.mem_cons, this, false_or]
theorem ay4 {l : List Int} (x : Int) (hl : l.length < 9223372036854775807) : Ev (fun k => fF.f k l x) (decide (x ∈ l)) := by
  unfold fF.f
  exact Ev.val (U7 hl l.length 0 (by omega)) (by simp)
def EN (S : List Bool) : Nat := (S.filter (!·)).length
theorem EO : ∀ (S : List Bool) (i : Nat), i < S.length → S.getD i false = false → EN (S.set i true) + 1 = EN S
  | [], i, h, _ => by simp at h
  | b :: S, 0, _, h => by simp at h; subst h; simp [EN]
  | b :: S, i + 1, h, h' => by
    have := EO S i (by simpa using h) (by simpa using h')
    simp only [EN, List.set_cons_succ, List.filter_cons] at this ⊢
    split
    · simp only [List.length_cons]; omega
    · exact this
/-- What holds of the search, all along: the numbers met, the ways, the marks. -/
structure Inv (M : Nat) (N : List Int) (W : List (List Int)) (S : List Bool) : Prop where
  len : W.length = N.length
  ways : ∀ w ∈ W, w.length ≤ W.length
  lt : ∀ x ∈ N, 0 ≤ x ∧ x < (M : Int)
  sl : S.length = M
  seen : ∀ i : Nat, i < M → S.getD i false = decide ((i : Int) ∈ N)
  fit : N.length + EN S = M
theorem Inv.add {M : Nat} {N : List Int} {W : List (List Int)} {S : List Bool} (h : Inv M N W S) {x : Int} (h0 : 0 ≤ x) (h1 : x < (M : Int)) (hx : x ∉ N) {w : List Int} (hw : w ∈ W) (y : Int) : Inv M (N ++ [x]) (W ++ [w ++ [y]]) (S.set x.toNat true) := by
  obtain ⟨n, rfl⟩ := Int.eq_ofNat_of_zero_le h0
  have hn : n < M := by omega
  have hs := h.seen n hn
  rw [decide_eq_false hx] at hs
  refine ⟨by simp [h.len], ?_, ?_, by simpa using h.sl, ?_, ?_⟩
  · intro v hv
    rcases List.mem_append.1 hv with q | q
    · have := h.ways v q; simp; omega
    · have e := List.mem_singleton.1 q
      have := h.ways w hw
      rw [e]; simp; omega
  · intro z hz
    rcases List.mem_append.1 hz with q | q
    · exact h.lt z q
    · rw [List.mem_singleton.1 q]; exact ⟨h0, h1⟩
  · intro i hi
    rw [Int.toNat_natCast]
    by_cases e : n = i
    · subst e
      simp [List.getD, List.getElem?_set, h.sl, hi]
    · have q := h.seen i hi
      have e' : ¬ (i : Int) = (n : Int) := by omega
      simp only [List.getD, List.getElem?_set, if_neg e] at q ⊢
      rw [q]; simp [e']
  · have := EO S n (by rw [h.sl]; exact hn) hs
    have := h.fit
    rw [Int.toNat_natCast]; simp; omega
theorem rdS {S : List Bool} {x : Int} (h0 : 0 ≤ x) : Eu false S x = S.getD x.toNat false := rfl
theorem ZA {r c : Int} {cs : List C} {U : List (List Int)} {NX EX : Int → Int → Int} {G B : List Int} {N0 : Int} (hF : Few r c cs U NX EX G B N0) {cols : List Int} (hl : cols.length ≤ 1048576) (hc : ∀ x ∈ cols, 0 ≤ x ∧ x < c) {i : Nat} (d : Nat) : ∀ (j : Nat) (N : List Int) (W : List (List Int)) (S : List Bool), j + d = cols.length → Inv (2 ^ U.length) N W S → i < N.length →
    ∃ N' W' S', Inv (2 ^ U.length) N' W' S' ∧ i < N'.length ∧
      (∀ R, Ev (fun k => bA.l0 k cols N' W' ((i + 1 : Nat) : Int) r c cs) R → Ev (fun k => bA.l1 k cols N W i cols cols.length j r c cs) R) ∧
      (∀ R, Ev (fun k => aI.l0 k cols (cols.map (Bu NX U.length)) S' (N'.drop (i + 1))) R → Ev (fun k => aI.l1 k cols (cols.map (Bu NX U.length)) S (N.drop (i + 1)) (rd N i) cols.length j) R) := by
  have hp := DD (show U.length ≤ 16 by have := hF.few; omega)
  induction d with
  | zero =>
    intro j N W S hj hI hi
    have := hI.fit
    refine ⟨N, W, S, hI, hi, fun R h => Ev.succ ?_, fun R h => Ev.succ ?_⟩
    · simp only [bA.l1]
      refine Ev.neg (by omega) ?_
      rw [bI (by omega)]; exact h
    · simp only [aI.l1]
      exact Ev.neg (by omega) h
  | succ d ih =>
    intro j N W S hj hI hi
    have hfit := hI.fit
    have hw := hI.len
    have hcj := hc cols[j] (List.getElem_mem (by omega))
    have st := hF.step (rd N i) cols[j] hcj.1 hcj.2
    obtain ⟨rw', cl, sp⟩ := st.spec
    have hlo := st.lo
    have hhi := st.hi
    have hn := hI.lt N[i] (List.getElem_mem hi)
    rw [← lh hi] at hn
    obtain ⟨n, en⟩ := Int.eq_ofNat_of_zero_le hn.1
    have er : rd (aT (cols.map (Bu NX U.length)) j) (rd N i) = NX (rd N i) cols[j] := by
      rw [oz (by simp; omega), en]
      simp only [List.getElem_map]
      exact ahM NX U.length _ (by omega)
    have hseen := hI.seen (NX (rd N i) cols[j]).toNat (by omega)
    rw [Int.toNat_of_nonneg hlo] at hseen
    have sp1 : ∀ R, Ev (fun k => if NX (rd N i) cols[j] ∈ N then bA.l1 k cols N W i cols cols.length ((j + 1 : Nat) : Int) r c cs else bA.l1 k cols (N ++ [NX (rd N i) cols[j]]) (W ++ [W[i] ++ [cols[j]]]) i cols cols.length ((j + 1 : Nat) : Int) r c cs) R → Ev (fun k => bA.l1 k cols N W i cols cols.length j r c cs) R := fun R h => by
      refine Ev.succ ?_
      simp only [bA.l1]
      refine Ev.pos (by omega) (Ev.pos (by omega) (Ev.pos (by omega) (Ev.pos (by omega) (Ev.pos (by omega) ?_))))
      rw [lh (xs := cols) (by omega)]
      refine Ev.bind sp (Ev.bind (ay4 _ (by omega)) ?_)
      rw [bI (by omega)]
      by_cases hm : NX (rd N i) cols[j] ∈ N
      · refine Ev.pos (decide_eq_true hm) ?_
        simpa only [if_pos hm] using h
      · refine Ev.neg (by simp [hm]) (Ev.pos (by omega) (Ev.pos (by omega) ?_))
        have hwi := hI.ways W[i] (List.getElem_mem (by omega))
        rw [oz (by omega)]
        simp only [uk.f, Option.bind_some, List.length_nil, List.nil_append]
        refine Ev.bind (a := W[i]) (Ev.pos (by omega) (Ev.now _)) (Ev.pos (by omega) (Ev.pos (by omega) ?_))
        simpa only [if_neg hm] using h
    have im1 : ∀ R, Ev (fun k => if NX (rd N i) cols[j] ∈ N then aI.l1 k cols (cols.map (Bu NX U.length)) S (N.drop (i + 1)) (rd N i) cols.length ((j + 1 : Nat) : Int) else aI.l1 k cols (cols.map (Bu NX U.length)) (S.set (NX (rd N i) cols[j]).toNat true) ((N ++ [NX (rd N i) cols[j]]).drop (i + 1)) (rd N i) cols.length ((j + 1 : Nat) : Int)) R → Ev (fun k => aI.l1 k cols (cols.map (Bu NX U.length)) S (N.drop (i + 1)) (rd N i) cols.length j) R := fun R h => by
      refine Ev.succ ?_
      simp only [aI.l1]
      refine Ev.pos (by omega) (Ev.pos (by omega) (Ev.pos (by simp; omega) (Ev.pos hn.1 (Ev.pos ?_ ?_))))
      · rw [oz (by simp; omega)]; simp only [List.getElem_map, Hq]; exact hn.2
      rw [er, bI (by omega)]
      refine Ev.pos hlo (Ev.pos (by rw [hI.sl]; exact hhi) ?_)
      by_cases hm : NX (rd N i) cols[j] ∈ N
      · refine Ev.pos (by rw [rdS hlo, hseen]; exact decide_eq_true hm) ?_
        simpa only [if_pos hm] using h
      · refine Ev.neg (by rw [rdS hlo, hseen, decide_eq_false hm]; simp) (Ev.pos (by simp; omega) ?_)
        rw [← List.drop_append_of_le_length (by omega)]
        simpa only [if_neg hm] using h
    by_cases hm : NX (rd N i) cols[j] ∈ N
    · obtain ⟨N', W', S', q1, q2, q3, q4⟩ := ih (j + 1) N W S (by omega) hI hi
      exact ⟨N', W', S', q1, q2, fun R h => sp1 R (by simp only [if_pos hm]; exact q3 R h), fun R h => im1 R (by simp only [if_pos hm]; exact q4 R h)⟩
    · have hI' := hI.add hlo hhi hm (List.getElem_mem (show i < W.length by omega)) cols[j]
      obtain ⟨N', W', S', q1, q2, q3, q4⟩ := ih (j + 1) _ _ _ (by omega) hI' (by simp; omega)
      have e : rd (N ++ [NX (rd N i) cols[j]]) i = rd N i := by
        rw [lh (by simp; omega), lh hi, List.getElem_append_left hi]
      rw [e] at q4
      exact ⟨N', W', S', q1, q2, fun R h => sp1 R (by simp only [if_neg hm]; exact q3 R h), fun R h => im1 R (by simp only [if_neg hm]; exact q4 R h)⟩
theorem adS {r c : Int} {cs : List C} {U : List (List Int)} {NX EX : Int → Int → Int} {G B : List Int} {N0 : Int} (hF : Few r c cs U NX EX G B N0) {cols : List Int} (hl : cols.length ≤ 1048576) (hc : ∀ x ∈ cols, 0 ≤ x ∧ x < c) (d : Nat) : ∀ (i : Nat) (N : List Int) (W : List (List Int)) (S : List Bool), i + d = 2 ^ U.length → Inv (2 ^ U.length) N W S → i ≤ N.length →
    ∃ N' W' S', Inv (2 ^ U.length) N' W' S' ∧ Ev (fun k => bA.l0 k cols N W i r c cs) (N', W') ∧ Ev (fun k => aI.l0 k cols (cols.map (Bu NX U.length)) S (N.drop i)) S' := by
  have hp := DD (show U.length ≤ 16 by have := hF.few; omega)
  have last : ∀ (i : Nat) (N : List Int) (W : List (List Int)) (S : List Bool), Inv (2 ^ U.length) N W S → i = N.length → ∃ N' W' S', Inv (2 ^ U.length) N' W' S' ∧ Ev (fun k => bA.l0 k cols N W i r c cs) (N', W') ∧ Ev (fun k => aI.l0 k cols (cols.map (Bu NX U.length)) S (N.drop i)) S' := fun i N W S hI hi => by
    refine ⟨N, W, S, hI, Ev.succ ?_, Ev.succ ?_⟩
    · simp only [bA.l0]
      exact Ev.neg (by omega) (Ev.now _)
    · simp only [aI.l0]
      exact Ev.neg (by simp; omega) (Ev.now _)
  induction d with
  | zero =>
    intro i N W S hi hI hN
    have := hI.fit
    exact last i N W S hI (by omega)
  | succ d ih =>
    intro i N W S hi hI hN
    by_cases h : i = N.length
    · exact last i N W S hI h
    have hlt : i < N.length := by omega
    obtain ⟨N1, W1, S1, q1, q2, q3, q4⟩ := ZA hF hl hc (i := i) cols.length 0 N W S (by omega) hI hlt
    obtain ⟨N', W', S', r1, r2, r3⟩ := ih (i + 1) N1 W1 S1 (by omega) q1 (by omega)
    refine ⟨N', W', S', r1, Ev.succ ?_, Ev.succ ?_⟩
    · simp only [bA.l0]
      exact Ev.pos (by omega) (q3 _ r2)
    · simp only [aI.l0]
      refine Ev.pos (by simp; omega) (Ev.pos (by simp; omega) (Ev.pos (by simp; omega) ?_))
      have e1 : (N.drop i).drop (1 : Int).toNat = N.drop (i + 1) := by simp [List.drop_drop]
      have e2 : rd (N.drop i) 0 = rd N i := by simp [rd, List.getD]
      rw [e1, e2]
      exact q4 _ r3
/-- All that is reached: the reference's numbers, the program's marks. -/
theorem reached {r c : Int} {cs : List C} {U : List (List Int)} {NX EX : Int → Int → Int} {G B : List Int} {N0 : Int} (hF : Few r c cs U NX EX G B N0) {cols : List Int} (hl : cols.length ≤ 1048576) (hc : ∀ x ∈ cols, 0 ≤ x ∧ x < c) :
    ∃ N W S, Inv (2 ^ U.length) N W S ∧ Ev (fun k => bA.f k r c cs cols) (N, W) ∧ Ev (fun k => aI.f k r c cs cols) S := by
  have h16 : U.length ≤ 16 := by have := hF.few; omega
  have hp := DD h16
  have hlo := hF.lo
  have hhi := hF.hi
  obtain ⟨n, en⟩ := Int.eq_ofNat_of_zero_le hlo
  have hI : Inv (2 ^ U.length) [N0] [[]] ((List.replicate (2 ^ U.length) false).set N0.toNat true) := by
    refine ⟨rfl, by simp, ?_, by simp, ?_, ?_⟩
    · intro x hx; rw [List.mem_singleton.1 hx]; exact ⟨hlo, hhi⟩
    · intro i hi
      rw [en, Int.toNat_natCast]
      by_cases e : n = i
      · subst e; simp [List.getD, List.getElem?_set, hi]
      · have e' : ¬ (i : Int) = (n : Int) := by omega
        simp only [List.getD, List.getElem?_set, if_neg e, List.getElem?_replicate, if_pos hi, Option.getD_some, List.mem_singleton]
        exact (decide_eq_false e').symm
    · have := EO (List.replicate (2 ^ U.length) false) N0.toNat (by simp; omega) (by simp [List.getD, List.getElem?_replicate]; split <;> rfl)
      have e : EN (List.replicate (2 ^ U.length) false) = 2 ^ U.length := by simp [EN]
      simp; omega
  obtain ⟨N, W, S, q1, q2, q3⟩ := adS hF hl hc (2 ^ U.length) 0 _ _ _ (by omega) hI (by simp)
  refine ⟨N, W, S, q1, ?_, ?_⟩
  · unfold bA.f
    exact Ev.bind hF.s0 q2
  · unfold aI.f
    refine Ev.bind (Qc hF.good hF.us hF.u2 h16 hF.g2 hF.step hl hc) (Ev.bind hF.u2 ?_)
    rw [XU h16]
    refine Ev.pos (by omega) (Ev.pos (by omega) ?_)
    simp only [Option.bind_some, Int.toNat_natCast]
    refine Ev.bind hF.b0 (Ev.bind hF.n0 (Ev.pos hlo (Ev.pos (by rw [List.length_replicate]; exact hhi) ?_)))
    exact q3
end Go.Proofs.Ytbpfdbjnnlmdjaa.Reach
