--MINI
/- The shortest way to a state: the reference's list of ways and the program's map tell the same. -/
import Derived.Test.YtbpfdbjnnlmdjaaReach
import Derived.Test.YtbpfdbjnnlmdjaaPx6
import Derived.Test.YtbpfdbjnnlmdjaaPx10
namespace Go.Proofs.Ytbpfdbjnnlmdjaa.Way
open Go.RowKit Go.Proofs.Ytbpfdbjnnlmdjaa.P Go.Proofs.Ytbpfdbjnnlmdjaa.Base Go.Proofs.Ytbpfdbjnnlmdjaa.Board Go.Proofs.Ytbpfdbjnnlmdjaa.Units Go.Proofs.Ytbpfdbjnnlmdjaa.Reach Go.Proofs.YtbpfdbjnnlmdjaaW.PrintWords Go.Proofs.YtbpfdbjnnlmdjaaW.PrintLast Go.Proofs.YtbpfdbjnnlmdjaaW.PrintMore
set_option linter.unusedVariables false
set_option linter.unusedSimpArgs false
/-- The map behind the search: the newest entry first. -/
def mp (N : List Int) (W : List (List Int)) : List (Int × List Int) := (N.zip W).reverse
theorem a6I {N : List Int} {W : List (List Int)} (h : N.length = W.length) (x : Int) (w : List Int) : mp (N ++ [x]) (W ++ [w]) = (x, w) :: mp N W := by
  simp [mp, List.zip_append h]
theorem a6J {N : List Int} {W : List (List Int)} (h : N.length = W.length) : (mp N W).length = N.length := by simp [mp, h]
theorem aXW (x : Int) : ∀ l : List (Int × List Int), (l.lookup x).isSome = decide (x ∈ l.map (·.1))
  | [] => by simp
  | (y, v) :: l => by
    have := aXW x l
    by_cases h : x = y
    · subst h; simp [List.lookup_cons]
    · have hb : (x == y) = false := by simpa using h
      simp [List.lookup_cons, hb, this, h]
theorem aXX (x : Int) (v : List Int) : ∀ l : List (Int × List Int), (l.map (·.1)).Nodup → (x, v) ∈ l → l.lookup x = some v
  | [], _, h => by simp at h
  | (y, u) :: l, hn, h => by
    simp only [List.map_cons, List.nodup_cons] at hn
    rcases List.mem_cons.1 h with e | h
    · injection e with e1 e2; subst e1 e2; simp [List.lookup_cons]
    · have hne : x ≠ y := fun e => hn.1 (e ▸ List.mem_map.2 ⟨(x, v), h, rfl⟩)
      have hb : (x == y) = false := by simpa using hne
      rw [List.lookup_cons, hb]
      exact aXX x v l hn.2 h
theorem aXY {N : List Int} {W : List (List Int)} (h : N.length = W.length) : (mp N W).map (·.1) = N.reverse := by
  simp only [mp, List.map_reverse]
  congr 1
  exact List.map_fst_zip (by omega)
theorem a6K {N : List Int} {W : List (List Int)} (h : N.length = W.length) (x : Int) : aVI (mp N W) x = decide (x ∈ N) := by
  unfold aVI
  rw [aXW, aXY h]
  simp
theorem aZ4 {N : List Int} {W : List (List Int)} (h : N.length = W.length) (hn : N.Nodup) {i : Nat} (hi : i < N.length) : aPv (mp N W) N[i] = W[i] := by
  unfold aPv
  rw [aXX N[i] W[i] _ (by rw [aXY h]; unfold List.Nodup; rw [List.pairwise_reverse]; exact List.Pairwise.imp (fun h_ => Ne.symm h_) hn) ?_]
  · rfl
  · rw [mp, List.mem_reverse]
    have : (N.zip W)[i]'(by simp; omega) = (N[i], W[i]) := by simp
    exact this ▸ List.getElem_mem _
/-- The answer: the way to the first number that is the target. -/
def ans : List Int → List (List Int) → Int → List Int × Bool
  | n :: N, w :: W, t => if n = t then (w, true) else ans N W t
  | _, _, _ => ([], false)
theorem aVT {t : Int} : ∀ (N : List Int) (W : List (List Int)), (∀ x ∈ N, x ≠ t) → ans N W t = ([], false)
  | [], _, _ => by simp [ans]
  | _ :: _, [], _ => by simp [ans]
  | n :: N, w :: W, h => by
    simp only [ans]
    rw [if_neg (h n List.mem_cons_self)]
    exact aVT N W (fun x hx => h x (List.mem_cons_of_mem _ hx))
theorem aZ5 {t : Int} : ∀ (i : Nat) (N : List Int) (W : List (List Int)) (hi : i < N.length) (hw : i < W.length), N[i] = t → (∀ j, (hj : j < i) → N[j]'(by omega) ≠ t) → ans N W t = (W[i], true)
  | 0, n :: N, w :: W, _, _, h, _ => by
    have h' : n = t := h
    simp [ans, h']
  | i + 1, n :: N, w :: W, hi, hw, h, hj => by
    simp only [ans]
    have h0 : ¬ n = t := hj 0 (by omega)
    rw [if_neg h0]
    have := aZ5 i N W (by simpa using hi) (by simpa using hw) (by simpa using h) (fun j hj' => by simpa using hj (j + 1) (by omega))
    rw [this]; simp
  | _, [], _, hi, _, _, _ => by simp at hi
  | _, _ :: _, [], _, hw, _, _ => by simp at hw
theorem aYx {t : Int} {N : List Int} {W : List (List Int)} (hN : N.length ≤ 65536) (h : N.length = W.length) (hw : ∀ w ∈ W, w.length ≤ 65536) (d : Nat) : ∀ i : Nat, i + d = N.length → Ev (fun k => aeg.l0 k t W N N.length i) (ans (N.drop i) (W.drop i) t) := by
  induction d with
  | zero =>
    intro i hi
    refine Ev.succ ?_
    simp only [aeg.l0]
    refine Ev.neg (by omega) (Ev.val (Ev.now _) ?_)
    rw [List.drop_of_length_le (by omega)]; simp [ans]
  | succ d ih =>
    intro i hi
    have hwi := hw W[i] (List.getElem_mem (by omega))
    refine Ev.succ ?_
    simp only [aeg.l0]
    refine Ev.pos (by omega) (Ev.pos (by omega) (Ev.pos (by omega) ?_))
    rw [lh (by omega), bI (by omega), oK (xs := N) (by omega), oK (xs := W) (by omega)]
    simp only [ans]
    refine Ev.split (fun e => Ev.pos (by omega) ?_) (fun e => ?_)
    · rw [if_pos e, oz (by omega)]
      simp only [uk.f, Option.bind_some, List.length_nil, List.nil_append]
      exact Ev.bind (a := W[i]) (Ev.pos (by omega) (Ev.now _)) (Ev.now _)
    · rw [if_neg e]
      exact ih (i + 1) (by omega)
theorem aZ6 {r c : Int} {cs : List C} {U : List (List Int)} {NX EX : Int → Int → Int} {G B : List Int} {N0 : Int} (hF : Few r c cs U NX EX G B N0) {cols : List Int} (hl : cols.length ≤ 1048576) (hc : ∀ x ∈ cols, 0 ≤ x ∧ x < c) {t : Int} {i : Nat} (d : Nat) : ∀ (j : Nat) (N : List Int) (W : List (List Int)) (S : List Bool), j + d = cols.length → Inv (2 ^ U.length) N W S → N.Nodup → i < N.length →
    ∃ N' W' S', Inv (2 ^ U.length) N' W' S' ∧ N'.Nodup ∧ i < N'.length ∧ N <+: N' ∧ W <+: W' ∧
      (∀ R, Ev (fun k => bA.l0 k cols N' W' ((i + 1 : Nat) : Int) r c cs) R → Ev (fun k => bA.l1 k cols N W i cols cols.length j r c cs) R) ∧
      (∀ R, Ev (fun k => aad.l0 k cols t (cols.map (Bu NX U.length)) (mp N' W') (N'.drop (i + 1))) R → Ev (fun k => aad.l1 k cols t (cols.map (Bu NX U.length)) (mp N W) (N.drop (i + 1)) (rd N i) cols cols.length j) R) := by
  have hp := DD (show U.length ≤ 16 by have := hF.few; omega)
  induction d with
  | zero =>
    intro j N W S hj hI hn hi
    have := hI.fit
    refine ⟨N, W, S, hI, hn, hi, List.prefix_refl _, List.prefix_refl _, fun R h => Ev.succ ?_, fun R h => Ev.succ ?_⟩
    · simp only [bA.l1]
      refine Ev.neg (by omega) ?_
      rw [bI (by omega)]; exact h
    · simp only [aad.l1]
      exact Ev.neg (by omega) h
  | succ d ih =>
    intro j N W S hj hI hnd hi
    have hfit := hI.fit
    have hw := hI.len
    have hcj := hc cols[j] (List.getElem_mem (by omega))
    have st := hF.step (rd N i) cols[j] hcj.1 hcj.2
    obtain ⟨rw', cl, sp⟩ := st.spec
    have hlo := st.lo
    have hhi := st.hi
    have hn := hI.lt N[i] (List.getElem_mem hi)
    have hget := aZ4 hw.symm hnd hi
    rw [← lh hi] at hn hget
    obtain ⟨n, en⟩ := Int.eq_ofNat_of_zero_le hn.1
    have er : rd (aT (cols.map (Bu NX U.length)) j) (rd N i) = NX (rd N i) cols[j] := by
      rw [oz (by simp; omega), en]
      simp only [List.getElem_map]
      exact ahM NX U.length _ (by omega)
    have hwi := hI.ways W[i] (List.getElem_mem (by omega))
    have sp1 : ∀ R, Ev (fun k => if NX (rd N i) cols[j] ∈ N then bA.l1 k cols N W i cols cols.length ((j + 1 : Nat) : Int) r c cs else bA.l1 k cols (N ++ [NX (rd N i) cols[j]]) (W ++ [W[i] ++ [cols[j]]]) i cols cols.length ((j + 1 : Nat) : Int) r c cs) R → Ev (fun k => bA.l1 k cols N W i cols cols.length j r c cs) R := fun R h => by
      refine Ev.succ ?_
      simp only [bA.l1]
      refine Ev.pos (by omega) (Ev.pos (by omega) (Ev.pos (by omega) (Ev.pos (by omega) (Ev.pos (by omega) ?_))))
      rw [lh (xs := cols) (by omega)]
      refine Ev.bind sp (Ev.bind (ay4 _ (by omega)) ?_)
      rw [bI (by omega)]
      by_cases hm : NX (rd N i) cols[j] ∈ N
      · refine Ev.pos (decide_eq_true hm) ?_
        simpa only [if_pos hm] using h
      · refine Ev.neg (by simp [hm]) (Ev.pos (by omega) (Ev.pos (by omega) ?_))
        rw [oz (by omega)]
        simp only [uk.f, Option.bind_some, List.length_nil, List.nil_append]
        refine Ev.bind (a := W[i]) (Ev.pos (by omega) (Ev.now _)) (Ev.pos (by omega) (Ev.pos (by omega) ?_))
        simpa only [if_neg hm] using h
    have im1 : ∀ R, Ev (fun k => if NX (rd N i) cols[j] ∈ N then aad.l1 k cols t (cols.map (Bu NX U.length)) (mp N W) (N.drop (i + 1)) (rd N i) cols cols.length ((j + 1 : Nat) : Int) else aad.l1 k cols t (cols.map (Bu NX U.length)) (mp (N ++ [NX (rd N i) cols[j]]) (W ++ [W[i] ++ [cols[j]]])) ((N ++ [NX (rd N i) cols[j]]).drop (i + 1)) (rd N i) cols cols.length ((j + 1 : Nat) : Int)) R → Ev (fun k => aad.l1 k cols t (cols.map (Bu NX U.length)) (mp N W) (N.drop (i + 1)) (rd N i) cols cols.length j) R := fun R h => by
      refine Ev.succ ?_
      simp only [aad.l1]
      refine Ev.pos (by omega) (Ev.pos (by omega) (Ev.pos (by omega) (Ev.pos (by simp; omega) (Ev.pos hn.1 (Ev.pos ?_ ?_)))))
      · rw [oz (by simp; omega)]; simp only [List.getElem_map, Hq]; exact hn.2
      rw [er, bI (by omega), hget, a6K hw.symm, lh (xs := cols) (by omega)]
      refine Ev.pos hlo (Ev.pos (gH (by omega) (by omega)) ?_)
      by_cases hm : NX (rd N i) cols[j] ∈ N
      · refine Ev.pos (decide_eq_true hm) ?_
        simpa only [if_pos hm] using h
      · refine Ev.neg (by rw [decide_eq_false hm]; simp) ?_
        simp only [Option.bind_some, List.length_nil, List.nil_append]
        refine Ev.pos (by omega) (Ev.pos (by omega) (Ev.pos (by rw [a6J hw.symm]; omega) (Ev.pos (by simp; omega) ?_)))
        simp only [if_neg hm] at h
        rw [a6I hw.symm, List.drop_append_of_le_length (by omega)] at h
        exact h
    by_cases hm : NX (rd N i) cols[j] ∈ N
    · obtain ⟨N', W', S', q1, q0, q2, p1, p2, q3, q4⟩ := ih (j + 1) N W S (by omega) hI hnd hi
      exact ⟨N', W', S', q1, q0, q2, p1, p2, fun R h => sp1 R (by simp only [if_pos hm]; exact q3 R h), fun R h => im1 R (by simp only [if_pos hm]; exact q4 R h)⟩
    · have hI' := hI.add hlo hhi hm (List.getElem_mem (show i < W.length by omega)) cols[j]
      have hnd' : (N ++ [NX (rd N i) cols[j]]).Nodup := by
        rw [List.nodup_append]
        refine ⟨hnd, by simp, ?_⟩
        intro a ha b hb e
        rw [List.mem_singleton] at hb
        exact hm (hb ▸ e ▸ ha)
      obtain ⟨N', W', S', q1, q0, q2, p1, p2, q3, q4⟩ := ih (j + 1) _ _ _ (by omega) hI' hnd' (by simp; omega)
      have e : rd (N ++ [NX (rd N i) cols[j]]) i = rd N i := by
        rw [lh (by simp; omega), lh hi, List.getElem_append_left hi]
      rw [e] at q4
      exact ⟨N', W', S', q1, q0, q2, (List.prefix_append _ _).trans p1, (List.prefix_append _ _).trans p2, fun R h => sp1 R (by simp only [if_neg hm]; exact q3 R h), fun R h => im1 R (by simp only [if_neg hm]; exact q4 R h)⟩
theorem aSK {α : Type} {a b : List α} (h : a <+: b) {i : Nat} (hi : i < a.length) : ∃ hb : i < b.length, b[i] = a[i] := by
  obtain ⟨s, rfl⟩ := h
  exact ⟨by simp; omega, List.getElem_append_left hi⟩
theorem a1u {r c : Int} {cs : List C} {U : List (List Int)} {NX EX : Int → Int → Int} {G B : List Int} {N0 : Int} (hF : Few r c cs U NX EX G B N0) {cols : List Int} (hl : cols.length ≤ 1048576) (hc : ∀ x ∈ cols, 0 ≤ x ∧ x < c) {t : Int} (d : Nat) : ∀ (i : Nat) (N : List Int) (W : List (List Int)) (S : List Bool), i + d = 2 ^ U.length → Inv (2 ^ U.length) N W S → N.Nodup → i ≤ N.length →
    ∃ N' W' S', Inv (2 ^ U.length) N' W' S' ∧ N <+: N' ∧ W <+: W' ∧ Ev (fun k => bA.l0 k cols N W i r c cs) (N', W') ∧
      ((∀ j, (hj : j < N.length) → j < i → N[j] ≠ t) → Ev (fun k => aad.l0 k cols t (cols.map (Bu NX U.length)) (mp N W) (N.drop i)) (ans N' W' t)) := by
  have hp := DD (show U.length ≤ 16 by have := hF.few; omega)
  have last : ∀ (i : Nat) (N : List Int) (W : List (List Int)) (S : List Bool), Inv (2 ^ U.length) N W S → i = N.length → ∃ N' W' S', Inv (2 ^ U.length) N' W' S' ∧ N <+: N' ∧ W <+: W' ∧ Ev (fun k => bA.l0 k cols N W i r c cs) (N', W') ∧
      ((∀ j, (hj : j < N.length) → j < i → N[j] ≠ t) → Ev (fun k => aad.l0 k cols t (cols.map (Bu NX U.length)) (mp N W) (N.drop i)) (ans N' W' t)) := by
    intro i N W S hI hi
    refine ⟨N, W, S, hI, List.prefix_refl _, List.prefix_refl _, Ev.succ ?_, fun hno => Ev.succ ?_⟩
    · simp only [bA.l0]
      exact Ev.neg (by omega) (Ev.now _)
    · simp only [aad.l0]
      refine Ev.neg (by simp; omega) (Ev.val (Ev.now _) ?_)
      rw [aVT N W (fun x hx => ?_)]
      obtain ⟨j, hj, rfl⟩ := List.getElem_of_mem hx
      exact hno j hj (by omega)
  induction d with
  | zero =>
    intro i N W S hd hI hn hi
    have := hI.fit
    exact last i N W S hI (by omega)
  | succ d ih =>
    intro i N W S hd hI hn hi
    by_cases hlast : i = N.length
    · exact last i N W S hI hlast
    have hlt : i < N.length := by omega
    have hw := hI.len
    have hNi := hI.lt N[i] (List.getElem_mem hlt)
    have hget := aZ4 hw.symm hn hlt
    obtain ⟨N1, W1, S1, q1, q0, q2, p1, p2, q3, q4⟩ := aZ6 hF hl hc (t := t) (i := i) cols.length 0 N W S (by omega) hI hn hlt
    obtain ⟨N', W', S', r1, s1, s2, r2, r3⟩ := ih (i + 1) N1 W1 S1 (by omega) q1 q0 (by omega)
    refine ⟨N', W', S', r1, p1.trans s1, p2.trans s2, Ev.succ ?_, fun hno => Ev.succ ?_⟩
    · simp only [bA.l0]
      exact Ev.pos (by omega) (q3 _ r2)
    · simp only [aad.l0]
      have e1 : (N.drop i).drop (1 : Int).toNat = N.drop (i + 1) := by simp [List.drop_drop]
      have e2 : rd (N.drop i) 0 = N[i] := by
        rw [← lh hlt]; simp [rd, List.getD]
      refine Ev.pos (by simp; omega) (Ev.pos (by simp; omega) (Ev.pos (by simp; omega) ?_))
      rw [e1, e2, hget]
      refine Ev.pos (gH (by omega) (by omega)) (Ev.split (fun e => Ev.val (Ev.now _) ?_) (fun e => ?_))
      · obtain ⟨b1, g1⟩ := aSK (p1.trans s1) hlt
        obtain ⟨b2, g2⟩ := aSK (p2.trans s2) (show i < W.length by omega)
        rw [aZ5 i N' W' b1 b2 (by rw [g1]; exact e) (fun j hj => by
          obtain ⟨b3, g3⟩ := aSK (p1.trans s1) (show j < N.length by omega)
          rw [g3]
          exact hno j (by omega) hj), g2]
      · have h4 := q4 _ (r3 (fun j hj hji => by
          by_cases ej : j = i
          · subst ej
            obtain ⟨b3, g3⟩ := aSK p1 hlt
            rw [g3]; exact e
          · obtain ⟨b3, g3⟩ := aSK p1 (show j < N.length by omega)
            rw [g3]
            exact hno j (by omega) (by omega)))
        rw [lh hlt] at h4
        exact h4
/-- Both searches. -/
theorem aZ3 {r c : Int} {cs : List C} {U : List (List Int)} {NX EX : Int → Int → Int} {G B : List Int} {N0 : Int} (hF : Few r c cs U NX EX G B N0) {cols : List Int} (hl : cols.length ≤ 1048576) (hc : ∀ x ∈ cols, 0 ≤ x ∧ x < c) (t : Int) :
    ∃ R : List Int × Bool, R.1.length ≤ 65536 ∧ Ev (fun k => aeg.j0 k cols t false r c cs) R ∧ Ev (fun k => aad.j0 k cols t false r c cs) R := by
  have h16 : U.length ≤ 16 := by have := hF.few; omega
  have hp := DD h16
  have hlo := hF.lo
  have hhi := hF.hi
  obtain ⟨n, en⟩ := Int.eq_ofNat_of_zero_le hlo
  have hI : Inv (2 ^ U.length) [N0] [[]] ((List.replicate (2 ^ U.length) false).set N0.toNat true) := by
    refine ⟨rfl, by simp, ?_, by simp, ?_, ?_⟩
    · intro x hx; rw [List.mem_singleton.1 hx]; exact ⟨hlo, hhi⟩
    · intro i hi
      rw [en, Int.toNat_natCast]
      by_cases e : n = i
      · subst e; simp [List.getD, List.getElem?_set, hi]
      · have e' : ¬ (i : Int) = (n : Int) := by omega
        simp only [List.getD, List.getElem?_set, if_neg e, List.getElem?_replicate, if_pos hi, Option.getD_some, List.mem_singleton]
        exact (decide_eq_false e').symm
    · have := EO (List.replicate (2 ^ U.length) false) N0.toNat (by simp; omega) (by simp [List.getD, List.getElem?_replicate]; split <;> rfl)
      have e : EN (List.replicate (2 ^ U.length) false) = 2 ^ U.length := by simp [EN]
      simp; omega
  obtain ⟨N, W, S, q1, _, _, q2, q3⟩ := a1u hF hl hc (t := t) (2 ^ U.length) 0 _ _ _ (by omega) hI (by simp) (by simp)
  have hfit := q1.fit
  have hlen := q1.len
  have hway := q1.ways
  have hsmall : ∀ (A : List Int) (Z : List (List Int)), (∀ w ∈ Z, w.length ≤ 65536) → (ans A Z t).1.length ≤ 65536 := by
    intro A
    induction A with
    | nil => intro Z _; simp [ans]
    | cons a A ih =>
      intro Z hZ
      cases Z with
      | nil => simp [ans]
      | cons z Z =>
        simp only [ans]
        split
        · exact hZ z List.mem_cons_self
        · exact ih Z (fun w hw => hZ w (List.mem_cons_of_mem _ hw))
  have hw6 : ∀ w ∈ W, w.length ≤ 65536 := fun w hw => by have := hway w hw; omega
  refine ⟨ans N W t, hsmall N W hw6, Ev.succ ?_, Ev.succ ?_⟩
  · simp only [aeg.j0]
    refine Ev.neg (by simp) (Ev.bind (a := (N, W)) ?_ ?_)
    · unfold bA.f
      exact Ev.bind hF.s0 q2
    · have := aYx (t := t) (N := N) (W := W) (by omega) hlen.symm hw6 N.length 0 (by omega)
      simpa using this
  · simp only [aad.j0]
    refine Ev.neg (by simp) (Ev.bind (Qc hF.good hF.us hF.u2 h16 hF.g2 hF.step hl hc) (Ev.bind hF.b0 (Ev.bind hF.n0 (Ev.pos (gH (by omega) (by omega)) ?_))))
    have := q3 (fun j _ hj => absurd hj (by omega))
    simpa [mp] using this
end Go.Proofs.Ytbpfdbjnnlmdjaa.Way
