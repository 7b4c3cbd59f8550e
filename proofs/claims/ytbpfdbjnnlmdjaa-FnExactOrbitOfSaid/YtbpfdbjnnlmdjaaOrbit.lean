/- The orbit of a board: the reference's list and the program's map tell the same. -/
import Derived.Test.YtbpfdbjnnlmdjaaFew
import Derived.Test.YtbpfdbjnnlmdjaaMapW
import Derived.Test.YtbpfdbjnnlmdjaaPx3
import Derived.Test.YtbpfdbjnnlmdjaaPx7
import Derived.Test.YtbpfdbjnnlmdjaaPx9
import Derived.Test.YtbpfdbjnnlmdjaaPx13
namespace Go.Proofs.Ytbpfdbjnnlmdjaa.Units
open Go.RowKit Go.Proofs.Ytbpfdbjnnlmdjaa.P Go.Proofs.Ytbpfdbjnnlmdjaa.Base Go.Proofs.Ytbpfdbjnnlmdjaa.Board Go.Proofs.Ytbpfdbjnnlmdjaa.Groups Go.Proofs.YtbpfdbjnnlmdjaaW.PrintWords Go.Proofs.YtbpfdbjnnlmdjaaW.PrintLast Go.Proofs.YtbpfdbjnnlmdjaaW.PrintMore
set_option linter.unusedVariables false
set_option linter.unusedSimpArgs false
/-- The tests of a board and a column. -/
theorem hasTest (r c col : Int) (cs : List C) (hb : cs.length ≤ 1048576) : (∃ U NX EX G B N0, Few r c cs U NX EX G B N0 ∧ 0 ≤ col ∧ col < c ∧ Ev (fun k => spec_reHas.f k r c cs col) true ∧ Ev (fun k => impl_fewUnits.f k r c cs) true ∧ Ev (fun k => impl_validEntry.f k r c cs col) true) ∨
    (Ev (fun k => spec_reHas.f k r c cs col) false ∧ (Ev (fun k => impl_fewUnits.f k r c cs) false ∨ Ev (fun k => impl_fewUnits.f k r c cs) true ∧ Ev (fun k => impl_validEntry.f k r c cs col) false)) := by
  rcases fewTest r c cs hb with ⟨U, NX, EX, G, B, N0, hF, s, i⟩ | ⟨s, i⟩
  · have hg := hF.good.1
    have e : wrap64 (c - 1) = c - 1 := wrap_id (by omega) (by omega)
    have sp : ∀ b, decide (0 ≤ col ∧ col < c) = b → Ev (fun k => spec_reHas.f k r c cs col) b := fun b hb' => by
      unfold spec_reHas.f
      refine Ev.bind s (Ev.pos rfl ?_)
      rw [e, Fall.l1In]
      simp only [Option.bind_some]
      refine Ev.val (Ev.now _) ?_
      rw [← hb', decide_eq_decide]; omega
    have im : ∀ b, decide (0 ≤ col ∧ col < c) = b → Ev (fun k => impl_validEntry.f k r c cs col) b := fun b hb' => by
      unfold impl_validEntry.f
      refine Ev.bind (impl_yes hF.good) (Ev.pos rfl (Ev.split (fun h0 => Ev.val (Ev.now _) ?_) (fun h0 => Ev.val (Ev.now _) ?_)))
      · rw [← hb', decide_eq_decide]; omega
      · rw [← hb']; simp; omega
    by_cases hc : 0 ≤ col ∧ col < c
    · exact .inl ⟨U, NX, EX, G, B, N0, hF, hc.1, hc.2, sp _ (decide_eq_true hc), i, im _ (decide_eq_true hc)⟩
    · exact .inr ⟨sp _ (decide_eq_false hc), .inr ⟨i, im _ (decide_eq_false hc)⟩⟩
  · refine .inr ⟨?_, .inl i⟩
    unfold spec_reHas.f
    exact Ev.bind s (Ev.neg (by simp) (Ev.now _))
end Go.Proofs.Ytbpfdbjnnlmdjaa.Units
namespace Go.Proofs.Ytbpfdbjnnlmdjaa.Orbit
open Go.RowKit Go.Proofs.Ytbpfdbjnnlmdjaa.P Go.Proofs.Ytbpfdbjnnlmdjaa.Base Go.Proofs.Ytbpfdbjnnlmdjaa.Board Go.Proofs.Ytbpfdbjnnlmdjaa.Groups Go.Proofs.Ytbpfdbjnnlmdjaa.Units Go.Proofs.YtbpfdbjnnlmdjaaW.PrintWords Go.Proofs.YtbpfdbjnnlmdjaaW.PrintLast Go.Proofs.YtbpfdbjnnlmdjaaW.PrintMore
set_option linter.unusedVariables false
set_option linter.unusedSimpArgs false
theorem l1Has_loop {l : List Int} {x : Int} (hl : l.length < 9223372036854775807) (d : Nat) : ∀ i : Nat, i + d = l.length → Ev (fun k => spec_l1Has.l0 k x l l.length i) (decide (x ∈ l.drop i)) := by
  induction d with
  | zero =>
    intro i hi
    refine Ev.succ ?_
    simp only [spec_l1Has.l0]
    refine Ev.neg (by omega) (Ev.val (Ev.now _) ?_)
    rw [List.drop_of_length_le (by omega)]; simp
  | succ d ih =>
    intro i hi
    refine Ev.succ ?_
    simp only [spec_l1Has.l0]
    refine Ev.pos (by omega) (Ev.pos (by omega) (Ev.pos (by omega) ?_))
    rw [wrap_nat (by omega), rd_get (by omega), drop_cons (xs := l) (by omega)]
    by_cases e : l[i] = x
    · refine Ev.pos e (Ev.val (Ev.now _) ?_)
      simp [e]
    · refine Ev.neg e (Ev.val (ih (i + 1) (by omega)) ?_)
      have : ¬ x = l[i] := fun h => e h.symm
      rw [decide_eq_decide]; simp only [List.mem_cons, this, false_or]
theorem l1Has {l : List Int} (x : Int) (hl : l.length < 9223372036854775807) : Ev (fun k => spec_l1Has.f k l x) (decide (x ∈ l)) := by
  unfold spec_l1Has.f
  exact Ev.val (l1Has_loop hl l.length 0 (by omega)) (by simp)
theorem len_le : ∀ (M : Nat) (N : List Int), N.Nodup → (∀ x ∈ N, 0 ≤ x ∧ x < (M : Int)) → N.length ≤ M
  | 0, N, _, h => by
    cases N with
    | nil => simp
    | cons x t => have := h x List.mem_cons_self; omega
  | M + 1, N, hn, h => by
    by_cases c : (M : Int) ∈ N
    · have := len_le M (N.erase (M : Int)) (hn.erase _) (fun x hx => by
        have hm := (hn.mem_erase_iff).1 hx
        have := h x hm.2
        have := hm.1
        omega)
      rw [List.length_erase_of_mem c] at this
      omega
    · have := len_le M N hn (fun x hx => by
        have := h x hx
        have : x ≠ (M : Int) := fun e => c (e ▸ hx)
        omega)
      omega
/-- What holds all along: the numbers met, and the map of their places. -/
structure Orb (M : Nat) (N : List Int) (xm : List (Int × Int)) : Prop where
  nd : N.Nodup
  lt : ∀ x ∈ N, 0 ≤ x ∧ x < (M : Int)
  len : xm.length = N.length
  has : ∀ y, mhas xm y = decide (y ∈ N)
  get : ∀ j, (h : j < N.length) → mget xm N[j] = (j : Int)
theorem Orb.add {M : Nat} {N : List Int} {xm : List (Int × Int)} (h : Orb M N xm) {x : Int} (h0 : 0 ≤ x) (h1 : x < (M : Int)) (hx : x ∉ N) : Orb M (N ++ [x]) ((x, (N.length : Int)) :: xm) := by
  refine ⟨?_, ?_, by simp [h.len], fun y => ?_, fun j hj => ?_⟩
  · rw [List.nodup_append]
    refine ⟨h.nd, by simp, fun a ha b hb => ?_⟩
    rw [List.mem_singleton.1 hb]
    exact fun e => hx (e ▸ ha)
  · intro y hy
    rcases List.mem_append.1 hy with q | q
    · exact h.lt y q
    · rw [List.mem_singleton.1 q]; exact ⟨h0, h1⟩
  · by_cases e : y = x
    · subst e; simp [mhas]
    · have hb : (y == x) = false := by simpa using e
      have := h.has y
      simp only [mhas] at this
      simp [mhas, List.lookup_cons, hb, this, e]
  · by_cases e : j < N.length
    · have hne : N[j] ≠ x := fun e' => hx (e' ▸ List.getElem_mem e)
      have hb : (N[j] == x) = false := by simpa using hne
      have := h.get j e
      simp only [mget] at this
      rw [List.getElem_append_left e]
      simp [mget, List.lookup_cons, hb, this]
    · have ej : j = N.length := by simp at hj; omega
      subst ej
      simp [mget]
theorem first_loop {N : List Int} (hn : N.Nodup) (hN : N.length ≤ 65536) {j : Nat} (hj : j < N.length) (d : Nat) : ∀ i : Nat, i + d = j → Ev (fun k => spec_reOrbit.l1 k N N[j] (i : Int)) (N, (j : Int)) := by
  induction d with
  | zero =>
    intro i hi
    obtain rfl : i = j := by omega
    refine Ev.succ ?_
    simp only [spec_reOrbit.l1]
    exact Ev.pos (by omega) (Ev.pos (by omega) (Ev.pos (rd_get hj) (Ev.now _)))
  | succ d ih =>
    intro i hi
    refine Ev.succ ?_
    simp only [spec_reOrbit.l1]
    refine Ev.pos (by omega) (Ev.pos (by omega) (Ev.neg ?_ ?_))
    · rw [rd_get (by omega)]
      exact List.pairwise_iff_getElem.1 hn i j (by omega) hj (by omega)
    · rw [wrap_nat (by omega)]
      exact ih (i + 1) (by omega)
theorem loop {r c : Int} {cs : List C} {U : List (List Int)} {NX EX : Int → Int → Int} {G B : List Int} {N0 : Int} (hF : Few r c cs U NX EX G B N0) {col : Int} (c0 : 0 ≤ col) (c1 : col < c) (d : Nat) : ∀ (N : List Int) (xm : List (Int × Int)) (x : Int), N.length + d = 2 ^ U.length + 1 → Orb (2 ^ U.length) N xm → 0 ≤ x → x < ((2 ^ U.length : Nat) : Int) →
    ∃ (L : List Int) (k : Nat), L.length ≤ 65536 ∧ k < L.length ∧ Ev (fun q => spec_reOrbit.l0 q col N x r c cs) (L, (k : Int)) ∧ Ev (fun q => impl_orbitOf.l0 q (rowN NX U.length col) N x xm) (L, (k : Int)) := by
  have hp := pow_nat (show U.length ≤ 16 by have := hF.few; omega)
  induction d with
  | zero =>
    intro N xm x hd hO
    have := len_le _ N hO.nd hO.lt
    omega
  | succ d ih =>
    intro N xm x hd hO h0 h1
    have hN := len_le _ N hO.nd hO.lt
    have hw : wrap64 x = x := wrap_id (by omega) (by omega)
    have hxm := hO.len
    by_cases hx : x ∈ N
    · obtain ⟨j, hj, ej⟩ := List.getElem_of_mem hx
      refine ⟨N, j, by omega, hj, Ev.succ ?_, Ev.succ ?_⟩
      · simp only [spec_reOrbit.l0]
        refine Ev.bind (l1Has x (by omega)) (Ev.pos (decide_eq_true hx) ?_)
        rw [← ej]
        exact first_loop hO.nd (by omega) hj j 0 (by omega)
      · simp only [impl_orbitOf.l0]
        refine Ev.pos hw (Ev.pos (by rw [hO.has]; exact decide_eq_true hx) (Ev.val (Ev.now _) ?_))
        rw [← ej, hO.get j hj]
    · have st := hF.step x col c0 c1
      obtain ⟨rw', cl, sp⟩ := st.spec
      obtain ⟨L, k, q1, q2, q3, q4⟩ := ih (N ++ [x]) ((x, (N.length : Int)) :: xm) (NX x col) (by simp; omega) (hO.add h0 h1 hx) st.lo st.hi
      obtain ⟨n, en⟩ := Int.eq_ofNat_of_zero_le h0
      refine ⟨L, k, q1, q2, Ev.succ ?_, Ev.succ ?_⟩
      · simp only [spec_reOrbit.l0]
        exact Ev.bind (l1Has x (by omega)) (Ev.neg (by simp [hx]) (Ev.pos (by omega) (Ev.bind sp q3)))
      · simp only [impl_orbitOf.l0]
        refine Ev.pos hw (Ev.neg (by rw [hO.has]; simp [hx]) (Ev.pos (by omega) (Ev.pos (by omega) (Ev.pos h0 (Ev.pos (by rw [rowN_len]; exact h1) ?_)))))
        have e : rd (rowN NX U.length col) x = NX x col := by rw [en]; exact rowN_rd NX U.length col (by omega)
        rw [e]
        exact q4
/-- Both orbits. -/
theorem orbit {r c : Int} {cs : List C} {U : List (List Int)} {NX EX : Int → Int → Int} {G B : List Int} {N0 : Int} (hF : Few r c cs U NX EX G B N0) {col : Int} (c0 : 0 ≤ col) (c1 : col < c) :
    ∃ (L : List Int) (k : Nat), L.length ≤ 65536 ∧ k < L.length ∧ Ev (fun q => spec_reOrbit.f q r c cs col) (L, (k : Int)) ∧ Ev (fun q => impl_orbitOf.f q r c cs col) (L, (k : Int)) := by
  have h16 : U.length ≤ 16 := by have := hF.few; omega
  obtain ⟨L, k, q1, q2, q3, q4⟩ := loop hF c0 c1 (2 ^ U.length + 1) [] [] N0 (by simp) ⟨by simp, by simp, rfl, fun y => by simp [mhas], fun j h => by simp at h⟩ hF.lo hF.hi
  refine ⟨L, k, q1, q2, ?_, ?_⟩
  · unfold spec_reOrbit.f
    exact Ev.bind hF.s0 q3
  · unfold impl_orbitOf.f
    exact Ev.bind (numbersAfter hF.good hF.us hF.u2 h16 hF.g2 hF.step (cols := [col]) (by simp) (by simp; exact ⟨c0, c1⟩)) (Ev.pos (by simp) (Ev.bind hF.b0 (Ev.bind hF.n0 q4)))
end Go.Proofs.Ytbpfdbjnnlmdjaa.Orbit
