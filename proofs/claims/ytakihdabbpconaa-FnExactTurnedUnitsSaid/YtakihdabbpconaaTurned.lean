/- The units that turn to get one board from another one. -/
import Derived.Test.YtakihdabbpconaaTurn
import Derived.Test.YtakihdabbpconaaPx0
import Derived.Test.YtakihdabbpconaaPx14
import Derived.Test.YtakihdabbpconaaPx15
namespace Go.Proofs.Ytakihdabbpconaa.Units
open Go.RowKit Go.Proofs.Ytakihdabbpconaa.P Go.Proofs.Ytakihdabbpconaa.Base Go.Proofs.Ytakihdabbpconaa.Board Go.Proofs.Ytakihdabbpconaa.Groups Go.Proofs.YtakihdabbpconaaW.PrintWords Go.Proofs.YtakihdabbpconaaW.PrintLast Go.Proofs.YtakihdabbpconaaW.PrintMore
set_option linter.unusedVariables false
set_option linter.unusedSimpArgs false
def sameC (x y : C) : Bool := (x.f0 == y.f0 && (x.f1 == y.f1))
def sameAt (a b : List C) (j : Nat) : Bool := sameC (rd_T73 a j) (rd_T73 b j)
theorem unlike (x y : C) : (!(x.f0 == y.f0) || (!(x.f1 == y.f1))) = !sameC x y := by
  unfold sameC
  cases (x.f0 == y.f0) <;> cases (x.f1 == y.f1) <;> rfl
theorem diff_loop {r c : Int} {a b : List C} (hl : a.length = b.length) (hb : a.length ≤ 90) (d : Nat) : ∀ (i : Nat) (x : List Int), i + d = a.length → x.length ≤ i →
    ∃ D, Ev (fun k => spec_boDifferent.l0 k x a a.length i r c b) (x ++ D) ∧ (D.length == 0) = allB (sameAt a b) i d := by
  induction d with
  | zero =>
    intro i x hi hx
    refine ⟨[], Ev.succ ?_, rfl⟩
    simp only [spec_boDifferent.l0]
    exact Ev.neg (by omega) (Ev.val (Ev.now _) (by simp))
  | succ d ih =>
    intro i x hi hx
    by_cases hs : sameAt a b i = true
    · obtain ⟨D, h1, h2⟩ := ih (i + 1) x (by omega) (by omega)
      refine ⟨D, Ev.succ ?_, by rw [h2]; simp [allB, hs]⟩
      simp only [spec_boDifferent.l0]
      refine Ev.pos (by omega) (Ev.pos (by omega) (Ev.pos (by omega) (Ev.pos (by omega) (Ev.neg ?_ ?_))))
      · rw [unlike]; unfold sameAt at hs; rw [hs]; simp
      · rw [wrap_nat (by omega)]; exact h1
    · obtain ⟨D, h1, h2⟩ := ih (i + 1) (x ++ [(i : Int)]) (by omega) (by simp; omega)
      refine ⟨(i : Int) :: D, Ev.succ ?_, by simp [allB, hs]⟩
      simp only [spec_boDifferent.l0]
      refine Ev.pos (by omega) (Ev.pos (by omega) (Ev.pos (by omega) (Ev.pos (by omega) (Ev.pos ?_ (Ev.pos (by omega) ?_)))))
      · rw [unlike]; unfold sameAt at hs; simpa using hs
      · rw [wrap_nat (by omega)]
        exact Ev.val h1 (by simp)
theorem same_loop {r c r' c' : Int} {a b : List C} (hl : a.length = b.length) (hb : a.length ≤ 90) (d : Nat) : ∀ (i : Nat), i + d = a.length →
    Ev (fun k => impl_sameBoard.l0 k a.length i r c a r' c' b) (allB (sameAt a b) i d) := by
  induction d with
  | zero =>
    intro i hi
    refine Ev.succ ?_
    simp only [impl_sameBoard.l0]
    exact Ev.neg (by omega) (Ev.now _)
  | succ d ih =>
    intro i hi
    refine Ev.succ ?_
    simp only [impl_sameBoard.l0]
    refine Ev.pos (by omega) (Ev.pos (by omega) (Ev.pos (by omega) (Ev.pos (by omega) ?_)))
    by_cases hs : sameAt a b i = true
    · refine Ev.neg ?_ ?_
      · rw [unlike]; unfold sameAt at hs; rw [hs]; simp
      · rw [wrap_nat (by omega)]
        exact Ev.val (ih (i + 1) (by omega)) (by simp [allB, hs])
    · refine Ev.pos ?_ (Ev.val (Ev.now _) (by simp [allB, hs]))
      rw [unlike]; unfold sameAt at hs
      simpa using hs
def Turned (n : Nat) (F G : Nat → Option (List Int × Bool)) : Prop := ∃ (X : List Int) (s : Bool), X.length ≤ n ∧ Ev F (X, s) ∧ Ev G (if s = true then (X, true) else ([], false))
theorem turnedOne_loop {r c r' c' : Int} {cs b X : _} {U : List (List Int)} {i : Nat} (hi : i < 9223372036854775807) {u : List Int} (hul : u.length < 9223372036854775807) {n : Nat} (hu : ∀ x ∈ u, 0 ≤ x ∧ x < n) {R : List Int × Bool} (d : Nat) : ∀ (j : Nat) (now : List C), j + d = u.length → now.length = n →
    Ev (fun k => impl_turnedUnits.l0 k X U U.length ((i + 1 : Nat) : Int) r c cs r' c' b r c (turns now (u.drop j))) R →
    Ev (fun k => impl_turnedUnits.l1 k X U U.length i u u.length j r c cs r' c' b r c now) R := by
  induction d with
  | zero =>
    intro j now hj hc h
    refine Ev.succ ?_
    simp only [impl_turnedUnits.l1]
    refine Ev.neg (by omega) ?_
    rw [List.drop_of_length_le (by omega)] at h
    rw [wrap_nat hi]; exact h
  | succ d ih =>
    intro j now hj hc h
    have hx := hu u[j] (List.getElem_mem (by omega))
    refine Ev.succ ?_
    simp only [impl_turnedUnits.l1]
    refine Ev.pos (by omega) (Ev.pos (by omega) (Ev.pos (by omega) ?_))
    rw [rd_get (by omega), wrap_nat (by omega)]
    refine Ev.pos (by omega) (Ev.pos (by omega) ?_)
    refine ih (j + 1) (turn now u[j]) (by omega) (by rw [turn_len]; exact hc) ?_
    rw [drop_cons (xs := u) (by omega)] at h
    exact h
theorem turned_loop {r c : Int} {cs b : List C} (hl : cs.length = b.length) (hb : cs.length ≤ 90) {U : List (List Int)} (hU : Us cs cs.length U) (d : Nat) : ∀ (i : Nat) (now : List C) (X : List Int), i + d = U.length → now.length = cs.length → X.length ≤ i →
    Turned cs.length (fun k => spec_saTurned.l0 k X U U.length i r c cs r c b r c now) (fun k => impl_turnedUnits.l0 k X U U.length i r c cs r c b r c now) := by
  induction d with
  | zero =>
    intro i now X hi hn hx
    have hf := hU.few
    obtain ⟨D, h1, h2⟩ := diff_loop (r := r) (c := c) (a := now) (b := b) (by omega) (by omega) now.length 0 [] (by omega) (by simp)
    have h3 := same_loop (r := r) (c := c) (r' := r) (c' := c) (a := now) (b := b) (by omega) (by omega) now.length 0 (by omega)
    refine ⟨X, allB (sameAt now b) 0 now.length, by omega, Ev.succ ?_, Ev.succ ?_⟩
    · simp only [spec_saTurned.l0]
      refine Ev.neg (by omega) ?_
      unfold spec_boDifferent.f
      refine Ev.bind h1 (Ev.val (Ev.now _) ?_)
      rw [← h2]
      congr 1
      cases D <;> simp
      omega
    · simp only [impl_turnedUnits.l0]
      refine Ev.neg (by omega) ?_
      refine Ev.bind (a := allB (sameAt now b) 0 now.length) ?_ ?_
      · unfold impl_sameBoard.f
        refine Ev.pos rfl (Ev.pos rfl (Ev.succ ?_))
        simp only [impl_sameBoard.j0]
        exact Ev.neg (by simp; omega) h3
      · cases allB (sameAt now b) 0 now.length
        · exact Ev.neg (by simp) (Ev.now _)
        · exact Ev.pos rfl (Ev.now _)
  | succ d ih =>
    intro i now X hi hn hx
    have hk : i < U.length := by omega
    have hf := hU.few
    have h0 := hU.some i hk
    have hsm := hU.small i hk
    obtain ⟨j, hj, e, _, _, hmem⟩ := hU.first hk
    have hw := hU.within hk
    by_cases hs : sameC (rd_T73 cs (rd U[i] 0)) (rd_T73 b (rd U[i] 0)) = true
    · obtain ⟨Y, s, hY, h1, h2⟩ := ih (i + 1) now X (by omega) hn (by omega)
      refine ⟨Y, s, hY, Ev.succ ?_, Ev.succ ?_⟩
      · simp only [spec_saTurned.l0]
        refine Ev.pos (by omega) (Ev.pos (by omega) (Ev.pos (by omega) ?_))
        rw [rdL_get hk]
        refine Ev.pos (by omega) (Ev.pos (by omega) (Ev.pos (by omega) (Ev.pos (by omega) (Ev.neg (by rw [unlike, hs]; simp) ?_))))
        rw [wrap_nat (by omega)]; exact h1
      · simp only [impl_turnedUnits.l0]
        refine Ev.pos (by omega) (Ev.pos (by omega) (Ev.pos (by omega) ?_))
        rw [rdL_get hk]
        refine Ev.pos (by omega) (Ev.pos (by omega) (Ev.pos (by omega) (Ev.pos (by omega) (Ev.pos hs ?_))))
        rw [wrap_nat (by omega)]; exact h2
    · obtain ⟨Y, s, hY, h1, h2⟩ := ih (i + 1) (turns now U[i]) (X ++ [(i : Int)]) (by omega) (by rw [turns_len]; exact hn) (by simp; omega)
      refine ⟨Y, s, hY, Ev.succ ?_, Ev.succ ?_⟩
      · simp only [spec_saTurned.l0]
        refine Ev.pos (by omega) (Ev.pos (by omega) (Ev.pos (by omega) ?_))
        rw [rdL_get hk]
        refine Ev.pos (by omega) (Ev.pos (by omega) (Ev.pos (by omega) (Ev.pos (by omega) (Ev.pos (by rw [unlike]; simpa using hs) ?_))))
        refine Ev.bind (saTurn (by omega) (fun x hx => by rw [hn]; exact hw x hx)) (Ev.pos (by omega) ?_)
        rw [wrap_nat (by omega)]; exact h1
      · simp only [impl_turnedUnits.l0]
        refine Ev.pos (by omega) (Ev.pos (by omega) (Ev.pos (by omega) ?_))
        rw [rdL_get hk]
        refine Ev.pos (by omega) (Ev.pos (by omega) (Ev.pos (by omega) (Ev.pos (by omega) (Ev.neg hs (Ev.pos (by omega) ?_)))))
        exact turnedOne_loop (by omega) (by omega) hw U[i].length 0 now (by omega) hn h2
theorem turned {r c : Int} {cs b : List C} (h : Board.Good r c cs) (h' : Board.Good r c b) : Turned cs.length (fun k => spec_saTurned.f k r c cs r c b) (fun k => impl_turnedUnits.f k r c cs r c b) := by
  obtain ⟨U, u1, u2, hU⟩ := units h
  have hl := h.len
  have e : cs.length = b.length := by have := h.1.2.2.2.2; have := h'.1.2.2.2.2; omega
  obtain ⟨X, s, hX, h1, h2⟩ := turned_loop (r := r) (c := c) e hl.2 hU U.length 0 cs [] (by omega) rfl (by simp)
  refine ⟨X, s, hX, ?_, ?_⟩
  · unfold spec_saTurned.f
    rw [boOwn (by omega)]
    simp only [Option.bind_some]
    exact Ev.bind u1 h1
  · unfold impl_turnedUnits.f
    rw [copyBoard (by omega)]
    simp only [Option.bind_some]
    exact Ev.bind u2 h2
theorem turnedOK (r c : Int) (cs : List C) (r' c' : Int) (b : List C) (hb : cs.length ≤ 1048576) (hb' : b.length ≤ 1048576) :
    (Board.Good r c cs ∧ Board.Good r' c' b ∧ r = r' ∧ c = c' ∧ Ev (fun k => spec_boSize.f k r c cs r' c' b) true ∧ Turned cs.length (fun k => spec_saTurned.f k r c cs r' c' b) (fun k => impl_turnedUnits.f k r c cs r' c' b)) ∨
    (Ev (fun k => spec_boSize.f k r c cs r' c' b) false ∧ ¬ (Board.Good r c cs ∧ Board.Good r' c' b ∧ r = r' ∧ c = c')) := by
  by_cases h : Board.Good r c cs
  · by_cases h' : Board.Good r' c' b
    · by_cases er : r = r'
      · by_cases ec : c = c'
        · subst er; subst ec
          refine .inl ⟨h, h', rfl, rfl, ?_, turned h h'⟩
          unfold spec_boSize.f
          exact Ev.bind (spec_yes h) (Ev.pos rfl (Ev.bind (spec_yes h') (Ev.pos rfl (Ev.pos rfl (Ev.val (Ev.now _) (by simp))))))
        · refine .inr ⟨?_, fun g => ec g.2.2.2⟩
          unfold spec_boSize.f
          exact Ev.bind (spec_yes h) (Ev.pos rfl (Ev.bind (spec_yes h') (Ev.pos rfl (Ev.pos er (Ev.val (Ev.now _) (by simpa using ec))))))
      · refine .inr ⟨?_, fun g => er g.2.2.1⟩
        unfold spec_boSize.f
        exact Ev.bind (spec_yes h) (Ev.pos rfl (Ev.bind (spec_yes h') (Ev.pos rfl (Ev.neg er (Ev.now _)))))
    · refine .inr ⟨?_, fun g => h' g.2.1⟩
      unfold spec_boSize.f
      exact Ev.bind (spec_yes h) (Ev.pos rfl (Ev.bind (spec_no h' hb') (Ev.neg (by simp) (Ev.now _))))
  · refine .inr ⟨?_, fun g => h g.1⟩
    unfold spec_boSize.f
    exact Ev.bind (spec_no h hb) (Ev.neg (by simp) (Ev.now _))
end Go.Proofs.Ytakihdabbpconaa.Units
