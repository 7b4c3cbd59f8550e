/- The pure statement of the law FnExactNeverMixes. -/
import Derived.Test.YtbpfdbjnnlmdjaaBoardMark
import Derived.Test.YtbpfdbjnnlmdjaaFew
import Derived.Test.YtbpfdbjnnlmdjaaPx17
namespace Go.Proofs.Ytbpfdbjnnlmdjaa.PureFnExactNeverMixes
open Go.RowKit Go.Proofs.Ytbpfdbjnnlmdjaa.P Go.Proofs.Ytbpfdbjnnlmdjaa.Base Go.Proofs.Ytbpfdbjnnlmdjaa.Board Go.Proofs.Ytbpfdbjnnlmdjaa.Units Go.Proofs.YtbpfdbjnnlmdjaaW.PrintWords Go.Proofs.YtbpfdbjnnlmdjaaW.PrintLast Go.Proofs.YtbpfdbjnnlmdjaaW.PrintMore
set_option linter.unusedVariables false
set_option linter.unusedSimpArgs false
theorem mix_loop {r c col : Int} {cs : List C} {U : List (List Int)} {NX EX : Int → Int → Int} {G : List Int} (h8 : U.length ≤ 8) (h0 : 0 ≤ col) (h1 : col < c) (hN : ∀ n col, 0 ≤ col → col < c → Step r c cs U G n col (NX n col) (EX n col)) (d : Nat) : ∀ (n : Nat) (S : List Bool), n + d = 2 ^ U.length → S.length = 2 ^ U.length →
    ∃ b, Ev (fun k => spec_NeverMixes.l0 k col ((2 ^ U.length : Nat) : Int) S n r c cs) (b, true) ∧ Ev (fun k => impl_NeverMixes.l0 k S (rowN NX U.length col) ((2 ^ U.length : Nat) : Int) n) (b, true) := by
  have hp := pow_nat (show U.length ≤ 16 by omega)
  induction d with
  | zero =>
    intro n S hn hS
    refine ⟨true, Ev.succ ?_, Ev.succ ?_⟩
    · simp only [spec_NeverMixes.l0]; exact Ev.neg (by omega) (Ev.now _)
    · simp only [impl_NeverMixes.l0]; exact Ev.neg (by omega) (Ev.now _)
  | succ d ih =>
    intro n S hn hS
    have st := hN n col h0 h1
    obtain ⟨rw', cl, sp⟩ := st.spec
    have hlo := st.lo
    have hhi := st.hi
    by_cases hb : rdOf false S (NX n col) = true
    · refine ⟨false, Ev.succ ?_, Ev.succ ?_⟩
      · simp only [spec_NeverMixes.l0]
        exact Ev.pos (by omega) (Ev.bind sp (Ev.pos hlo (Ev.pos (by rw [hS]; exact hhi) (Ev.pos hb (Ev.now _)))))
      · simp only [impl_NeverMixes.l0]
        refine Ev.pos (by omega) (Ev.pos (by omega) (Ev.pos (by rw [rowN_len]; omega) ?_))
        rw [rowN_rd NX U.length col (by omega)]
        exact Ev.pos hlo (Ev.pos (by rw [hS]; exact hhi) (Ev.pos hb (Ev.now _)))
    · obtain ⟨b, q1, q2⟩ := ih (n + 1) (S.set (NX n col).toNat true) (by omega) (by simpa using hS)
      refine ⟨b, Ev.succ ?_, Ev.succ ?_⟩
      · simp only [spec_NeverMixes.l0]
        refine Ev.pos (by omega) (Ev.bind sp (Ev.pos hlo (Ev.pos (by rw [hS]; exact hhi) (Ev.neg hb ?_))))
        rw [wrap_nat (by omega)]; exact q1
      · simp only [impl_NeverMixes.l0]
        refine Ev.pos (by omega) (Ev.pos (by omega) (Ev.pos (by rw [rowN_len]; omega) ?_))
        rw [rowN_rd NX U.length col (by omega)]
        refine Ev.pos hlo (Ev.pos (by rw [hS]; exact hhi) (Ev.neg hb ?_))
        rw [wrap_nat (by omega)]; exact q2
theorem both (r c col : Int) (cs : List C) (hb : cs.length ≤ 1048576) : ∃ (N : Bool) (ok : Bool), Ev (fun k => spec_NeverMixes.f k r c cs col) (N, ok) ∧ Ev (fun k => impl_NeverMixes.f k r c cs col) (N, ok) := by
  have no : ∀ b : Bool, b = true → Ev (fun k => impl_NeverMixes.j0 k col b r c cs) (false, false) := by
    rintro b rfl
    refine Ev.succ ?_
    simp only [impl_NeverMixes.j0]
    exact Ev.pos (by simp) (Ev.now _)
  rcases hasTest r c col cs hb with ⟨U, NX, EX, G, B, N0, hF, c0, c1, s, i, v⟩ | ⟨s, hn⟩
  · have h8 := hF.few
    have hp := pow_nat (show U.length ≤ 16 by omega)
    obtain ⟨b, q1, q2⟩ := mix_loop h8 c0 c1 hF.step (2 ^ U.length) 0 (List.replicate (2 ^ U.length) false) (by omega) (by simp)
    refine ⟨b, true, ?_, ?_⟩
    · unfold spec_NeverMixes.f
      refine Ev.bind s (Ev.pos rfl (Ev.bind hF.u1 ?_))
      rw [wrapU (show (0 : Int) ≤ (U.length : Int) by omega) (by omega), shl_nat (by omega)]
      refine Ev.pos (by omega) (Ev.pos (by omega) (Ev.pos (by omega) ?_))
      rw [Int.toNat_natCast]; exact q1
    · unfold impl_NeverMixes.f
      refine Ev.bind i (Ev.pos rfl (Ev.bind v (Ev.succ ?_)))
      simp only [impl_NeverMixes.j0]
      refine Ev.neg (by simp) (Ev.bind (numbersAfter hF.good hF.us hF.u2 (by omega) hF.g2 hF.step (cols := [col]) (by simp) (by simp; exact ⟨c0, c1⟩)) (Ev.pos (by simp) ?_))
      have e : rd_L3 ([col].map (rowN NX U.length)) 0 = rowN NX U.length col := rfl
      rw [e, rowN_len]
      refine Ev.pos (by omega) (Ev.pos (by omega) ?_)
      rw [Int.toNat_natCast]; exact q2
  · refine ⟨false, false, ?_, ?_⟩
    · unfold spec_NeverMixes.f
      exact Ev.bind s (Ev.neg (by simp) (Ev.now _))
    · unfold impl_NeverMixes.f
      rcases hn with i | ⟨i, v⟩
      · exact Ev.bind i (Ev.neg (by simp) (no _ rfl))
      · exact Ev.bind i (Ev.pos rfl (Ev.bind v (no _ rfl)))
theorem law : ∀ (a0_0 : Int) (a0_1 : Int) (l0_2 : List CL) (a1 : Int), l0_2.length ≤ 9223372036854775807 → (Lit.int .i64 a1).wf = true → ∃ k, laws_FnExactNeverMixes.f k a0_0 a0_1 l0_2 a1 = some true := by
  intro r c l col hl hc
  apply Ev.rounds
  unfold laws_FnExactNeverMixes.f
  rw [szBoard r c l 1048576 hl (by omega) (by omega)]
  simp only [Option.bind_some]
  refine Ev.split (fun _ => Ev.now _) (fun c0 => ?_)
  have hb : l.length ≤ 1048576 := by split at c0 <;> omega
  have hm : (l.map convC).length ≤ 1048576 := by simpa using hb
  obtain ⟨N, ok, hs, hi⟩ := both r c col (l.map convC) hm
  repeat' first
    | exact Ev.now true
    | dsimp only
    | with_reducible refine Ev.bind hs ?_
    | with_reducible refine Ev.bind hi ?_
    | with_reducible refine Ev.bind (toBoard _ _ _ (by omega)) ?_
    | with_reducible refine Ev.bind (eqBoard_self _ _ _ (by omega)) ?_
    | refine Ev.pos rfl ?_
    | (refine Ev.neg ?_ ?_; focus (first | omega | (simp; done)))
    | (with_reducible refine Ev.succ (g := fun k => laws_FnExactNeverMixes.j0 k _ _ _ _ _ _ _) ?_; simp only [laws_FnExactNeverMixes.j0])
end Go.Proofs.Ytbpfdbjnnlmdjaa.PureFnExactNeverMixes
