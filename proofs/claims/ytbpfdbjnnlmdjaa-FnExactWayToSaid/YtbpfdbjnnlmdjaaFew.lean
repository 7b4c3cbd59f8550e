--MINI
/- Boards with few units: what the program's and the reference's tests answer; the number of the board's own state. -/
import Derived.Test.YtbpfdbjnnlmdjaaNext
import Derived.Test.YtbpfdbjnnlmdjaaPx2
import Derived.Test.YtbpfdbjnnlmdjaaPx3
import Derived.Test.YtbpfdbjnnlmdjaaPx7
import Derived.Test.YtbpfdbjnnlmdjaaPx8
import Derived.Test.YtbpfdbjnnlmdjaaPx10
namespace Go.Proofs.Ytbpfdbjnnlmdjaa.Units
open Go.RowKit Go.Proofs.Ytbpfdbjnnlmdjaa.P Go.Proofs.Ytbpfdbjnnlmdjaa.Base Go.Proofs.Ytbpfdbjnnlmdjaa.Board Go.Proofs.Ytbpfdbjnnlmdjaa.Groups Go.Proofs.YtbpfdbjnnlmdjaaW.PrintWords Go.Proofs.YtbpfdbjnnlmdjaaW.PrintLast Go.Proofs.YtbpfdbjnnlmdjaaW.PrintMore
set_option linter.unusedVariables false
set_option linter.unusedSimpArgs false
/-- All that is known of a valid board with few units. -/
structure Few (r c : Int) (cs : List C) (U : List (List Int)) (NX EX : Int → Int → Int) (G B : List Int) (N0 : Int) : Prop where
  good : Board.Good r c cs
  few : U.length ≤ 8
  us : Us cs cs.length U
  u1 : Ev (fun k => aD.f k r c cs) U
  u2 : Ev (fun k => bn.f k r c cs) U
  g2 : Ev (fun k => av.f k r c cs) G
  step : ∀ n col, 0 ≤ col → col < c → Step r c cs U G n col (NX n col) (EX n col)
  s0 : Ev (fun k => bR.f k r c cs) N0
  b0 : Ev (fun k => dw.f k r c cs) B
  n0 : Ev (fun k => bC.f k B) N0
  lo : 0 ≤ N0
  hi : N0 < ((2 ^ U.length : Nat) : Int)
theorem aqG {r c : Int} {cs : List C} (h : Board.Good r c cs) {U : List (List Int)} (u1 : Ev (fun k => aD.f k r c cs) U) (u2 : Ev (fun k => bn.f k r c cs) U) (hU : Us cs cs.length U) (h8 : U.length ≤ 8) : ∃ NX EX G B N0, Few r c cs U NX EX G B N0 := by
  obtain ⟨G, g1, g2, hI⟩ := groups h
  obtain ⟨NX, EX, hN⟩ := nexts h hU u1 (by omega) g1 hI.len
  obtain ⟨U', hU', v1, _, b1, b2, b01⟩ := adT h
  have eU : U' = U := det v1 u1
  subst eU
  have hB : (U'.map (nE cs)).length ≤ 16 := by simp; omega
  have hv := zL (U'.map (nE cs)) b01 _ (Nat.le_refl _)
  refine ⟨NX, EX, G, U'.map (nE cs), value (U'.map (nE cs)) (U'.map (nE cs)).length, h, h8, hU, u1, u2, g2, hN, ?_, b2, ?_, hv.1, ?_⟩
  · unfold bR.f
    exact Ev.bind b1 (Bv hB b01 (U'.map (nE cs)).length 0 (by omega))
  · unfold bC.f
    exact Bw hB b01 (U'.map (nE cs)).length 0 (by omega)
  · have := hv.2
    rw [List.length_map] at this ⊢
    rw [Su]; exact this
theorem ahL (r c : Int) (cs : List C) (hb : cs.length ≤ 1048576) : (∃ U NX EX G B N0, Few r c cs U NX EX G B N0 ∧ Ev (fun k => iW.f k r c cs) true ∧ Ev (fun k => dP.f k r c cs) true) ∨ (Ev (fun k => iW.f k r c cs) false ∧ Ev (fun k => dP.f k r c cs) false) := by
  by_cases h : Board.Good r c cs
  · obtain ⟨U, u1, u2, hU⟩ := units h
    have sp : ∀ b, decide ((U.length : Int) ≤ 8) = b → Ev (fun k => iW.f k r c cs) b := fun b hb' => by
      unfold iW.f
      exact Ev.bind (adP h) (Ev.pos rfl (Ev.bind u1 (Ev.val (Ev.now _) hb')))
    have im : ∀ b, decide ((U.length : Int) ≤ 8) = b → Ev (fun k => dP.f k r c cs) b := fun b hb' => by
      unfold dP.f
      exact Ev.bind (adQ h) (Ev.pos rfl (Ev.bind u2 (Ev.val (Ev.now _) hb')))
    by_cases h8 : U.length ≤ 8
    · obtain ⟨NX, EX, G, B, N0, hF⟩ := aqG h u1 u2 hU h8
      exact .inl ⟨U, NX, EX, G, B, N0, hF, sp _ (by simp; omega), im _ (by simp; omega)⟩
    · exact .inr ⟨sp _ (by simp; omega), im _ (by simp; omega)⟩
  · refine .inr ⟨?_, ?_⟩
    · unfold iW.f
      exact Ev.bind (ahF h hb) (Ev.neg (by simp) (Ev.now _))
    · unfold dP.f
      exact Ev.bind (ahG h hb) (Ev.neg (by simp) (Ev.now _))
end Go.Proofs.Ytbpfdbjnnlmdjaa.Units
