import Derived.Test.YtbpfdbjnnlmdjaaNext
import Derived.Test.YtbpfdbjnnlmdjaaPx1
import Derived.Test.YtbpfdbjnnlmdjaaPx3
import Derived.Test.YtbpfdbjnnlmdjaaPx6
namespace Go.Proofs.Ytbpfdbjnnlmdjaa.Units
open Go.RowKit P Base Board Groups YtbpfdbjnnlmdjaaW.PrintWords
set_option linter.all false
structure Few (r c : Int) (cs : List C) (U : List (List Int)) (NX EX : Int → Int → Int) (G B : List Int) (N0 : Int) : Prop where
  good : Board.Good r c cs
  few : U.length ≤ 8
  us : Us cs cs.length U
  u1 : Ev (fun k => spec_saUnits.f k r c cs) U
  u2 : Ev (fun k => impl_unitsOf.f k r c cs) U
  g2 : Ev (fun k => impl_groupNumbers.f k r c cs) G
  step : ∀ n col, 0 ≤ col → col < c → Step r c cs U G n col (NX n col) (EX n col)
  s0 : Ev (fun k => spec_saNumber.f k r c cs) N0
  b0 : Ev (fun k => impl_bitsOf.f k r c cs) B
  n0 : Ev (fun k => impl_numberOf.f k B) N0
  lo : 0 ≤ N0
  hi : N0 < ((2 ^ U.length : Nat) : Int)
theorem few_of {r c : Int} {cs : List C} (h : Board.Good r c cs) {U : List (List Int)} (u1 : Ev (fun k => spec_saUnits.f k r c cs) U) (u2 : Ev (fun k => impl_unitsOf.f k r c cs) U) (hU : Us cs cs.length U) (h8 : U.length ≤ 8) : ∃ NX EX G B N0, Few r c cs U NX EX G B N0 := by
  obtain ⟨G, g1, g2, hI⟩ := groups h
  obtain ⟨NX, EX, hN⟩ := nexts h hU u1 (by omega) g1 hI.len
  obtain ⟨U', hU', v1, _, b1, b2, b01⟩ := bitsOK h
  have eU : U' = U := det v1 u1
  subst eU
  have hB : (U'.map (bitAt cs)).length ≤ 16 := by simp; omega
  have hv := value_lt (U'.map (bitAt cs)) b01 _ (Nat.le_refl _)
  refine ⟨NX, EX, G, U'.map (bitAt cs), value (U'.map (bitAt cs)) (U'.map (bitAt cs)).length, h, h8, hU, u1, u2, g2, hN, ?_, b2, ?_, hv.1, ?_⟩
  · unfold spec_saNumber.f
    exact Ev.bind b1 (specNum_loop hB b01 (U'.map (bitAt cs)).length 0 (by omega))
  · unfold impl_numberOf.f
    exact implNum_loop hB b01 (U'.map (bitAt cs)).length 0 (by omega)
  · have := hv.2
    rw [List.length_map] at this ⊢
    rw [pow_cast]; exact this
theorem fewTest (r c : Int) (cs : List C) (hb : cs.length ≤ 1048576) : (∃ U NX EX G B N0, Few r c cs U NX EX G B N0 ∧ Ev (fun k => spec_reGood.f k r c cs) true ∧ Ev (fun k => impl_fewUnits.f k r c cs) true) ∨ (Ev (fun k => spec_reGood.f k r c cs) false ∧ Ev (fun k => impl_fewUnits.f k r c cs) false) := by
  by_cases h : Board.Good r c cs
  · obtain ⟨U, u1, u2, hU⟩ := units h
    have sp : ∀ b, decide ((U.length : Int) ≤ 8) = b → Ev (fun k => spec_reGood.f k r c cs) b := fun b hb' => by
      unfold spec_reGood.f
      exact Ev.bind (spec_yes h) (Ev.pos rfl (Ev.bind u1 (Ev.val (Ev.now _) hb')))
    have im : ∀ b, decide ((U.length : Int) ≤ 8) = b → Ev (fun k => impl_fewUnits.f k r c cs) b := fun b hb' => by
      unfold impl_fewUnits.f
      exact Ev.bind (impl_yes h) (Ev.pos rfl (Ev.bind u2 (Ev.val (Ev.now _) hb')))
    by_cases h8 : U.length ≤ 8
    · obtain ⟨NX, EX, G, B, N0, hF⟩ := few_of h u1 u2 hU h8
      exact .inl ⟨U, NX, EX, G, B, N0, hF, sp _ (by simp; omega), im _ (by simp; omega)⟩
    · exact .inr ⟨sp _ (by simp; omega), im _ (by simp; omega)⟩
  · refine .inr ⟨?_, ?_⟩
    · unfold spec_reGood.f
      exact Ev.bind (spec_no h hb) (Ev.neg (by simp) (Ev.now _))
    · unfold impl_fewUnits.f
      exact Ev.bind (impl_no h hb) (Ev.neg (by simp) (Ev.now _))
end Go.Proofs.Ytbpfdbjnnlmdjaa.Units
