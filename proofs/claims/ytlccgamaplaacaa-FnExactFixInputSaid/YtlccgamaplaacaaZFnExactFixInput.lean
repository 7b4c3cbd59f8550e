/- The pure statement of the law FnExactFixInput: its printed function comes to true, whatever the table, the input and the value. -/
import Derived.Test.YtlccgamaplaacaaTabMark
import Derived.Test.YtlccgamaplaacaaFixIn
import Derived.Test.YtlccgamaplaacaaPx35
namespace Go.Proofs.Ytlccgamaplaacaa.PureFnExactFixInput
open Go.RowKit Go.Proofs.Ytlccgamaplaacaa.P Go.Proofs.Ytlccgamaplaacaa.Base Go.Proofs.Ytlccgamaplaacaa.Bit Go.Proofs.Ytlccgamaplaacaa.Tab Go.Proofs.Ytlccgamaplaacaa.FixIn Go.Proofs.YtlccgamaplaacaaW.PrintWords Go.Proofs.YtlccgamaplaacaaW.PrintLast Go.Proofs.YtlccgamaplaacaaW.PrintMore
set_option linter.unusedVariables false
theorem law : ∀ (a0_0 : Int) (l0_1 : List Int) (a1 : Int) (a2 : Int), l0_1.length ≤ 9223372036854775807 → (Lit.int .i64 a1).wf = true → (Lit.int .i64 a2).wf = true → ∃ k, laws_FnExactFixInput.f k a0_0 l0_1 a1 a2 = some true := by
  intro n l x v hl _ _
  apply Ev.rounds
  unfold laws_FnExactFixInput.f
  rw [szTab n l 1048576 hl (by omega) (by omega)]
  simp only [Option.bind_some]
  refine Ev.split (fun _ => Ev.now _) (fun c => ?_)
  have hb : l.length ≤ 1048576 := by split at c <;> omega
  obtain ⟨a, L, ok, hL, hs, hi⟩ := both n l x v hb
  repeat' first
    | exact Ev.now true
    | dsimp only
    | with_reducible refine Ev.bind hs ?_
    | with_reducible refine Ev.bind hi ?_
    | with_reducible refine Ev.bind (toTab _ _ (by omega)) ?_
    | with_reducible refine Ev.bind (eqTab_self _ _ (by omega)) ?_
    | with_reducible refine Ev.bind (markTab _ _ 1 (by omega) (by omega)) ?_
    | with_reducible refine Ev.bind (heldTab _ _ 1 (by omega) (by omega)) ?_
    | with_reducible refine Ev.bind (toInt _ (by omega)) ?_
    | with_reducible refine Ev.bind (eqInt_self _ (by omega)) ?_
    | with_reducible refine Ev.bind (markI _ 1 (by omega) (by omega)) ?_
    | with_reducible refine Ev.bind (heldI _ 1 (by omega) (by omega)) ?_
    | refine Ev.pos rfl ?_
    | (refine Ev.neg ?_ ?_; focus (first | omega | (simp; done)))
    | (with_reducible refine Ev.succ (g := fun k => laws_FnExactFixInput.j0 k _ _ _ _ _ _ _ _ _ _ _ _ _) ?_; simp only [laws_FnExactFixInput.j0])
    | (with_reducible refine Ev.succ (g := fun k => laws_FnExactFixInput.j1 k _ _ _ _ _ _ _ _ _ _) ?_; simp only [laws_FnExactFixInput.j1])
    | (with_reducible refine Ev.succ (g := fun k => laws_FnExactFixInput.j2 k _ _ _ _) ?_; simp only [laws_FnExactFixInput.j2])
end Go.Proofs.Ytlccgamaplaacaa.PureFnExactFixInput
