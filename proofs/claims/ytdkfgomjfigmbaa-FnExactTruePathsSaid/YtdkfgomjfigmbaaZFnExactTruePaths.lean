/- The pure statement of the law FnExactTruePaths: its printed function comes to true, whatever the arguments. -/
import Derived.Test.YtdkfgomjfigmbaaNodes
import Derived.Test.YtdkfgomjfigmbaaDiagI
import Derived.Test.YtdkfgomjfigmbaaPx20
namespace Go.Proofs.Ytdkfgomjfigmbaa.PureFnExactTruePaths
open Go.RowKit Go.Proofs.Ytdkfgomjfigmbaa.P Go.Proofs.Ytdkfgomjfigmbaa.Base Go.Proofs.Ytdkfgomjfigmbaa.Nodes Go.Proofs.Ytdkfgomjfigmbaa.Dd Go.Proofs.Ytdkfgomjfigmbaa.Diag Go.Proofs.YtdkfgomjfigmbaaW.PrintWords Go.Proofs.YtdkfgomjfigmbaaW.PrintLast Go.Proofs.YtdkfgomjfigmbaaW.PrintMore
set_option linter.unusedVariables false
set_option linter.unusedSimpArgs false
theorem loops {m : Nat} {n root : Int} {ns : List Nd} (hI : In m n root ns) (d : Nat) : ∀ (i : Nat) (acc : List Int), i + d = ns.length → acc.length = i + 2 → ∃ v, Ev (fun k => spec_TruePaths.l0 k acc ns (ns.length : Int) (i : Int) n ns root) (v, true) ∧ Ev (fun k => impl_TruePaths.l0 k acc ns (ns.length : Int) (i : Int) n ns root) (v, true) := by
  have hl := hI.len
  have h0 := hI.bnd.lo
  have h1 := hI.bnd.hi
  induction d with
  | zero =>
    intro i acc hi ha
    refine ⟨rd acc root, Ev.succ ?_, Ev.succ ?_⟩
    · simp only [spec_TruePaths.l0]
      exact Ev.neg (by omega) (Ev.pos h0 (Ev.pos (by omega) (Ev.now _)))
    · simp only [impl_TruePaths.l0]
      exact Ev.neg (by omega) (Ev.pos h0 (Ev.pos (by omega) (Ev.now _)))
  | succ d ih =>
    intro i acc hi ha
    have hr := hI.bnd.refs i (by omega)
    have er := rdN_get (xs := ns) (i := i) (by omega)
    obtain ⟨v, e1, e2⟩ := ih (i + 1) (acc ++ [wrap64 (rd acc ns[i].f1 + rd acc ns[i].f2)]) (by omega) (by simp; omega)
    refine ⟨v, Ev.succ ?_, Ev.succ ?_⟩
    · simp only [spec_TruePaths.l0]
      rw [er, wrap_nat (by omega)]
      exact Ev.pos (by omega) (Ev.pos (by omega) (Ev.pos (by omega) (Ev.pos (by omega) (Ev.pos (by omega) (Ev.pos (by omega) (Ev.pos (by omega) (Ev.pos (by omega) e1)))))))
    · simp only [impl_TruePaths.l0]
      rw [er, wrap_nat (by omega)]
      exact Ev.pos (by omega) (Ev.pos (by omega) (Ev.pos (by omega) (Ev.pos (by omega) (Ev.pos (by omega) (Ev.pos (by omega) (Ev.pos (by omega) (Ev.pos (by omega) e2)))))))
theorem both (n root : Int) (ns : List Nd) (hb : ns.length ≤ 1048576) : ∃ v ok, Ev (fun k => spec_TruePaths.f k n ns root) (v, ok) ∧ Ev (fun k => impl_TruePaths.f k n ns root) (v, ok) := by
  unfold spec_TruePaths.f impl_TruePaths.f
  rcases test (n := n) (root := root) hb with ⟨m, f, hI, hf, hS, hs, hi⟩ | ⟨hs, hi⟩
  · obtain ⟨v, e1, e2⟩ := loops hI ns.length 0 [0, 1] (by omega) rfl
    exact ⟨v, true, Ev.bind hs (Ev.pos rfl e1), Ev.bind hi (Ev.pos rfl e2)⟩
  · exact ⟨0, false, Ev.bind hs (Ev.neg (by simp) (Ev.now _)), Ev.bind hi (Ev.neg (by simp) (Ev.now _))⟩
theorem law : ∀ (a0_0 : Int) (l0_1 : List NdL) (a0_2 : Int), l0_1.length ≤ 9223372036854775807 → ∃ k, laws_FnExactTruePaths.f k a0_0 l0_1 a0_2 = some true := by
  intro n l root hl
  apply Ev.rounds
  unfold laws_FnExactTruePaths.f
  rw [szDiagram n root l 1048576 hl (by omega) (by omega)]
  simp only [Option.bind_some]
  refine Ev.split (fun _ => Ev.now _) (fun c0 => ?_)
  have hb : l.length ≤ 1048576 := by split at c0 <;> omega
  have hm : (l.map convN).length ≤ 1048576 := by simpa using hb
  obtain ⟨v, ok, hs, hi⟩ := both n root (l.map convN) hm
  repeat' first
    | exact Ev.now true
    | dsimp only
    | with_reducible refine Ev.bind hs ?_
    | with_reducible refine Ev.bind hi ?_
    | with_reducible refine Ev.bind (toDiagram _ _ _ (by omega)) ?_
    | with_reducible refine Ev.bind (eqDiagram_self _ _ _ (by omega)) ?_
    | refine Ev.pos rfl ?_
    | (refine Ev.neg ?_ ?_; focus (first | omega | (simp; done)))
    | (with_reducible refine Ev.succ (g := fun k => laws_FnExactTruePaths.j0 k _ _ _ _ _ _ _) ?_; simp only [laws_FnExactTruePaths.j0])
end Go.Proofs.Ytdkfgomjfigmbaa.PureFnExactTruePaths
