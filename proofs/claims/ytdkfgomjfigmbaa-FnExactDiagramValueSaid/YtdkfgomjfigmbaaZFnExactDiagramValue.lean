/- The pure statement of the law FnExactDiagramValue: its printed function comes to true, whatever the arguments. -/
import Derived.Test.YtdkfgomjfigmbaaTtIndex
import Derived.Test.YtdkfgomjfigmbaaDiagT
import Derived.Test.YtdkfgomjfigmbaaPx5
import Derived.Test.YtdkfgomjfigmbaaPx11
import Derived.Test.YtdkfgomjfigmbaaPx24
namespace Go.Proofs.Ytdkfgomjfigmbaa.PureFnExactDiagramValue
open Go.RowKit Go.Proofs.Ytdkfgomjfigmbaa.P Go.Proofs.Ytdkfgomjfigmbaa.Base Go.Proofs.Ytdkfgomjfigmbaa.Tab Go.Proofs.Ytdkfgomjfigmbaa.Num Go.Proofs.Ytdkfgomjfigmbaa.Nodes Go.Proofs.Ytdkfgomjfigmbaa.Dd Go.Proofs.Ytdkfgomjfigmbaa.Diag Go.Proofs.YtdkfgomjfigmbaaW.PrintWords Go.Proofs.YtdkfgomjfigmbaaW.PrintLast Go.Proofs.YtdkfgomjfigmbaaW.PrintMore
set_option linter.unusedVariables false
set_option linter.unusedSimpArgs false
theorem num_bit : ∀ (l : List Int), Bits l → ∀ i, (h : i < l.length) → l[i] = ((num l / 2 ^ i % 2 : Nat) : Int)
  | b :: t, hb, 0, _ => by
    have := hb b List.mem_cons_self
    simp only [List.getElem_cons_zero, num, Nat.pow_zero, Nat.div_one]
    omega
  | b :: t, hb, i + 1, h => by
    have := hb b List.mem_cons_self
    have ih := num_bit t (fun x hx => hb x (List.mem_cons_of_mem _ hx)) i (by simpa using h)
    have e : num (b :: t) / 2 = num t := by simp only [num]; omega
    rw [List.getElem_cons_succ, ih, Nat.pow_succ', ← Nat.div_div_eq_div_mul, e]
theorem both (n root : Int) (ns : List Nd) (l : List Int) (hb : ns.length ≤ 1048576) (hl : l.length ≤ 1048576) : ∃ v ok, Ev (fun k => spec_DiagramValue.f k n ns root l) (v, ok) ∧ Ev (fun k => impl_DiagramValue.f k n ns root l) (v, ok) := by
  have no : ∀ b : Bool, b = true → Ev (fun k => spec_DiagramValue.j0 k l b n ns root) (0, false) := by
    rintro b rfl
    refine Ev.succ ?_
    simp only [spec_DiagramValue.j0]
    exact Ev.pos trivial (Ev.now _)
  unfold spec_DiagramValue.f impl_DiagramValue.f
  rcases test (n := n) (root := root) hb with ⟨m, f, hI, hf, hS, hs, hi⟩ | ⟨hs, hi⟩
  · by_cases c1 : (l.length : Int) = n
    · by_cases c2 : Bits l
      · have hm := hI.four
        have hn := hI.n
        have hlm : l.length = m := by omega
        have hnum := num_lt l c2
        have h16 := pow16 hm
        rw [hlm] at hnum
        refine ⟨f (num l), true, Ev.bind hs (Ev.pos rfl (Ev.pos c1 (Ev.bind (Ev.val (l1All_bits l (by omega)) (decide_eq_true c2)) (Ev.succ ?_)))), Ev.bind hi (Ev.pos rfl (Ev.pos c1 (Ev.bind (Ev.val (areBits l (by omega)) (decide_eq_true c2)) (Ev.pos rfl (Ev.bind (a := f (num l)) ?_ (Ev.now _))))))⟩
        · simp only [spec_DiagramValue.j0]
          refine Ev.neg (by simp) (Ev.bind (ttIndex l c2 (by omega)) (Ev.bind (a := f (num l)) ?_ (Ev.now _)))
          unfold spec_ddValue.f
          exact value_loop hI (by omega) (hf (num l)).1
        · unfold impl_diagramValue.f
          exact implValue hI hlm (fun j hj => by rw [rd_get (by omega)]; exact num_bit l c2 j (by omega)) (hf (num l)).1
      · exact ⟨0, false, Ev.bind hs (Ev.pos rfl (Ev.pos c1 (Ev.bind (Ev.val (l1All_bits l (by omega)) (decide_eq_false c2)) (no _ rfl)))), Ev.bind hi (Ev.pos rfl (Ev.pos c1 (Ev.bind (Ev.val (areBits l (by omega)) (decide_eq_false c2)) (Ev.neg (by simp) (Ev.now _)))))⟩
    · exact ⟨0, false, Ev.bind hs (Ev.pos rfl (Ev.neg c1 (no _ rfl))), Ev.bind hi (Ev.pos rfl (Ev.neg c1 (Ev.now _)))⟩
  · exact ⟨0, false, Ev.bind hs (Ev.neg (by simp) (no _ rfl)), Ev.bind hi (Ev.neg (by simp) (Ev.now _))⟩
theorem law : ∀ (a0_0 : Int) (l0_1 : List NdL) (a0_2 : Int) (l1 : List Int), l0_1.length ≤ 9223372036854775807 → l1.length ≤ 9223372036854775807 → ∃ k, laws_FnExactDiagramValue.f k a0_0 l0_1 a0_2 l1 = some true := by
  intro n l root q hl hq0
  apply Ev.rounds
  unfold laws_FnExactDiagramValue.f
  refine Ev.split (fun _ => Ev.now _) (fun cB => ?_)
  have hq : q.length ≤ 1048576 := by omega
  rw [szDiagram n root l 1048576 hl (by omega) (by omega)]
  simp only [Option.bind_some]
  refine Ev.split (fun _ => Ev.now _) (fun c0 => ?_)
  have hb : l.length ≤ 1048576 := by split at c0 <;> omega
  have hm : (l.map convN).length ≤ 1048576 := by simpa using hb
  obtain ⟨v, ok, hs, hi⟩ := both n root (l.map convN) q hm hq
  repeat' first
    | exact Ev.now true
    | dsimp only
    | with_reducible refine Ev.bind hs ?_
    | with_reducible refine Ev.bind hi ?_
    | with_reducible refine Ev.bind (toDiagram _ _ _ (by omega)) ?_
    | with_reducible refine Ev.bind (eqDiagram_self _ _ _ (by omega)) ?_
    | with_reducible refine Ev.bind (toInt _ (by omega)) ?_
    | with_reducible refine Ev.bind (eqInt_self _ (by omega)) ?_
    | refine Ev.pos rfl ?_
    | (refine Ev.neg ?_ ?_; focus (first | omega | (simp; done)))
    | (with_reducible refine Ev.succ (g := fun k => laws_FnExactDiagramValue.j0 k _ _ _ _ _ _ _ _ _) ?_; simp only [laws_FnExactDiagramValue.j0])
end Go.Proofs.Ytdkfgomjfigmbaa.PureFnExactDiagramValue
