/- The pure statement of the law FnExactInputsUsed: its printed function comes to true, whatever the diagram. -/
import Derived.Test.YtdkfgomjfigmbaaNodesMark
import Derived.Test.YtdkfgomjfigmbaaDiagI
import Derived.Test.YtdkfgomjfigmbaaPut
import Derived.Test.YtdkfgomjfigmbaaPx25
namespace Go.Proofs.Ytdkfgomjfigmbaa.PureFnExactInputsUsed
open Go.RowKit Go.Proofs.Ytdkfgomjfigmbaa.P Go.Proofs.Ytdkfgomjfigmbaa.Base Go.Proofs.Ytdkfgomjfigmbaa.Put Go.Proofs.Ytdkfgomjfigmbaa.Nodes Go.Proofs.Ytdkfgomjfigmbaa.Dd Go.Proofs.Ytdkfgomjfigmbaa.Diag Go.Proofs.YtdkfgomjfigmbaaW.PrintWords Go.Proofs.YtdkfgomjfigmbaaW.PrintLast Go.Proofs.YtdkfgomjfigmbaaW.PrintMore
set_option linter.unusedVariables false
set_option linter.unusedSimpArgs false
theorem those_len (p : Nat → Bool) (a m : Nat) : (those p a m).length ≤ m := by
  have := List.length_filter_le p (List.range' a m)
  simpa [those] using this
theorem four (q : Int → Bool) : ([0, 1, 2, 3] : List Int).filter q = those (fun j => q (j : Int)) 0 4 := by
  have e : List.range' 0 4 = [0, 1, 2, 3] := rfl
  simp only [those, e, List.filter_cons, List.filter_nil]
  cases h0 : q 0 <;> cases h1 : q 1 <;> cases h2 : q 2 <;> cases h3 : q 3 <;> simp [h0, h1, h2, h3]
theorem put_loop {m : Nat} {n root : Int} {ns : List Nd} (hI : In m n root ns) (d : Nat) : ∀ i : Nat, i + d = ns.length → Ev (fun k => spec_InputsUsed.l0 k (those (fun j => (ns.take i).any (fun x => x.f0 == (j : Int))) 0 4) ns (ns.length : Int) (i : Int)) (those (fun j => ns.any (fun x => x.f0 == (j : Int))) 0 4, true) := by
  have hl := hI.len
  have hm := hI.four
  induction d with
  | zero =>
    intro i hi
    refine Ev.succ ?_
    simp only [spec_InputsUsed.l0]
    refine Ev.neg (by omega) (Ev.val (Ev.now _) ?_)
    rw [List.take_of_length_le (by omega)]
  | succ d ih =>
    intro i hi
    have hx := hI.bnd.inp i ns[i] (List.getElem?_eq_getElem (by omega))
    obtain ⟨n', en⟩ := Int.eq_ofNat_of_zero_le hx.1
    have ht := those_len (fun j => (ns.take i).any (fun x => x.f0 == (j : Int))) 0 4
    refine Ev.succ ?_
    simp only [spec_InputsUsed.l0]
    refine Ev.pos (by omega) (Ev.pos (by omega) (Ev.pos (by omega) ?_))
    rw [rdN_get (by omega), wrap_nat (by omega)]
    refine Ev.bind (put_ev _ _ (by omega)) ?_
    have e : put ns[i].f0 (those (fun j => (ns.take i).any (fun x => x.f0 == (j : Int))) 0 4) = those (fun j => (ns.take (i + 1)).any (fun x => x.f0 == (j : Int))) 0 4 := by
      rw [en, put_those _ n' 4 0 (by omega) (by omega)]
      congr 1
      funext j
      rw [List.take_succ_eq_append_getElem (by omega), List.any_append, Bool.eq_iff_iff]
      simp only [List.any_cons, List.any_nil, Bool.or_false, Bool.or_eq_true, beq_iff_eq, en]
      constructor <;> rintro (h | h) <;> first | exact .inl h | exact .inr (by omega)
    rw [e]
    exact ih (i + 1) (by omega)
theorem both (n root : Int) (ns : List Nd) (hb : ns.length ≤ 1048576) : ∃ L ok, (L : List Int).length ≤ 1048576 ∧ Ev (fun k => spec_InputsUsed.f k n ns root) (L, ok) ∧ Ev (fun k => impl_InputsUsed.f k n ns root) (L, ok) := by
  unfold spec_InputsUsed.f impl_InputsUsed.f
  rcases test (n := n) (root := root) hb with ⟨m, f, hI, hf, hS, hs, hi⟩ | ⟨hs, hi⟩
  · refine ⟨those (fun j => ns.any (fun x => x.f0 == (j : Int))) 0 4, true, by have := those_len (fun j => ns.any (fun x => x.f0 == (j : Int))) 0 4; omega, Ev.bind hs (Ev.pos rfl ?_), Ev.bind hi (Ev.pos rfl (Ev.pos ⟨hI.len, fun x hx => ?_⟩ (Ev.val (Ev.now _) ?_)))⟩
    · have := put_loop hI ns.length 0 (by omega)
      have e : those (fun j => (ns.take 0).any (fun x => x.f0 == (j : Int))) 0 4 = [] := by simp [those]
      rw [e] at this
      exact this
    · obtain ⟨j, hj, rfl⟩ := List.getElem_of_mem hx
      have := hI.bnd.inp j ns[j] (List.getElem?_eq_getElem hj)
      have := hI.four
      omega
    · rw [four (fun i => ns.any (fun x => x.f0 == i))]
  · exact ⟨[], false, by simp, Ev.bind hs (Ev.neg (by simp) (Ev.now _)), Ev.bind hi (Ev.neg (by simp) (Ev.now _))⟩
theorem law : ∀ (a0_0 : Int) (l0_1 : List NdL) (a0_2 : Int), l0_1.length ≤ 9223372036854775807 → ∃ k, laws_FnExactInputsUsed.f k a0_0 l0_1 a0_2 = some true := by
  intro n l root hl
  apply Ev.rounds
  unfold laws_FnExactInputsUsed.f
  rw [szDiagram n root l 1048576 hl (by omega) (by omega)]
  simp only [Option.bind_some]
  refine Ev.split (fun _ => Ev.now _) (fun c0 => ?_)
  have hb : l.length ≤ 1048576 := by split at c0 <;> omega
  have hm : (l.map convN).length ≤ 1048576 := by simpa using hb
  obtain ⟨L, ok, hL, hs, hi⟩ := both n root (l.map convN) hm
  repeat' first
    | exact Ev.now true
    | dsimp only
    | with_reducible refine Ev.bind hs ?_
    | with_reducible refine Ev.bind hi ?_
    | with_reducible refine Ev.bind (toDiagram _ _ _ (by omega)) ?_
    | with_reducible refine Ev.bind (eqDiagram_self _ _ _ (by omega)) ?_
    | with_reducible refine Ev.bind (markDiagram _ _ _ _ (by omega) (by omega)) ?_
    | with_reducible refine Ev.bind (eqInt_self _ (by omega)) ?_
    | with_reducible refine Ev.bind (markI _ _ (by omega) (by omega)) ?_
    | with_reducible refine Ev.bind (heldI _ _ (by omega) (by omega)) ?_
    | refine Ev.pos rfl ?_
    | (refine Ev.neg ?_ ?_; focus (first | omega | (simp; done)))
    | (with_reducible refine Ev.succ (g := fun k => laws_FnExactInputsUsed.j0 k _ _ _ _ _ _ _ _ _ _ _) ?_; simp only [laws_FnExactInputsUsed.j0])
    | (with_reducible refine Ev.succ (g := fun k => laws_FnExactInputsUsed.j1 k _ _ _ _ _ _ _) ?_; simp only [laws_FnExactInputsUsed.j1])
    | (with_reducible refine Ev.succ (g := fun k => laws_FnExactInputsUsed.j2 k _ _ _) ?_; simp only [laws_FnExactInputsUsed.j2])
end Go.Proofs.Ytdkfgomjfigmbaa.PureFnExactInputsUsed
