/- The pure statement of the law FnExactCountTrue: its printed function comes to true, whatever the arguments. -/
import Derived.Test.YtdkfgomjfigmbaaNodes
import Derived.Test.YtdkfgomjfigmbaaDiagT
import Derived.Test.YtdkfgomjfigmbaaPx22
namespace Go.Proofs.Ytdkfgomjfigmbaa.PureFnExactCountTrue
open Go.RowKit Go.Proofs.Ytdkfgomjfigmbaa.P Go.Proofs.Ytdkfgomjfigmbaa.Base Go.Proofs.Ytdkfgomjfigmbaa.Nodes Go.Proofs.Ytdkfgomjfigmbaa.Dd Go.Proofs.Ytdkfgomjfigmbaa.Diag Go.Proofs.YtdkfgomjfigmbaaW.PrintWords Go.Proofs.YtdkfgomjfigmbaaW.PrintLast Go.Proofs.YtdkfgomjfigmbaaW.PrintMore
set_option linter.unusedVariables false
set_option linter.unusedSimpArgs false
/-- How many of the first i values are 1. -/
def cnt (f : Nat → Int) (i : Nat) : Nat := ((List.range i).filter fun j => decide (f j = 1)).length
theorem cnt_succ (f : Nat → Int) (i : Nat) : cnt f (i + 1) = cnt f i + if f i = 1 then 1 else 0 := by
  simp only [cnt, List.range_succ, List.filter_append, List.length_append]
  by_cases h : f i = 1 <;> simp [h]
theorem cnt_le (f : Nat → Int) : ∀ i, cnt f i ≤ i
  | 0 => by simp [cnt]
  | i + 1 => by
    have := cnt_le f i
    rw [cnt_succ]; split <;> omega
theorem ones_loop {f : Nat → Int} {m : Nat} (hm : m ≤ 4) (d : Nat) : ∀ (i : Nat) (acc : List Int), i + d = 2 ^ m → acc.length = cnt f i → ∃ L : List Int, L.length = cnt f (2 ^ m) ∧ Ev (fun k => spec_ttOnes.l0 k acc (tab f m) ((tab f m).length : Int) (i : Int)) L := by
  have hp := pow16 hm
  have ht := tab_len f m
  induction d with
  | zero =>
    intro i acc hi ha
    refine ⟨acc, by rw [ha, show i = 2 ^ m by omega], Ev.succ ?_⟩
    simp only [spec_ttOnes.l0]
    exact Ev.neg (by omega) (Ev.now _)
  | succ d ih =>
    intro i acc hi ha
    have hr := tab_rd f (m := m) (x := i) (by omega)
    have hc := cnt_succ f i
    have hle := cnt_le f i
    by_cases c : f i = 1
    · obtain ⟨L, hL, h1⟩ := ih (i + 1) (acc ++ [(i : Int)]) (by omega) (by rw [hc, if_pos c]; simp; omega)
      refine ⟨L, hL, Ev.succ ?_⟩
      simp only [spec_ttOnes.l0]
      refine Ev.pos (by omega) (Ev.pos (by omega) (Ev.pos (by omega) (Ev.pos (by rw [hr]; exact c) (Ev.pos (by omega) ?_))))
      rw [wrap_nat (by omega)]; exact h1
    · obtain ⟨L, hL, h1⟩ := ih (i + 1) acc (by omega) (by rw [hc, if_neg c]; omega)
      refine ⟨L, hL, Ev.succ ?_⟩
      simp only [spec_ttOnes.l0]
      refine Ev.pos (by omega) (Ev.pos (by omega) (Ev.pos (by omega) (Ev.neg (by rw [hr]; exact c) ?_)))
      rw [wrap_nat (by omega)]; exact h1
theorem sum_loop {f : Nat → Int} (hf : ∀ x, 0 ≤ f x ∧ f x ≤ 1) {m : Nat} (hm : m ≤ 4) (d : Nat) : ∀ (i : Nat), i + d = 2 ^ m → Ev (fun k => impl_CountTrue.l0 k ((cnt f i : Nat) : Int) (tab f m) ((tab f m).length : Int) (i : Int)) (((cnt f (2 ^ m) : Nat) : Int), true) := by
  have hp := pow16 hm
  have ht := tab_len f m
  induction d with
  | zero =>
    intro i hi
    refine Ev.succ ?_
    simp only [impl_CountTrue.l0]
    exact Ev.neg (by omega) (Ev.val (Ev.now _) (by rw [show i = 2 ^ m by omega]))
  | succ d ih =>
    intro i hi
    have hr := tab_rd f (m := m) (x := i) (by omega)
    have hc := cnt_succ f i
    have hle := cnt_le f i
    have hb := hf i
    have e : wrap64 (((cnt f i : Nat) : Int) + f i) = ((cnt f (i + 1) : Nat) : Int) := by
      rw [wrap_id (by omega) (by omega), hc]
      split <;> omega
    refine Ev.succ ?_
    simp only [impl_CountTrue.l0]
    rw [hr, e, wrap_nat (by omega)]
    exact Ev.pos (by omega) (Ev.pos (by omega) (Ev.pos (by omega) (ih (i + 1) (by omega))))
theorem both (n root : Int) (ns : List Nd) (hb : ns.length ≤ 1048576) : ∃ v ok, Ev (fun k => spec_CountTrue.f k n ns root) (v, ok) ∧ Ev (fun k => impl_CountTrue.f k n ns root) (v, ok) := by
  unfold spec_CountTrue.f impl_CountTrue.f
  rcases test (n := n) (root := root) hb with ⟨m, f, hI, hf, hS, hs, hi⟩ | ⟨hs, hi⟩
  · obtain ⟨L, hL, h1⟩ := ones_loop (f := f) hI.four (2 ^ m) 0 [] (by omega) (by simp [cnt])
    refine ⟨((cnt f (2 ^ m) : Nat) : Int), true, Ev.bind hs (Ev.pos rfl (Ev.bind (ddTable hI hf) ?_)), Ev.bind hi (Ev.pos rfl (Ev.bind (implTable hI hf) ?_))⟩
    · unfold spec_ttOnes.f
      exact Ev.bind h1 (Ev.val (Ev.now _) (by rw [hL]))
    · exact sum_loop (fun x => (hf x).2) hI.four (2 ^ m) 0 (by omega)
  · exact ⟨0, false, Ev.bind hs (Ev.neg (by simp) (Ev.now _)), Ev.bind hi (Ev.neg (by simp) (Ev.now _))⟩
theorem law : ∀ (a0_0 : Int) (l0_1 : List NdL) (a0_2 : Int), l0_1.length ≤ 9223372036854775807 → ∃ k, laws_FnExactCountTrue.f k a0_0 l0_1 a0_2 = some true := by
  intro n l root hl
  apply Ev.rounds
  unfold laws_FnExactCountTrue.f
  rw [szDiagram n root l 1048576 hl (by omega) (by omega)]
  simp only [Option.bind_some]
  refine Ev.split (fun _ => Ev.now _) (fun c0 => ?_)
  have hb : l.length ≤ 1048576 := by split at c0 <;> omega
  have hm : (l.map convN).length ≤ 1048576 := by simpa using hb
  obtain ⟨v, ok, hs, hi⟩ := both n root (l.map convN) hm
  repeat' first
    | exact Ev.now true
    | dsimp only
    | with_reducible refine Ev.bind hs ?_
    | with_reducible refine Ev.bind hi ?_
    | with_reducible refine Ev.bind (toDiagram _ _ _ (by omega)) ?_
    | with_reducible refine Ev.bind (eqDiagram_self _ _ _ (by omega)) ?_
    | refine Ev.pos rfl ?_
    | (refine Ev.neg ?_ ?_; focus (first | omega | (simp; done)))
    | (with_reducible refine Ev.succ (g := fun k => laws_FnExactCountTrue.j0 k _ _ _ _ _ _ _) ?_; simp only [laws_FnExactCountTrue.j0])
end Go.Proofs.Ytdkfgomjfigmbaa.PureFnExactCountTrue
