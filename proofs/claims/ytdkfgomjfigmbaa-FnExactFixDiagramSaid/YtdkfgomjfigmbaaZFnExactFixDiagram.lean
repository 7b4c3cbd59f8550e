/- The pure statement of the law FnExactFixDiagram: its printed function comes to true, whatever the arguments. -/
import Derived.Test.YtdkfgomjfigmbaaNodesMark
import Derived.Test.YtdkfgomjfigmbaaFixIn
import Derived.Test.YtdkfgomjfigmbaaDiagT
import Derived.Test.YtdkfgomjfigmbaaPx2
import Derived.Test.YtdkfgomjfigmbaaPx12
import Derived.Test.YtdkfgomjfigmbaaPx27
namespace Go.Proofs.Ytdkfgomjfigmbaa.PureFnExactFixDiagram
open Go.RowKit Go.Proofs.Ytdkfgomjfigmbaa.P Go.Proofs.Ytdkfgomjfigmbaa.Base Go.Proofs.Ytdkfgomjfigmbaa.Tab Go.Proofs.Ytdkfgomjfigmbaa.FixIn Go.Proofs.Ytdkfgomjfigmbaa.Nodes Go.Proofs.Ytdkfgomjfigmbaa.Dd Go.Proofs.Ytdkfgomjfigmbaa.Diag Go.Proofs.YtdkfgomjfigmbaaW.PrintWords Go.Proofs.YtdkfgomjfigmbaaW.PrintLast Go.Proofs.YtdkfgomjfigmbaaW.PrintMore
set_option linter.unusedVariables false
set_option linter.unusedSimpArgs false
/-- How many of the indexes from i on have that bit. -/
def cntK (x : Nat) (v : Int) : Nat → Nat → Nat
  | _, 0 => 0
  | i, d + 1 => (if (Bit.bit i x : Int) = v then 1 else 0) + cntK x v (i + 1) d
theorem kept_cnt (l : List Int) (x : Nat) (v : Int) : ∀ (d i : Nat), (kept l x v i d).length = cntK x v i d
  | 0, i => rfl
  | d + 1, i => by
    have := kept_cnt l x v d (i + 1)
    simp only [kept, cntK]
    split <;> simp [this] <;> omega
theorem cnt_half {m x : Nat} (hm : m ≤ 4) (hx : x < m) {v : Int} (hv : v = 0 ∨ v = 1) : cntK x v 0 (2 ^ m) = 2 ^ (m - 1) := by
  rcases (by omega : m = 1 ∨ m = 2 ∨ m = 3 ∨ m = 4) with rfl | rfl | rfl | rfl <;> rcases (by omega : x = 0 ∨ x = 1 ∨ x = 2 ∨ x = 3) with rfl | rfl | rfl | rfl <;> first | (exfalso; omega) | (rcases hv with rfl | rfl <;> decide)
theorem dlen (l : List Int) {m : Nat} (hm : m ≤ 4) : (dbld l m 0 0 []).1.length ≤ 1048576 := by
  have h1 := dbld_len l m 0 0 []
  have h2 := pow16 hm
  simp only [List.length_nil] at h1; omega
theorem both (n root : Int) (ns : List Nd) (x v : Int) (hb : ns.length ≤ 1048576) : ∃ a L r ok, (L : List Nd).length ≤ 1048576 ∧ Ev (fun k => spec_FixDiagram.f k n ns root x v) (a, L, r, ok) ∧ Ev (fun k => impl_FixDiagram.f k n ns root x v) (a, L, r, ok) := by
  unfold spec_FixDiagram.f impl_FixDiagram.f
  rcases test (n := n) (root := root) hb with ⟨m, f, hI, hf, hS, hs, hi⟩ | ⟨hs, hi⟩
  · have hp := pow16 hI.four
    have hl : (tab f m).length ≤ 1048576 := by rw [tab_len]; omega
    by_cases c : TGood n (tab f m) ∧ 0 ≤ x ∧ x < n ∧ 0 ≤ v ∧ v ≤ 1
    · have ef : fixed n (tab f m) x v = (n - 1, kept (tab f m) x.toNat v 0 (tab f m).length, true) := by unfold fixed; rw [if_pos c]
      have hkl : (kept (tab f m) x.toNat v 0 (tab f m).length).length = 2 ^ (n - 1).toNat := by
        rw [kept_cnt, tab_len]
        have hn := hI.n
        rw [show (n - 1).toNat = m - 1 by omega]
        exact cnt_half hI.four (by omega) (by omega)
      have hm1 : (n - 1).toNat ≤ 4 := by have := hI.n; have := hI.four; omega
      have hmk : spec_ddMake.f (n - 1) (kept (tab f m) x.toNat v 0 (tab f m).length) = some (n - 1, (dbld (kept (tab f m) x.toNat v 0 (tab f m).length) (n - 1).toNat 0 0 []).1, (dbld (kept (tab f m) x.toNat v 0 (tab f m).length) (n - 1).toNat 0 0 []).2) := by
        unfold spec_ddMake.f
        rw [if_pos ⟨by omega, by omega, hkl⟩]
      refine ⟨n - 1, (dbld (kept (tab f m) x.toNat v 0 (tab f m).length) (n - 1).toNat 0 0 []).1, (dbld (kept (tab f m) x.toNat v 0 (tab f m).length) (n - 1).toNat 0 0 []).2, true, dlen _ hm1, Ev.bind hs (Ev.pos rfl (Ev.bind (ddTable hI hf) (Ev.bind (Ev.val (spec_fix n (tab f m) x v hl) ef) (Ev.pos rfl ?_)))), Ev.bind hi (Ev.pos rfl (Ev.bind (implTable hI hf) (Ev.bind (Ev.val (impl_fix n (tab f m) x v hl) ef) (Ev.pos rfl ?_))))⟩
      · simp only [hmk, Option.bind_some]; exact Ev.now _
      · simp only [impl_diagramOf.f, hmk, Option.bind_some]; exact Ev.now _
    · have ef : fixed n (tab f m) x v = (0, [], false) := by unfold fixed; rw [if_neg c]
      exact ⟨0, [], 0, false, by simp, Ev.bind hs (Ev.pos rfl (Ev.bind (ddTable hI hf) (Ev.bind (Ev.val (spec_fix n (tab f m) x v hl) ef) (Ev.neg (by simp) (Ev.now _))))), Ev.bind hi (Ev.pos rfl (Ev.bind (implTable hI hf) (Ev.bind (Ev.val (impl_fix n (tab f m) x v hl) ef) (Ev.neg (by simp) (Ev.now _)))))⟩
  · exact ⟨0, [], 0, false, by simp, Ev.bind hs (Ev.neg (by simp) (Ev.now _)), Ev.bind hi (Ev.neg (by simp) (Ev.now _))⟩
theorem law : ∀ (a0_0 : Int) (l0_1 : List NdL) (a0_2 : Int) (a1 : Int) (a2 : Int), l0_1.length ≤ 9223372036854775807 → (Lit.int .i64 a1).wf = true → (Lit.int .i64 a2).wf = true → ∃ k, laws_FnExactFixDiagram.f k a0_0 l0_1 a0_2 a1 a2 = some true := by
  intro n l root x v hl _ _
  apply Ev.rounds
  unfold laws_FnExactFixDiagram.f
  rw [szDiagram n root l 1048576 hl (by omega) (by omega)]
  simp only [Option.bind_some]
  refine Ev.split (fun _ => Ev.now _) (fun c0 => ?_)
  have hb : l.length ≤ 1048576 := by split at c0 <;> omega
  have hm : (l.map convN).length ≤ 1048576 := by simpa using hb
  obtain ⟨a, L, r, ok, hL, hs, hi⟩ := both n root (l.map convN) x v hm
  repeat' first
    | exact Ev.now true
    | dsimp only
    | with_reducible refine Ev.bind hs ?_
    | with_reducible refine Ev.bind hi ?_
    | with_reducible refine Ev.bind (toDiagram _ _ _ (by omega)) ?_
    | with_reducible refine Ev.bind (eqDiagram_self _ _ _ (by omega)) ?_
    | with_reducible refine Ev.bind (markDiagram _ _ _ _ (by omega) (by omega)) ?_
    | with_reducible refine Ev.bind (heldDiagram _ _ _ _ (by omega) (by omega)) ?_
    | refine Ev.pos rfl ?_
    | (refine Ev.neg ?_ ?_; focus (first | omega | (simp; done)))
    | (with_reducible refine Ev.succ (g := fun k => laws_FnExactFixDiagram.j0 k _ _ _ _ _ _ _ _ _ _ _ _ _ _ _ _ _) ?_; simp only [laws_FnExactFixDiagram.j0])
    | (with_reducible refine Ev.succ (g := fun k => laws_FnExactFixDiagram.j1 k _ _ _ _ _ _ _ _ _ _ _ _ _) ?_; simp only [laws_FnExactFixDiagram.j1])
    | (with_reducible refine Ev.succ (g := fun k => laws_FnExactFixDiagram.j2 k _ _ _ _ _) ?_; simp only [laws_FnExactFixDiagram.j2])
end Go.Proofs.Ytdkfgomjfigmbaa.PureFnExactFixDiagram
