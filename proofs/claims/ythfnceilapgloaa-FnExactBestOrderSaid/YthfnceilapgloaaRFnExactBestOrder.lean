/- The row of the law FnExactBestOrder: whatever the arguments, the call returns true and they stay. No condition. -/
import Derived.Test.YthfnceilapgloaaRows
import Derived.Test.YthfnceilapgloaaPx5
import Derived.Test.YthfnceilapgloaaZFnExactBestOrder
import Derived.Test.YthfnceilapgloaaOpen
import Derived.WalkKit
import Derived.ProofKit
import Derived.OpenShut
import Derived.ShutString
import Derived.ChangeOld
import Derived.Below
import Derived.SizedLaws
namespace Go.Proofs.Ythfnceilapgloaa.fnExactBestOrder
open Go.ChangeShapes Go.WideShapes Go.ChangeAt Go.RowKit P Opened YthfnceilapgloaaW.PrintWords
open Go.ChangeMaps (open_string shut_string)
set_option linter.unusedVariables false
theorem own : ownKnob Try.prog.godebug = none := by kernel_rfl
theorem laidOut : laidOutB Try.prog = true := by kernel_rfl
set_option maxRecDepth 100000 in
theorem lifted (os : Os) (started : os.Started) (H : Type) (enc : TypeId × Value → H) :
    ReturnsInHanded {} Try.checked os 3 .any (Rows.fnExactBestOrderSpec.pre6 enc Try.prog Try.f3 Rows.fnExactBestOrderRow.domain false) (Rows.fnExactBestOrderSpec.post enc Try.prog Try.f3 false true false false) := by
  refine returnsInHanded_of_change_sized (C := Try.checked) own started (by kernel_rfl) Try.func3
    (ChangeSpec.witness6 (enc := enc) (C := Try.checked) false ⟨#[], #[.agg #[.int .i64 0, .slice none 0 0]], []⟩ 8 (by kernel_rfl) (by kernel_rfl) (by kernel_rfl) (by kernel_rfl)) ?_
  intro W base args ds gs before hval0 hW hcnd hsz0 _
  have hval : ∀ (j : Nat) t v, Try.f3.params[j]? = some t → args[j]? = some v → Value.okWide Try.prog W .any base t v := hval0
  have hW' := hW
  obtain ⟨p, q, hA0, hV, rfl, hfz, hnd⟩ := hW
  have hA : DataW.TrodAll enc Try.prog W 0 (fun _ => true) true Try.f3.params.toList args.toList ds p := hA0
  rw [Try.params3] at hA hval
  obtain ⟨v0, vs0, d0, ds0, p0, q0, hargs, rfl, rfl, h0, r0⟩ := trodAll_cons hA
  obtain ⟨rfl, rfl, rfl⟩ := trodAll_nil r0
  obtain rfl : args = #[v0] := by cases args; simp_all
  obtain ⟨rfl, rfl⟩ := trodVars_none hV
  have k0 := h0
  have lt0 : ∀ x ∈ p0, x.block < W.heap.size := by obtain ⟨m, hm⟩ := k0; exact DataW.trod_lt m _ _ _ hm
  obtain ⟨cs0, rfl, _⟩ := okWide_struct Try.underlying24 (hval 0 24 v0 rfl rfl)
  obtain ⟨fu0, hf0⟩ := h0
  obtain ⟨x0, K0, G0⟩ := (op_pair Try.underlying24 (by refine ⟨?_, ?_, ?_⟩ <;> kernel_rfl) (op_int Try.underlying3) (op_row Try.underlying22 (by kernel_rfl) (op_int Try.underlying3))) fu0 _ _ hf0
  obtain ⟨a0_0, l0_1⟩ := x0
  obtain ⟨_, _, hcs0, rfl, ⟨A0_1, c0_1, rfl, hc0_1, hr0_1⟩⟩ := K0
  obtain ⟨_, ⟨hx0_1, _⟩⟩ := G0
  obtain rfl : cs0 = #[.int .i64 a0_0, .slice A0_1 l0_1.length c0_1] := Array.ext' hcs0
  clear hA0 hval0 hsz0
  obtain ⟨k, h⟩ := PureFnExactBestOrder.law a0_0 l0_1 hx0_1
  refine (laws_FnExactBestOrder.calls k a0_0 A0_1 c0_1 l0_1 W hr0_1 hc0_1 h).mono fun e W' ⟨he, bel⟩ => ?_
  subst he
  exact ⟨_, rfl, _, _, _, [], _, [], hW', trodAll_mk1 (shut_bool Try.underlying4 _), (trodAll_cons_mk (Below.trod laidOut (by kernel_rfl) (of_decide_eq_true (by kernel_rfl)) k0 bel lt0) trodAll_mk0), rfl, bel.frame _, fun h => by cases h⟩
theorem over : Rows.fnExactBestOrderRow.holds Try.pinned (OpenSpec.ofChange Rows.fnExactBestOrderSpec) :=
  OpenClaim.holds_of_wide 3 Try.f3 rfl rfl rfl rfl rfl rfl rfl ⟨rfl, rfl, rfl, rfl, rfl⟩ rfl rfl rfl rfl rfl (by kernel_rfl) Try.func3 (by kernel_rfl)
    (of_decide_eq_true (by kernel_rfl)) (by unfold Func.isWrapper; first | (rw [if_pos (by decide +kernel)]; kernel_rfl) | (rw [if_neg (by decide +kernel)]; exact ⟨rfl, rfl⟩))
    (fun os started H enc _ => lifted os started H enc)
theorem proved : Rows.FnExactBestOrderSaid := over
#print axioms proved
end Go.Proofs.Ythfnceilapgloaa.fnExactBestOrder
namespace Go.Proofs.Ythfnceilapgloaa
/-- The row, under a short name, for the claim. -/
theorem fnExactBestOrder_holds : Rows.FnExactBestOrderSaid := fnExactBestOrder.proved
end Go.Proofs.Ythfnceilapgloaa
