/- The row of the law FnExactUnitsOf: whatever the arguments, the call returns true and they stay. No condition. -/
import Derived.Test.YtlkmafoihjglcaaRows
import Derived.Test.YtlkmafoihjglcaaPx4
import Derived.Test.YtlkmafoihjglcaaZFnExactUnitsOf
import Derived.Test.YtlkmafoihjglcaaOpen
import Derived.WalkKit
import Derived.ProofKit
import Derived.OpenShut
import Derived.ShutString
import Derived.ChangeOld
import Derived.Below
import Derived.SizedLaws
namespace Go.Proofs.Ytlkmafoihjglcaa.fnExactUnitsOf
open Go.ChangeShapes Go.WideShapes Go.ChangeAt Go.RowKit P Opened YtlkmafoihjglcaaW.PrintWords
open Go.ChangeMaps (open_string shut_string)
set_option linter.unusedVariables false
theorem own : ownKnob Try.prog.godebug = none := by kernel_rfl
theorem laidOut : laidOutB Try.prog = true := by kernel_rfl
theorem op_k53 {H : Type} {enc : TypeId × Value → H} {W : World} : Opens enc Try.prog W 53 k53 (fun _ => True) :=
  op_mono (op_iso (fun x : S53 => (x.f0, x.f1)) (fun x => (⟨x.1, x.2⟩ : S53)) (fun _ => rfl) (op_pair Try.underlying53 (by refine ⟨?_, ?_, ?_⟩ <;> kernel_rfl) (op_int Try.underlying3) (op_int Try.underlying3))) (fun _ _ => trivial)
set_option maxRecDepth 100000 in
theorem lifted (os : Os) (started : os.Started) (H : Type) (enc : TypeId × Value → H) :
    ReturnsInHanded {} Try.checked os 3 .any (Rows.fnExactUnitsOfSpec.pre6 enc Try.prog Try.f3 Rows.fnExactUnitsOfRow.domain false) (Rows.fnExactUnitsOfSpec.post enc Try.prog Try.f3 false true false false) := by
  refine returnsInHanded_of_change_sized (C := Try.checked) own started (by kernel_rfl) Try.func3
    (ChangeSpec.witness6 (enc := enc) (C := Try.checked) false ⟨#[], #[.agg #[.int .i64 0, .int .i64 0, .slice none 0 0]], []⟩ 8 (by kernel_rfl) (by kernel_rfl) (by kernel_rfl) (by kernel_rfl)) ?_
  intro W base args ds gs before hval0 hW hcnd hsz0 _
  have hval : ∀ (j : Nat) t v, Try.f3.params[j]? = some t → args[j]? = some v → Value.okWide Try.prog W .any base t v := hval0
  have hW' := hW
  obtain ⟨p, q, hA0, hV, rfl, hfz, hnd⟩ := hW
  have hA : DataW.TrodAll enc Try.prog W 0 (fun _ => true) true Try.f3.params.toList args.toList ds p := hA0
  rw [Try.params3] at hA hval
  obtain ⟨v0, vs0, d0, ds0, p0, q0, hargs, rfl, rfl, h0, r0⟩ := trodAll_cons hA
  obtain ⟨rfl, rfl, rfl⟩ := trodAll_nil r0
  obtain rfl : args = #[v0] := by cases args; simp_all
  obtain ⟨rfl, rfl⟩ := trodVars_none hV
  have k0 := h0
  have lt0 : ∀ x ∈ p0, x.block < W.heap.size := by obtain ⟨m, hm⟩ := k0; exact DataW.trod_lt m _ _ _ hm
  obtain ⟨cs0, rfl, _⟩ := okWide_struct Try.underlying24 (hval 0 24 v0 rfl rfl)
  obtain ⟨fu0, hf0⟩ := h0
  obtain ⟨x0, K0, G0⟩ := (op_three Try.underlying24 (by refine ⟨?_, ?_, ?_, ?_⟩ <;> kernel_rfl) (op_int Try.underlying3) (op_int Try.underlying3) (op_row Try.underlying22 (by kernel_rfl) (op_k53))) fu0 _ _ hf0
  obtain ⟨a0_0, a0_1, l0_2⟩ := x0
  obtain ⟨_, _, hcs0, rfl, ⟨_, _, rfl, rfl, ⟨A0_2, c0_2, rfl, hc0_2, hr0_2⟩⟩⟩ := K0
  obtain ⟨_, _, ⟨hx0_2, _⟩⟩ := G0
  obtain rfl : cs0 = #[.int .i64 a0_0, .int .i64 a0_1, .slice A0_2 l0_2.length c0_2] := Array.ext' hcs0
  clear hA0 hval0 hsz0
  obtain ⟨k, h⟩ := PureFnExactUnitsOf.law a0_0 a0_1 l0_2 hx0_2
  refine (laws_FnExactUnitsOf.calls k a0_0 a0_1 A0_2 c0_2 l0_2 W hr0_2 hc0_2 h).mono fun e W' ⟨he, bel⟩ => ?_
  subst he
  exact ⟨_, rfl, _, _, _, [], _, [], hW', trodAll_mk1 (shut_bool Try.underlying4 _), (trodAll_cons_mk (Below.trod laidOut (by kernel_rfl) (of_decide_eq_true (by kernel_rfl)) k0 bel lt0) trodAll_mk0), rfl, bel.frame _, fun h => by cases h⟩
theorem over : Rows.fnExactUnitsOfRow.holds Try.pinned (OpenSpec.ofChange Rows.fnExactUnitsOfSpec) :=
  OpenClaim.holds_of_wide 3 Try.f3 rfl rfl rfl rfl rfl rfl rfl ⟨rfl, rfl, rfl, rfl, rfl⟩ rfl rfl rfl rfl rfl (by kernel_rfl) Try.func3 (by kernel_rfl)
    (of_decide_eq_true (by kernel_rfl)) (by unfold Func.isWrapper; first | (rw [if_pos (by decide +kernel)]; kernel_rfl) | (rw [if_neg (by decide +kernel)]; exact ⟨rfl, rfl⟩))
    (fun os started H enc _ => lifted os started H enc)
theorem proved : Rows.FnExactUnitsOfSaid := over
#print axioms proved
end Go.Proofs.Ytlkmafoihjglcaa.fnExactUnitsOf
namespace Go.Proofs.Ytlkmafoihjglcaa
/-- The row, under a short name, for the claim. -/
theorem fnExactUnitsOf_holds : Rows.FnExactUnitsOfSaid := fnExactUnitsOf.proved
end Go.Proofs.Ytlkmafoihjglcaa
