/- The row of the law FnExactPeriodOf: whatever the arguments, the call returns true and the arguments read as before. No condition. -/
import Derived.Test.YtlccgamaplaacaaRows
import Derived.Test.YtlccgamaplaacaaPx31
import Derived.Test.YtlccgamaplaacaaZFnExactPeriodOf
import Derived.Test.YtlccgamaplaacaaOpen
import Derived.WalkKit
import Derived.ProofKit
import Derived.OpenShut
import Derived.ShutString
import Derived.ChangeOld
import Derived.Below
import Derived.SizedLaws
namespace Go.Proofs.Ytlccgamaplaacaa.fnExactPeriodOf
open Go.ChangeShapes Go.WideShapes Go.ChangeAt Go.RowKit Go.Proofs.Ytlccgamaplaacaa.P Go.Proofs.Ytlccgamaplaacaa.Opened Go.Proofs.YtlccgamaplaacaaW.PrintWords
open Go.ChangeMaps (open_string shut_string)
set_option linter.unusedVariables false
theorem own : ownKnob Try.prog.godebug = none := by kernel_rfl
theorem laidOut : laidOutB Try.prog = true := by kernel_rfl
theorem op_k64 {H : Type} {enc : TypeId × Value → H} {W : World} : Opens enc Try.prog W 64 k64 (fun _ => True) :=
  op_mono (op_iso (fun x : S64 => (x.f0, x.f1, x.f2)) (fun x => (⟨x.1, x.2.1, x.2.2⟩ : S64)) (fun _ => rfl) (op_three Try.underlying64 (by refine ⟨?_, ?_, ?_, ?_⟩ <;> kernel_rfl) (op_int Try.underlying3) (op_int Try.underlying3) (op_int Try.underlying3))) (fun _ _ => trivial)
theorem op_k66 {H : Type} {enc : TypeId × Value → H} {W : World} : Opens enc Try.prog W 66 k66 (fun _ => True) :=
  op_mono (op_iso (fun x : S66 => (x.f0, x.f1)) (fun x => (⟨x.1, x.2⟩ : S66)) (fun _ => rfl) (op_pair Try.underlying66 (by refine ⟨?_, ?_, ?_⟩ <;> kernel_rfl) (op_int Try.underlying3) (op_k64))) (fun _ _ => trivial)
set_option maxRecDepth 100000 in
theorem lifted (os : Os) (started : os.Started) (H : Type) (enc : TypeId × Value → H) :
    ReturnsInHanded {} Try.checked os 12 .any (Rows.fnExactPeriodOfSpec.pre6 enc Try.prog Try.f12 Rows.fnExactPeriodOfRow.domain false) (Rows.fnExactPeriodOfSpec.post enc Try.prog Try.f12 false true false false) := by
  refine returnsInHanded_of_change_sized (C := Try.checked) own started (by kernel_rfl) Try.func12
    (ChangeSpec.witness6 (enc := enc) (C := Try.checked) false ⟨#[], #[.slice none 0 0], []⟩ 8 (by kernel_rfl) (by kernel_rfl) (by kernel_rfl) (by kernel_rfl)) ?_
  intro W base args ds gs before hval0 hW hcnd hsz0 _
  have hval : ∀ (j : Nat) t v, Try.f12.params[j]? = some t → args[j]? = some v → Value.okWide Try.prog W .any base t v := hval0
  have hW' := hW
  obtain ⟨p, q, hA0, hV, rfl, hfz, hnd⟩ := hW
  have hA : DataW.TrodAll enc Try.prog W 0 (fun _ => true) true Try.f12.params.toList args.toList ds p := hA0
  rw [Try.params12] at hA hval
  obtain ⟨v0, vs0, d0, ds0, p0, q0, hargs, rfl, rfl, h0, r0⟩ := trodAll_cons hA
  obtain ⟨rfl, rfl, rfl⟩ := trodAll_nil r0
  obtain rfl : args = #[v0] := by cases args; simp_all
  obtain ⟨rfl, rfl⟩ := trodVars_none hV
  have k0 := h0
  have lt0 : ∀ x ∈ p0, x.block < W.heap.size := by obtain ⟨m, hm⟩ := k0; exact DataW.trod_lt m _ _ _ hm
  obtain ⟨e0, le0, ce0, rfl⟩ := okWide_slice Try.underlying31 (hval 0 31 v0 rfl rfl)
  obtain ⟨fu0, hf0⟩ := h0
  obtain ⟨A0, l0, c0, hcs0, hc0, hx0, hr0, hg0⟩ := open_row Try.underlying31 (by kernel_rfl) (op_k66) hf0
  obtain ⟨E1_0, E2_0, E3_0⟩ : A0 = e0 ∧ l0.length = le0 ∧ c0 = ce0 := by simpa [Value.cells, eq_comm] using hcs0
  subst E1_0 E2_0 E3_0
  clear hA0 hval0 hsz0
  obtain ⟨k, h⟩ := PureFnExactPeriodOf.law l0 hx0
  refine (laws_FnExactPeriodOf.calls k A0 c0 l0 true W hr0 hc0 h).mono fun e W' ⟨he, bel⟩ => ?_
  subst he
  exact ⟨_, rfl, _, _, _, [], _, [], hW', trodAll_mk1 (shut_bool Try.underlying4 _), (trodAll_cons_mk (Below.trod laidOut (by kernel_rfl) (of_decide_eq_true (by kernel_rfl)) k0 bel lt0) trodAll_mk0), rfl, bel.frame _, fun h => by cases h⟩
theorem over : Rows.fnExactPeriodOfRow.holds Try.pinned (OpenSpec.ofChange Rows.fnExactPeriodOfSpec) :=
  OpenClaim.holds_of_wide 12 Try.f12 rfl rfl rfl rfl rfl rfl rfl ⟨rfl, rfl, rfl, rfl, rfl⟩ rfl rfl rfl rfl rfl (by kernel_rfl) Try.func12 (by kernel_rfl)
    (of_decide_eq_true (by kernel_rfl)) (by unfold Func.isWrapper; first | (rw [if_pos (by decide +kernel)]; kernel_rfl) | (rw [if_neg (by decide +kernel)]; exact ⟨rfl, rfl⟩))
    (fun os started H enc _ => lifted os started H enc)
theorem proved : Rows.FnExactPeriodOfSaid := over
#print axioms proved
end Go.Proofs.Ytlccgamaplaacaa.fnExactPeriodOf
namespace Go.Proofs.Ytlccgamaplaacaa
/-- The row, under a short name, for the claim. -/
theorem fnExactPeriodOf_holds : Rows.FnExactPeriodOfSaid := fnExactPeriodOf.proved
end Go.Proofs.Ytlccgamaplaacaa
