/- The row of the law FnExactColoursChange: whatever the arguments, the call returns true and the arguments read as before. No condition. -/
import Derived.Test.YtegbbmnlfijbbaaRows
import Derived.Test.YtegbbmnlfijbbaaPx40
import Derived.Test.YtegbbmnlfijbbaaZFnExactColoursChange
import Derived.Test.YtegbbmnlfijbbaaOpen
import Derived.WalkKit
import Derived.ProofKit
import Derived.OpenShut
import Derived.ShutString
import Derived.ChangeOld
import Derived.Below
import Derived.SizedLaws
namespace Go.Proofs.Ytegbbmnlfijbbaa.fnExactColoursChange
open Go.ChangeShapes Go.WideShapes Go.ChangeAt Go.RowKit Go.Proofs.Ytegbbmnlfijbbaa.P Go.Proofs.Ytegbbmnlfijbbaa.Opened Go.Proofs.YtegbbmnlfijbbaaW.PrintWords
open Go.ChangeMaps (open_string shut_string)
set_option linter.unusedVariables false
theorem own : ownKnob Try.prog.godebug = none := by kernel_rfl
theorem laidOut : laidOutB Try.prog = true := by kernel_rfl
theorem op_k83 {H : Type} {enc : TypeId × Value → H} {W : World} : Opens enc Try.prog W 83 k83 (fun _ => True) :=
  op_mono (op_iso (fun x : S83 => (x.f0, x.f1, x.f2)) (fun x => (⟨x.1, x.2.1, x.2.2⟩ : S83)) (fun _ => rfl) (op_three Try.underlying83 (by refine ⟨?_, ?_, ?_, ?_⟩ <;> kernel_rfl) (op_int Try.underlying3) (op_int Try.underlying3) (op_int Try.underlying3))) (fun _ _ => trivial)
theorem op_k85 {H : Type} {enc : TypeId × Value → H} {W : World} : Opens enc Try.prog W 85 k85 (fun _ => True) :=
  op_mono (op_iso (fun x : S85 => (x.f0, x.f1)) (fun x => (⟨x.1, x.2⟩ : S85)) (fun _ => rfl) (op_pair Try.underlying85 (by refine ⟨?_, ?_, ?_⟩ <;> kernel_rfl) (op_int Try.underlying3) (op_k83))) (fun _ _ => trivial)
set_option maxRecDepth 100000 in
theorem lifted (os : Os) (started : os.Started) (H : Type) (enc : TypeId × Value → H) :
    ReturnsInHanded {} Try.checked os 7 .any (Rows.fnExactColoursChangeSpec.pre6 enc Try.prog Try.f7 Rows.fnExactColoursChangeRow.domain false) (Rows.fnExactColoursChangeSpec.post enc Try.prog Try.f7 false true false false) := by
  refine returnsInHanded_of_change_sized (C := Try.checked) own started (by kernel_rfl) Try.func7
    (ChangeSpec.witness6 (enc := enc) (C := Try.checked) false ⟨#[], #[.slice none 0 0], []⟩ 8 (by kernel_rfl) (by kernel_rfl) (by kernel_rfl) (by kernel_rfl)) ?_
  intro W base args ds gs before hval0 hW hcnd hsz0 _
  have hval : ∀ (j : Nat) t v, Try.f7.params[j]? = some t → args[j]? = some v → Value.okWide Try.prog W .any base t v := hval0
  have hW' := hW
  obtain ⟨p, q, hA0, hV, rfl, hfz, hnd⟩ := hW
  have hA : DataW.TrodAll enc Try.prog W 0 (fun _ => true) true Try.f7.params.toList args.toList ds p := hA0
  rw [Try.params7] at hA hval
  obtain ⟨v0, vs0, d0, ds0, p0, q0, hargs, rfl, rfl, h0, r0⟩ := trodAll_cons hA
  obtain ⟨rfl, rfl, rfl⟩ := trodAll_nil r0
  obtain rfl : args = #[v0] := by cases args; simp_all
  obtain ⟨rfl, rfl⟩ := trodVars_none hV
  have k0 := h0
  have lt0 : ∀ x ∈ p0, x.block < W.heap.size := by obtain ⟨m, hm⟩ := k0; exact DataW.trod_lt m _ _ _ hm
  obtain ⟨e0, le0, ce0, rfl⟩ := okWide_slice Try.underlying30 (hval 0 30 v0 rfl rfl)
  obtain ⟨fu0, hf0⟩ := h0
  obtain ⟨A0, l0, c0, hcs0, hc0, hx0, hr0, hg0⟩ := open_row Try.underlying30 (by kernel_rfl) (op_k85) hf0
  obtain ⟨E1_0, E2_0, E3_0⟩ : A0 = e0 ∧ l0.length = le0 ∧ c0 = ce0 := by simpa [Value.cells, eq_comm] using hcs0
  subst E1_0 E2_0 E3_0
  clear hA0 hval0 hsz0
  obtain ⟨k, h⟩ := PureFnExactColoursChange.law l0 hx0
  refine (laws_FnExactColoursChange.calls k A0 c0 l0 W hr0 hc0 h).mono fun e W' ⟨he, bel⟩ => ?_
  subst he
  exact ⟨_, rfl, _, _, _, [], _, [], hW', trodAll_mk1 (shut_bool Try.underlying4 _), (trodAll_cons_mk (Below.trod laidOut (by kernel_rfl) (of_decide_eq_true (by kernel_rfl)) k0 bel lt0) trodAll_mk0), rfl, bel.frame _, fun h => by cases h⟩
theorem over : Rows.fnExactColoursChangeRow.holds Try.pinned (OpenSpec.ofChange Rows.fnExactColoursChangeSpec) :=
  OpenClaim.holds_of_wide 7 Try.f7 rfl rfl rfl rfl rfl rfl rfl ⟨rfl, rfl, rfl, rfl, rfl⟩ rfl rfl rfl rfl rfl (by kernel_rfl) Try.func7 (by kernel_rfl)
    (of_decide_eq_true (by kernel_rfl)) (by unfold Func.isWrapper; first | (rw [if_pos (by decide +kernel)]; kernel_rfl) | (rw [if_neg (by decide +kernel)]; exact ⟨rfl, rfl⟩))
    (fun os started H enc _ => lifted os started H enc)
theorem proved : Rows.FnExactColoursChangeSaid := over
#print axioms proved
end Go.Proofs.Ytegbbmnlfijbbaa.fnExactColoursChange
namespace Go.Proofs.Ytegbbmnlfijbbaa
/-- The row, under a short name, for the claim. -/
theorem fnExactColoursChange_holds : Rows.FnExactColoursChangeSaid := fnExactColoursChange.proved
end Go.Proofs.Ytegbbmnlfijbbaa
