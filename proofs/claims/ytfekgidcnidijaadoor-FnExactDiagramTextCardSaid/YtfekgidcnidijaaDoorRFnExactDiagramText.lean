/- The tied card of the law FnExactDiagramText: whatever the arguments, the call returns true and they stay; the listed variables are tied to the program's text. No condition else. -/
import Derived.Test.YtfekgidcnidijaaDoorRows
import Derived.Test.YtfekgidcnidijaaDoorCards
import Derived.Test.YtfekgidcnidijaaDoorTie
import Derived.Test.YtfekgidcnidijaaDoorPx5
import Derived.Test.YtfekgidcnidijaaDoorZFnExactDiagramText
import Derived.Test.YtfekgidcnidijaaDoorOpen
import Derived.WalkKit
import Derived.ProofKit
import Derived.OpenShut
import Derived.ShutString
import Derived.ChangeOld
import Derived.Below
import Derived.SizedLaws
import Derived.LaidMore
import Derived.SevenTiedAt
namespace Go.Proofs.YtfekgidcnidijaaDoor.fnExactDiagramText
open Go.ChangeShapes Go.WideShapes Go.ChangeAt Go.RowKit P Opened YtfekgidcnidijaaDoorW.PrintWords
open Go.ChangeMaps (open_string shut_string)
set_option linter.unusedVariables false
theorem own : ownKnob Tryd.prog.godebug = none := by kernel_rfl
theorem laidOut : laidOutB Tryd.prog = true := by kernel_rfl
theorem op_k105 {H : Type} {enc : TypeId × Value → H} {W : World} : Opens enc Tryd.prog W 105 k105 (fun _ => True) :=
  op_mono (op_iso (fun x : S105 => (x.f0, x.f1, x.f2)) (fun x => (⟨x.1, x.2.1, x.2.2⟩ : S105)) (fun _ => rfl) (op_three Tryd.underlying105 (by refine ⟨?_, ?_, ?_, ?_⟩ <;> kernel_rfl) (op_int Tryd.underlying3) (op_int Tryd.underlying3) (op_int Tryd.underlying3))) (fun _ _ => trivial)
/-- The door's own heap meets the condition. -/
theorem door_met (os : Os) (args : Array Value) : laidMetH Tryd.prog Rows.fnExactDiagramTextRow.laid ((World.doorLaid Tryd.prog 44 os).forCall (fun _ _ => 0) ⟨#[], args, []⟩).memory :=
  laidMetH_of_parts3 (fuel := 8) (laidMet_of_run' 8 (by kernel_rfl) (by kernel_rfl)) (by kernel_rfl) (by kernel_rfl)
set_option maxRecDepth 100000 in
theorem lifted (os : Os) (started : os.Started) (H : Type) (enc : TypeId × Value → H) :
    ReturnsInHanded {} Tryd.checked os 6 .any (fun w args => (Rows.fnExactDiagramTextSpec.pre enc Tryd.prog Tryd.f6 [] false w args ∧ laidMetH Tryd.prog Rows.fnExactDiagramTextRow.laid w) ∧ sizedMet enc Tryd.prog Tryd.f6 (OpenSpec.ofChange Rows.fnExactDiagramTextSpec) false w args)
      (Rows.fnExactDiagramTextSpec.post enc Tryd.prog Tryd.f6 false true false false) := by
  refine returnsInHanded_of_change_and (C := Tryd.checked) (X := fun w _ => laidMetH Tryd.prog Rows.fnExactDiagramTextRow.laid w) (fun _ _ _ hh h => h.of_heap hh) own started (by kernel_rfl) Tryd.func6
    (ChangeSpec.witness_shaped (enc := enc) (C := Tryd.checked) (os := os) (X := fun w _ => laidMetH Tryd.prog Rows.fnExactDiagramTextRow.laid w) false (World.doorLaid Tryd.prog 44 os) #[.agg #[.int .i64 0, .slice none 0 0, .int .i64 0]] 8 rfl (World.shaped_of_RefB (by kernel_rfl) (by kernel_rfl)) (by kernel_rfl) (by kernel_rfl) (by kernel_rfl) (door_met os _)) ?_
  intro W base args ds gs before hval0 hW hcnd hsz0 hL _
  have hval : ∀ (j : Nat) t v, Tryd.f6.params[j]? = some t → args[j]? = some v → Value.okWide Tryd.prog W .any base t v := hval0
  have hW' := hW
  obtain ⟨p, q, hA0, hV, rfl, hfz, hnd⟩ := hW
  have hA : DataW.TrodAll enc Tryd.prog W 0 (fun _ => true) true Tryd.f6.params.toList args.toList ds p := hA0
  rw [Tryd.params6] at hA hval
  obtain ⟨v0, vs0, d0, ds0, p0, q0, hargs, rfl, rfl, h0, r0⟩ := trodAll_cons hA
  obtain ⟨rfl, rfl, rfl⟩ := trodAll_nil r0
  obtain rfl : args = #[v0] := by cases args; simp_all
  obtain ⟨rfl, rfl⟩ := trodVars_none hV
  have k0 := h0
  have lt0 : ∀ x ∈ p0, x.block < W.heap.size := by obtain ⟨m, hm⟩ := k0; exact DataW.trod_lt m _ _ _ hm
  obtain ⟨cs0, rfl, _⟩ := okWide_struct Tryd.underlying45 (hval 0 45 v0 rfl rfl)
  obtain ⟨fu0, hf0⟩ := h0
  obtain ⟨x0, K0, G0⟩ := (op_three Tryd.underlying45 (by refine ⟨?_, ?_, ?_, ?_⟩ <;> kernel_rfl) (op_int Tryd.underlying3) (op_row Tryd.underlying43 (by kernel_rfl) (op_k105)) (op_int Tryd.underlying3)) fu0 _ _ hf0
  obtain ⟨a0_0, l0_1, a0_2⟩ := x0
  obtain ⟨_, _, hcs0, rfl, ⟨_, _, rfl, ⟨A0_1, c0_1, rfl, hc0_1, hr0_1⟩, rfl⟩⟩ := K0
  obtain ⟨_, ⟨hx0_1, _⟩, _⟩ := G0
  obtain rfl : cs0 = #[.int .i64 a0_0, .slice A0_1 l0_1.length c0_1, .int .i64 a0_2] := Array.ext' hcs0
  clear hA0 hval0 hsz0
  obtain ⟨k, h⟩ := PureFnExactDiagramText.law a0_0 l0_1 a0_2 hx0_1
  refine (laws_FnExactDiagramText.calls k a0_0 A0_1 c0_1 l0_1 a0_2 W hr0_1 hc0_1 h).mono fun e W' ⟨he, bel⟩ => ?_
  subst he
  exact ⟨_, rfl, _, _, _, [], _, [], hW', trodAll_mk1 (shut_bool Tryd.underlying4 _), (trodAll_cons_mk (Below.trod laidOut (by kernel_rfl) (of_decide_eq_true (by kernel_rfl)) k0 bel lt0) trodAll_mk0), rfl, bel.frame _, fun h => by cases h⟩
theorem over : Rows.fnExactDiagramTextRow.holds Tryd.pinned (OpenSpec.ofChange Rows.fnExactDiagramTextSpec) :=
  OpenClaim.holds_of_wide 6 Tryd.f6 rfl rfl rfl rfl rfl rfl rfl ⟨rfl, rfl, rfl, rfl, rfl⟩ rfl rfl rfl rfl rfl (by kernel_rfl) Tryd.func6 (by kernel_rfl)
    (of_decide_eq_true (by kernel_rfl)) (by unfold Func.isWrapper; first | (rw [if_pos (by decide +kernel)]; kernel_rfl) | (rw [if_neg (by decide +kernel)]; exact ⟨rfl, rfl⟩))
    (fun os started H enc _ => lifted os started H enc)
theorem proved : Rows.FnExactDiagramTextCardSaid :=
  Claim7.holds_tied_plain_at .later [] [.data, .data, .data] true (true, "dd4c007b86688c8ad30e10fd4c7c87dc4b82c7d99f932af72c12ec91835b50c1") false
    over (fun _ h => by cases h) (by kernel_rfl) (fun _ h => by cases h) fnExactDiagramText_row_tie rfl ⟨rfl, rfl⟩ (by kernel_rfl) rfl
    (fun f fn hf hfn => by
      obtain rfl : f = 6 := Option.some.inj ((show Tryd.prog.funcNamed "loop.example/g00942/laws.FnExactDiagramText" = some 6 by kernel_rfl).symm.trans hf) |>.symm
      obtain rfl : fn = Tryd.f6 := (Option.some.inj (Tryd.func6.symm.trans hfn)).symm
      exact ⟨by kernel_rfl, fun j t ht => by
        rw [Tryd.params6] at ht
        have hm : t ∈ [45] := by simpa using Array.mem_of_getElem? ht
        have hall : ([45].all fun u => !Tryd.prog.wantsStandIn u) = true := by kernel_rfl
        exact (show Tryd.prog.wantsStandIn t = false by simpa using List.all_eq_true.1 hall t hm)⟩)
    (by kernel_rfl)
#print axioms proved
end Go.Proofs.YtfekgidcnidijaaDoor.fnExactDiagramText
namespace Go.Proofs.YtfekgidcnidijaaDoor
/-- The row, under a short name, for the claim. -/
theorem fnExactDiagramText_holds : Rows.FnExactDiagramTextCardSaid := fnExactDiagramText.proved
end Go.Proofs.YtfekgidcnidijaaDoor
