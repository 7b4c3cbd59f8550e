/- The tied card of the law FnExactLogText: whatever the arguments, the call returns true and they stay; the listed variables are tied to the program's text. No condition else. -/
import Derived.Test.YtfekgidcnidijaaDoorRows
import Derived.Test.YtfekgidcnidijaaDoorCards
import Derived.Test.YtfekgidcnidijaaDoorTie
import Derived.Test.YtfekgidcnidijaaDoorPx2
import Derived.Test.YtfekgidcnidijaaDoorZFnExactLogText
import Derived.Test.YtfekgidcnidijaaDoorOpen
import Derived.WalkKit
import Derived.ProofKit
import Derived.OpenShut
import Derived.ShutString
import Derived.ChangeOld
import Derived.Below
import Derived.SizedLaws
import Derived.LaidMore
import Derived.Test.YtfekgidcnidijaaDoorVars
import Derived.SevenTiedAt
namespace Go.Proofs.YtfekgidcnidijaaDoor.fnExactLogText
open Go.ChangeShapes Go.WideShapes Go.ChangeAt Go.RowKit P Opened YtfekgidcnidijaaDoorW.PrintWords
open Go.ChangeMaps (open_string shut_string)
set_option linter.unusedVariables false
theorem own : ownKnob Tryd.prog.godebug = none := by kernel_rfl
theorem laidOut : laidOutB Tryd.prog = true := by kernel_rfl
theorem op_k68 {H : Type} {enc : TypeId × Value → H} {W : World} : Opens enc Tryd.prog W 68 k68 (fun _ => True) :=
  op_mono (op_iso (fun x : S68 => (x.f0, x.f1, x.f2)) (fun x => (⟨x.1, x.2.1, x.2.2⟩ : S68)) (fun _ => rfl) (op_three Tryd.underlying68 (by refine ⟨?_, ?_, ?_, ?_⟩ <;> kernel_rfl) (op_int Tryd.underlying3) (op_int Tryd.underlying3) (op_int Tryd.underlying3))) (fun _ _ => trivial)
theorem op_k70 {H : Type} {enc : TypeId × Value → H} {W : World} : Opens enc Tryd.prog W 70 k70 (fun _ => True) :=
  op_mono (op_iso (fun x : S70 => (x.f0, x.f1)) (fun x => (⟨x.1, x.2⟩ : S70)) (fun _ => rfl) (op_pair Tryd.underlying70 (by refine ⟨?_, ?_, ?_⟩ <;> kernel_rfl) (op_int Tryd.underlying3) (op_k68))) (fun _ _ => trivial)
/-- The door's own heap meets the condition. -/
theorem door_met (os : Os) (args : Array Value) : laidMetH Tryd.prog Rows.fnExactLogTextRow.laid ((World.doorLaid Tryd.prog 44 os).forCall (fun _ _ => 0) ⟨#[], args, []⟩).memory :=
  laidMetH_of_parts3 (fuel := 8) (laidMet_of_run' 8 (by kernel_rfl) (by kernel_rfl)) (by kernel_rfl) (by kernel_rfl)
set_option maxRecDepth 100000 in
theorem lifted (os : Os) (started : os.Started) (H : Type) (enc : TypeId × Value → H) :
    ReturnsInHanded {} Tryd.checked os 4 .any (fun w args => (Rows.fnExactLogTextSpec.pre enc Tryd.prog Tryd.f4 [] false w args ∧ laidMetH Tryd.prog Rows.fnExactLogTextRow.laid w) ∧ sizedMet enc Tryd.prog Tryd.f4 (OpenSpec.ofChange Rows.fnExactLogTextSpec) false w args)
      (Rows.fnExactLogTextSpec.post enc Tryd.prog Tryd.f4 false true false false) := by
  refine returnsInHanded_of_change_and (C := Tryd.checked) (X := fun w _ => laidMetH Tryd.prog Rows.fnExactLogTextRow.laid w) (fun _ _ _ hh h => h.of_heap hh) own started (by kernel_rfl) Tryd.func4
    (ChangeSpec.witness_shaped (enc := enc) (C := Tryd.checked) (os := os) (X := fun w _ => laidMetH Tryd.prog Rows.fnExactLogTextRow.laid w) false (World.doorLaid Tryd.prog 44 os) #[.slice none 0 0] 8 rfl (World.shaped_of_RefB (by kernel_rfl) (by kernel_rfl)) (by kernel_rfl) (by kernel_rfl) (by kernel_rfl) (door_met os _)) ?_
  intro W base args ds gs before hval0 hW hcnd hsz0 hL _
  have hval : ∀ (j : Nat) t v, Tryd.f4.params[j]? = some t → args[j]? = some v → Value.okWide Tryd.prog W .any base t v := hval0
  have hW' := hW
  obtain ⟨p, q, hA0, hV, rfl, hfz, hnd⟩ := hW
  have hA : DataW.TrodAll enc Tryd.prog W 0 (fun _ => true) true Tryd.f4.params.toList args.toList ds p := hA0
  rw [Tryd.params4] at hA hval
  obtain ⟨v0, vs0, d0, ds0, p0, q0, hargs, rfl, rfl, h0, r0⟩ := trodAll_cons hA
  obtain ⟨rfl, rfl, rfl⟩ := trodAll_nil r0
  obtain rfl : args = #[v0] := by cases args; simp_all
  have hV1 : DataW.TrodVars enc Tryd.prog W (fun _ => true) ["loop.example/g00942/impl.colourNames", "loop.example/g00942/impl.endNames"] gs q := hV
  obtain ⟨hv0, hv1⟩ := Vars.of_laid (by kernel_rfl) hL (List.mem_of_getElem? (i := 3) rfl) (List.mem_of_getElem? (i := 4) rfl)
  have hG := Vars.globs hv0 hv1
  obtain ⟨rfl, rfl⟩ := hV1.unique (Vars.read_again enc hv0 hv1 _)
  have k0 := h0
  have lt0 : ∀ x ∈ p0, x.block < W.heap.size := by obtain ⟨m, hm⟩ := k0; exact DataW.trod_lt m _ _ _ hm
  obtain ⟨e0, le0, ce0, rfl⟩ := okWide_slice Tryd.underlying32 (hval 0 32 v0 rfl rfl)
  obtain ⟨fu0, hf0⟩ := h0
  obtain ⟨A0, l0, c0, hcs0, hc0, hx0, hr0, hg0⟩ := Opened.open_row Tryd.underlying32 (by kernel_rfl) (op_k70) hf0
  obtain ⟨E1_0, E2_0, E3_0⟩ : A0 = e0 ∧ l0.length = le0 ∧ c0 = ce0 := by simpa [Value.cells, eq_comm] using hcs0
  subst E1_0 E2_0 E3_0
  clear hA0 hval0 hsz0
  obtain ⟨k, h⟩ := PureFnExactLogText.law l0 hx0
  refine (laws_FnExactLogText.calls k A0 c0 l0 W hr0 hc0 hG h).mono fun e W' ⟨he, bel⟩ => ?_
  subst he
  exact ⟨_, rfl, _, _, _, [], _, _, hW', trodAll_mk1 (shut_bool Tryd.underlying4 _), (trodAll_cons_mk (Below.trod laidOut (by kernel_rfl) (of_decide_eq_true (by kernel_rfl)) k0 bel lt0) trodAll_mk0), Vars.read_again enc (Vars.var_below bel Vars.gC (Vars.var_lt Vars.gC hv0) hv0) (Vars.var_below bel Vars.gE (Vars.var_lt Vars.gE hv1) hv1) _, bel.frame _, fun h => by cases h⟩
theorem over : Rows.fnExactLogTextRow.holds Tryd.pinned (OpenSpec.ofChange Rows.fnExactLogTextSpec) :=
  OpenClaim.holds_of_wide 4 Tryd.f4 rfl rfl rfl rfl rfl rfl rfl ⟨rfl, rfl, rfl, rfl, rfl⟩ rfl rfl rfl rfl rfl (by kernel_rfl) Tryd.func4 (by kernel_rfl)
    (of_decide_eq_true (by kernel_rfl)) (by unfold Func.isWrapper; first | (rw [if_pos (by decide +kernel)]; kernel_rfl) | (rw [if_neg (by decide +kernel)]; exact ⟨rfl, rfl⟩))
    (fun os started H enc _ => lifted os started H enc)
theorem proved : Rows.FnExactLogTextCardSaid :=
  Claim7.holds_tied_plain_at .later [] [.data, .data, .data, .data, .data] true (true, "dd4c007b86688c8ad30e10fd4c7c87dc4b82c7d99f932af72c12ec91835b50c1") false
    over (fun _ h => by cases h) (by kernel_rfl) (fun _ h => by cases h) fnExactLogText_row_tie rfl ⟨rfl, rfl⟩ (by kernel_rfl) rfl
    (fun f fn hf hfn => by
      obtain rfl : f = 4 := Option.some.inj ((show Tryd.prog.funcNamed "loop.example/g00942/laws.FnExactLogText" = some 4 by kernel_rfl).symm.trans hf) |>.symm
      obtain rfl : fn = Tryd.f4 := (Option.some.inj (Tryd.func4.symm.trans hfn)).symm
      exact ⟨by kernel_rfl, fun j t ht => by
        rw [Tryd.params4] at ht
        have hm : t ∈ [32] := by simpa using Array.mem_of_getElem? ht
        have hall : ([32].all fun u => !Tryd.prog.wantsStandIn u) = true := by kernel_rfl
        exact (show Tryd.prog.wantsStandIn t = false by simpa using List.all_eq_true.1 hall t hm)⟩)
    (by kernel_rfl)
#print axioms proved
end Go.Proofs.YtfekgidcnidijaaDoor.fnExactLogText
namespace Go.Proofs.YtfekgidcnidijaaDoor
/-- The row, under a short name, for the claim. -/
theorem fnExactLogText_holds : Rows.FnExactLogTextCardSaid := fnExactLogText.proved
end Go.Proofs.YtfekgidcnidijaaDoor
