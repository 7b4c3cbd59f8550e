--MINI
/- The row of the law FnExactWayTo: whatever the arguments, the call returns true and they stay. No condition. -/
import Derived.Test.YtbpfdbjnnlmdjaaRows
import Derived.Test.YtbpfdbjnnlmdjaaPx11
import Derived.Test.YtbpfdbjnnlmdjaaZFnExactWayTo
import Derived.Test.YtbpfdbjnnlmdjaaOpen
import Derived.WalkKit
import Derived.ProofKit
import Derived.OpenShut
import Derived.ShutString
import Derived.ChangeOld
import Derived.Below
import Derived.SizedLaws
namespace Go.Proofs.Ytbpfdbjnnlmdjaa.fnExactWayTo
open Go.ChangeShapes Go.WideShapes Go.ChangeAt Go.RowKit P Opened YtbpfdbjnnlmdjaaW.PrintWords
open Go.ChangeMaps (open_string shut_string)
set_option linter.unusedVariables false
theorem own : ownKnob Try.prog.godebug = none := by kernel_rfl
theorem laidOut : laidOutB Try.prog = true := by kernel_rfl
theorem SH {H : Type} {enc : TypeId × Value → H} {W : World} : oV enc Try.prog W 85 Vi (fun _ => True) :=
  Vj (ZO (fun x : Ei => (x.f0, x.f1)) (fun x => (⟨x.1, x.2⟩ : Ei)) (fun _ => rfl) (Vk Try.underlying85 (by refine ⟨?_, ?_, ?_⟩ <;> kernel_rfl) (yB Try.underlying3) (yB Try.underlying3))) (fun _ _ => trivial)
set_option maxRecDepth 100000 in
theorem lifted (os : Os) (started : os.Started) (H : Type) (enc : TypeId × Value → H) :
    ReturnsInHanded {} Try.checked os 8 .any (Rows.fnExactWayToSpec.pre6 enc Try.prog Try.f8 Rows.fnExactWayToRow.domain false) (Rows.fnExactWayToSpec.post enc Try.prog Try.f8 false true false false) := by
  refine returnsInHanded_of_change_sized (C := Try.checked) own started (by kernel_rfl) Try.func8
    (ChangeSpec.witness6 (enc := enc) (C := Try.checked) false ⟨#[], #[.agg #[.int .i64 0, .int .i64 0, .slice none 0 0], .slice none 0 0, .int .i64 0], []⟩ 8 (by kernel_rfl) (by kernel_rfl) (by kernel_rfl) (by kernel_rfl)) ?_
  intro W base args ds gs before hval0 hW hcnd hsz0 _
  have hval : ∀ (j : Nat) t v, Try.f8.params[j]? = some t → args[j]? = some v → Value.okWide Try.prog W .any base t v := hval0
  have hW' := hW
  obtain ⟨p, q, hA0, hV, rfl, hfz, hnd⟩ := hW
  have hA : DataW.TrodAll enc Try.prog W 0 (fun _ => true) true Try.f8.params.toList args.toList ds p := hA0
  rw [Try.params8] at hA hval
  obtain ⟨v0, vs0, d0, ds0, p0, q0, hargs, rfl, rfl, h0, r0⟩ := trodAll_cons hA
  obtain ⟨v1, vs1, d1, ds1, p1, q1, rfl, rfl, rfl, h1, r1⟩ := trodAll_cons r0
  obtain ⟨v2, vs2, d2, ds2, p2, q2, rfl, rfl, rfl, h2, r2⟩ := trodAll_cons r1
  obtain ⟨rfl, rfl, rfl⟩ := trodAll_nil r2
  obtain rfl : args = #[v0, v1, v2] := by cases args; simp_all
  obtain ⟨rfl, rfl⟩ := trodVars_none hV
  have k0 := h0
  have lt0 : ∀ x ∈ p0, x.block < W.heap.size := by obtain ⟨m, hm⟩ := k0; exact DataW.trod_lt m _ _ _ hm
  obtain ⟨cs0, rfl, _⟩ := okWide_struct Try.underlying24 (hval 0 24 v0 rfl rfl)
  obtain ⟨fu0, hf0⟩ := h0
  obtain ⟨x0, K0, G0⟩ := (Ql Try.underlying24 (by refine ⟨?_, ?_, ?_, ?_⟩ <;> kernel_rfl) (yB Try.underlying3) (yB Try.underlying3) (ZP Try.underlying22 (by kernel_rfl) (SH))) fu0 _ _ hf0
  obtain ⟨ah, af, ae⟩ := x0
  obtain ⟨_, _, amg, rfl, ⟨_, _, rfl, rfl, ⟨aK, aJ, rfl, dG, dH⟩⟩⟩ := K0
  obtain ⟨_, _, ⟨ZQ, _⟩⟩ := G0
  obtain rfl : cs0 = #[.int .i64 ah, .int .i64 af, .slice aK ae.length aJ] := Array.ext' amg
  have k1 := h1
  have lt1 : ∀ x ∈ p1, x.block < W.heap.size := by obtain ⟨m, hm⟩ := k1; exact DataW.trod_lt m _ _ _ hm
  obtain ⟨e1, le1, ce1, rfl⟩ := okWide_slice Try.underlying38 (hval 1 38 v1 rfl rfl)
  obtain ⟨fu1, hf1⟩ := h1
  obtain ⟨A1, l1, c1, hcs1, hc1, hx1, hr1, hg1⟩ := open_row Try.underlying38 (by kernel_rfl) (yB Try.underlying3) hf1
  obtain ⟨amh, ami, amj⟩ : A1 = e1 ∧ l1.length = le1 ∧ c1 = ce1 := by simpa [Value.cells, eq_comm] using hcs1
  subst amh ami amj
  obtain ⟨a2, rfl, rfl, rfl, w2⟩ := open_int Try.underlying3 (hval 2 3 v2 rfl rfl) h2
  clear hA0 hval0 hsz0
  obtain ⟨k, h⟩ := PureFnExactWayTo.law ah af ae l1 a2 ZQ hx1 w2
  refine (A9.calls k ah af aK aJ ae A1 c1 l1 a2 W dH dG hr1 hc1 h).mono fun e W' ⟨he, bel⟩ => ?_
  subst he
  exact ⟨_, rfl, _, _, _, [], _, [], hW', trodAll_mk1 (shut_bool Try.underlying4 _), (trodAll_cons_mk (Below.trod laidOut (by kernel_rfl) (of_decide_eq_true (by kernel_rfl)) k0 bel lt0) (trodAll_cons_mk (Below.trod laidOut (by kernel_rfl) (of_decide_eq_true (by kernel_rfl)) k1 bel lt1) (trodAll_cons_mk (shut_int Try.underlying3 w2) trodAll_mk0))), rfl, bel.frame _, fun h => by cases h⟩
theorem over : Rows.fnExactWayToRow.holds Try.pinned (OpenSpec.ofChange Rows.fnExactWayToSpec) :=
  OpenClaim.holds_of_wide 8 Try.f8 rfl rfl rfl rfl rfl rfl rfl ⟨rfl, rfl, rfl, rfl, rfl⟩ rfl rfl rfl rfl rfl (by kernel_rfl) Try.func8 (by kernel_rfl)
    (of_decide_eq_true (by kernel_rfl)) (by unfold Func.isWrapper; first | (rw [if_pos (by decide +kernel)]; kernel_rfl) | (rw [if_neg (by decide +kernel)]; exact ⟨rfl, rfl⟩))
    (fun os started H enc _ => lifted os started H enc)
theorem proved : Rows.FnExactWayToSaid := over
#print axioms proved
end Go.Proofs.Ytbpfdbjnnlmdjaa.fnExactWayTo
namespace Go.Proofs.Ytbpfdbjnnlmdjaa
/-- The row, under a short name, for the claim. -/
theorem fnExactWayTo_holds : Rows.FnExactWayToSaid := fnExactWayTo.proved
end Go.Proofs.Ytbpfdbjnnlmdjaa
