/- The row of the law FnExactReplayLog: whatever the arguments, the call returns true and they stay. No condition. -/
import Derived.Test.YthnehlphifegaaaRows
import Derived.Test.YthnehlphifegaaaPx17
import Derived.Test.YthnehlphifegaaaZFnExactReplayLog
import Derived.Test.YthnehlphifegaaaOpen
import Derived.WalkKit
import Derived.ProofKit
import Derived.OpenShut
import Derived.ShutString
import Derived.ChangeOld
import Derived.Below
import Derived.SizedLaws
namespace Go.Proofs.Ythnehlphifegaaa.fnExactReplayLog
open Go.ChangeShapes Go.WideShapes Go.ChangeAt Go.RowKit P Opened YthnehlphifegaaaW.PrintWords
open Go.ChangeMaps (open_string shut_string)
set_option linter.unusedVariables false
theorem own : ownKnob Try.prog.godebug = none := by kernel_rfl
theorem laidOut : laidOutB Try.prog = true := by kernel_rfl
theorem op_k100 {H : Type} {enc : TypeId × Value → H} {W : World} : Opens enc Try.prog W 100 k100 (fun _ => True) :=
  op_mono (op_iso (fun x : S100 => (x.f0, x.f1)) (fun x => (⟨x.1, x.2⟩ : S100)) (fun _ => rfl) (op_pair Try.underlying100 (by refine ⟨?_, ?_, ?_⟩ <;> kernel_rfl) (op_int Try.underlying3) (op_int Try.underlying3))) (fun _ _ => trivial)
theorem op_k75 {H : Type} {enc : TypeId × Value → H} {W : World} : Opens enc Try.prog W 75 k75 (fun _ => True) :=
  op_mono (op_iso (fun x : S75 => (x.f0, x.f1, x.f2)) (fun x => (⟨x.1, x.2.1, x.2.2⟩ : S75)) (fun _ => rfl) (op_three Try.underlying75 (by refine ⟨?_, ?_, ?_, ?_⟩ <;> kernel_rfl) (op_int Try.underlying3) (op_int Try.underlying3) (op_int Try.underlying3))) (fun _ _ => trivial)
theorem op_k77 {H : Type} {enc : TypeId × Value → H} {W : World} : Opens enc Try.prog W 77 k77 (fun _ => True) :=
  op_mono (op_iso (fun x : S77 => (x.f0, x.f1)) (fun x => (⟨x.1, x.2⟩ : S77)) (fun _ => rfl) (op_pair Try.underlying77 (by refine ⟨?_, ?_, ?_⟩ <;> kernel_rfl) (op_int Try.underlying3) (op_k75))) (fun _ _ => trivial)
set_option maxRecDepth 100000 in
theorem lifted (os : Os) (started : os.Started) (H : Type) (enc : TypeId × Value → H) :
    ReturnsInHanded {} Try.checked os 6 .any (Rows.fnExactReplayLogSpec.pre6 enc Try.prog Try.f6 Rows.fnExactReplayLogRow.domain false) (Rows.fnExactReplayLogSpec.post enc Try.prog Try.f6 false true false false) := by
  refine returnsInHanded_of_change_sized (C := Try.checked) own started (by kernel_rfl) Try.func6
    (ChangeSpec.witness6 (enc := enc) (C := Try.checked) false ⟨#[], #[.agg #[.int .i64 0, .int .i64 0, .slice none 0 0, .int .i64 0, .int .i64 0, .int .i64 0, .int .i64 0, .int .i64 0], .slice none 0 0], []⟩ 8 (by kernel_rfl) (by kernel_rfl) (by kernel_rfl) (by kernel_rfl)) ?_
  intro W base args ds gs before hval0 hW hcnd hsz0 _
  have hval : ∀ (j : Nat) t v, Try.f6.params[j]? = some t → args[j]? = some v → Value.okWide Try.prog W .any base t v := hval0
  have hW' := hW
  obtain ⟨p, q, hA0, hV, rfl, hfz, hnd⟩ := hW
  have hA : DataW.TrodAll enc Try.prog W 0 (fun _ => true) true Try.f6.params.toList args.toList ds p := hA0
  rw [Try.params6] at hA hval
  obtain ⟨v0, vs0, d0, ds0, p0, q0, hargs, rfl, rfl, h0, r0⟩ := trodAll_cons hA
  obtain ⟨v1, vs1, d1, ds1, p1, q1, rfl, rfl, rfl, h1, r1⟩ := trodAll_cons r0
  obtain ⟨rfl, rfl, rfl⟩ := trodAll_nil r1
  obtain rfl : args = #[v0, v1] := by cases args; simp_all
  obtain ⟨rfl, rfl⟩ := trodVars_none hV
  have k0 := h0
  have lt0 : ∀ x ∈ p0, x.block < W.heap.size := by obtain ⟨m, hm⟩ := k0; exact DataW.trod_lt m _ _ _ hm
  obtain ⟨cs0, rfl, _⟩ := okWide_struct Try.underlying26 (hval 0 26 v0 rfl rfl)
  obtain ⟨fu0, hf0⟩ := h0
  obtain ⟨x0, K0, G0⟩ := (op_six Try.underlying26 (by refine ⟨?_, ?_, ?_, ?_, ?_, ?_, ?_⟩ <;> kernel_rfl) (op_three Try.underlying24 (by refine ⟨?_, ?_, ?_, ?_⟩ <;> kernel_rfl) (op_int Try.underlying3) (op_int Try.underlying3) (op_row Try.underlying22 (by kernel_rfl) (op_k100))) (op_int Try.underlying3) (op_int Try.underlying3) (op_int Try.underlying3) (op_int Try.underlying3) (op_int Try.underlying3)) fu0 _ _ hf0
  obtain ⟨⟨a0_0, a0_1, l0_2⟩, a0_3, a0_4, a0_5, a0_6, a0_7⟩ := x0
  obtain ⟨_, _, hcs0, ⟨_, _, rfl, rfl, ⟨_, _, rfl, rfl, ⟨A0_2, c0_2, rfl, hc0_2, hr0_2⟩⟩⟩, ⟨_, _, rfl, rfl, ⟨_, _, rfl, rfl, ⟨_, _, rfl, rfl, ⟨_, _, rfl, rfl, rfl⟩⟩⟩⟩⟩ := K0
  obtain ⟨⟨_, _, ⟨hx0_2, _⟩⟩, _, _, _, _, _⟩ := G0
  obtain rfl : cs0 = #[.int .i64 a0_0, .int .i64 a0_1, .slice A0_2 l0_2.length c0_2, .int .i64 a0_3, .int .i64 a0_4, .int .i64 a0_5, .int .i64 a0_6, .int .i64 a0_7] := Array.ext' hcs0
  have k1 := h1
  have lt1 : ∀ x ∈ p1, x.block < W.heap.size := by obtain ⟨m, hm⟩ := k1; exact DataW.trod_lt m _ _ _ hm
  obtain ⟨e1, le1, ce1, rfl⟩ := okWide_slice Try.underlying47 (hval 1 47 v1 rfl rfl)
  obtain ⟨fu1, hf1⟩ := h1
  obtain ⟨A1, l1, c1, hcs1, hc1, hx1, hr1, hg1⟩ := open_row Try.underlying47 (by kernel_rfl) (op_k77) hf1
  obtain ⟨E1_1, E2_1, E3_1⟩ : A1 = e1 ∧ l1.length = le1 ∧ c1 = ce1 := by simpa [Value.cells, eq_comm] using hcs1
  subst E1_1 E2_1 E3_1
  clear hA0 hval0 hsz0
  obtain ⟨k, h⟩ := PureFnExactReplayLog.law a0_0 a0_1 l0_2 a0_3 a0_4 a0_5 a0_6 a0_7 l1 hx0_2 hx1
  refine (laws_FnExactReplayLog.calls k a0_0 a0_1 A0_2 c0_2 l0_2 a0_3 a0_4 a0_5 a0_6 a0_7 A1 c1 l1 W hr0_2 hc0_2 hr1 hc1 h).mono fun e W' ⟨he, bel⟩ => ?_
  subst he
  exact ⟨_, rfl, _, _, _, [], _, [], hW', trodAll_mk1 (shut_bool Try.underlying4 _), (trodAll_cons_mk (Below.trod laidOut (by kernel_rfl) (of_decide_eq_true (by kernel_rfl)) k0 bel lt0) (trodAll_cons_mk (Below.trod laidOut (by kernel_rfl) (of_decide_eq_true (by kernel_rfl)) k1 bel lt1) trodAll_mk0)), rfl, bel.frame _, fun h => by cases h⟩
theorem over : Rows.fnExactReplayLogRow.holds Try.pinned (OpenSpec.ofChange Rows.fnExactReplayLogSpec) :=
  OpenClaim.holds_of_wide 6 Try.f6 rfl rfl rfl rfl rfl rfl rfl ⟨rfl, rfl, rfl, rfl, rfl⟩ rfl rfl rfl rfl rfl (by kernel_rfl) Try.func6 (by kernel_rfl)
    (of_decide_eq_true (by kernel_rfl)) (by unfold Func.isWrapper; first | (rw [if_pos (by decide +kernel)]; kernel_rfl) | (rw [if_neg (by decide +kernel)]; exact ⟨rfl, rfl⟩))
    (fun os started H enc _ => lifted os started H enc)
theorem proved : Rows.FnExactReplayLogSaid := over
#print axioms proved
end Go.Proofs.Ythnehlphifegaaa.fnExactReplayLog
namespace Go.Proofs.Ythnehlphifegaaa
/-- The row, under a short name, for the claim. -/
theorem fnExactReplayLog_holds : Rows.FnExactReplayLogSaid := fnExactReplayLog.proved
end Go.Proofs.Ythnehlphifegaaa
