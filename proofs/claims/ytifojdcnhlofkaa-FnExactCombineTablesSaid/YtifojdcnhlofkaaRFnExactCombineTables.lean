/- The row of the law FnExactCombineTables: whatever the arguments, the call returns true and they stay. No condition. -/
import Derived.Test.YtifojdcnhlofkaaRows
import Derived.Test.YtifojdcnhlofkaaPx3
import Derived.Test.YtifojdcnhlofkaaZFnExactCombineTables
import Derived.Test.YtifojdcnhlofkaaOpen
import Derived.WalkKit
import Derived.ProofKit
import Derived.OpenShut
import Derived.ShutString
import Derived.ChangeOld
import Derived.Below
import Derived.SizedLaws
namespace Go.Proofs.Ytifojdcnhlofkaa.fnExactCombineTables
open Go.ChangeShapes Go.WideShapes Go.ChangeAt Go.RowKit P Opened YtifojdcnhlofkaaW.PrintWords
open Go.ChangeMaps (open_string shut_string)
set_option linter.unusedVariables false
theorem own : ownKnob Try.prog.godebug = none := by kernel_rfl
theorem laidOut : laidOutB Try.prog = true := by kernel_rfl
set_option maxRecDepth 100000 in
theorem lifted (os : Os) (started : os.Started) (H : Type) (enc : TypeId × Value → H) :
    ReturnsInHanded {} Try.checked os 3 .any (Rows.fnExactCombineTablesSpec.pre6 enc Try.prog Try.f3 Rows.fnExactCombineTablesRow.domain false) (Rows.fnExactCombineTablesSpec.post enc Try.prog Try.f3 false true false false) := by
  refine returnsInHanded_of_change_sized (C := Try.checked) own started (by kernel_rfl) Try.func3
    (ChangeSpec.witness6 (enc := enc) (C := Try.checked) false ⟨#[], #[.int .i64 0, .agg #[.int .i64 0, .slice none 0 0], .agg #[.int .i64 0, .slice none 0 0]], []⟩ 8 (by kernel_rfl) (by kernel_rfl) (by kernel_rfl) (by kernel_rfl)) ?_
  intro W base args ds gs before hval0 hW hcnd hsz0 _
  have hval : ∀ (j : Nat) t v, Try.f3.params[j]? = some t → args[j]? = some v → Value.okWide Try.prog W .any base t v := hval0
  have hW' := hW
  obtain ⟨p, q, hA0, hV, rfl, hfz, hnd⟩ := hW
  have hA : DataW.TrodAll enc Try.prog W 0 (fun _ => true) true Try.f3.params.toList args.toList ds p := hA0
  rw [Try.params3] at hA hval
  obtain ⟨v0, vs0, d0, ds0, p0, q0, hargs, rfl, rfl, h0, r0⟩ := trodAll_cons hA
  obtain ⟨v1, vs1, d1, ds1, p1, q1, rfl, rfl, rfl, h1, r1⟩ := trodAll_cons r0
  obtain ⟨v2, vs2, d2, ds2, p2, q2, rfl, rfl, rfl, h2, r2⟩ := trodAll_cons r1
  obtain ⟨rfl, rfl, rfl⟩ := trodAll_nil r2
  obtain rfl : args = #[v0, v1, v2] := by cases args; simp_all
  obtain ⟨rfl, rfl⟩ := trodVars_none hV
  obtain ⟨a0, rfl, rfl, rfl, w0⟩ := open_int Try.underlying3 (hval 0 3 v0 rfl rfl) h0
  have k1 := h1
  have lt1 : ∀ x ∈ p1, x.block < W.heap.size := by obtain ⟨m, hm⟩ := k1; exact DataW.trod_lt m _ _ _ hm
  obtain ⟨cs1, rfl, _⟩ := okWide_struct Try.underlying24 (hval 1 24 v1 rfl rfl)
  obtain ⟨fu1, hf1⟩ := h1
  obtain ⟨x1, K1, G1⟩ := (op_pair Try.underlying24 (by refine ⟨?_, ?_, ?_⟩ <;> kernel_rfl) (op_int Try.underlying3) (op_row Try.underlying22 (by kernel_rfl) (op_int Try.underlying3))) fu1 _ _ hf1
  obtain ⟨a1_0, l1_1⟩ := x1
  obtain ⟨_, _, hcs1, rfl, ⟨A1_1, c1_1, rfl, hc1_1, hr1_1⟩⟩ := K1
  obtain ⟨_, ⟨hx1_1, _⟩⟩ := G1
  obtain rfl : cs1 = #[.int .i64 a1_0, .slice A1_1 l1_1.length c1_1] := Array.ext' hcs1
  have k2 := h2
  have lt2 : ∀ x ∈ p2, x.block < W.heap.size := by obtain ⟨m, hm⟩ := k2; exact DataW.trod_lt m _ _ _ hm
  obtain ⟨cs2, rfl, _⟩ := okWide_struct Try.underlying24 (hval 2 24 v2 rfl rfl)
  obtain ⟨fu2, hf2⟩ := h2
  obtain ⟨x2, K2, G2⟩ := (op_pair Try.underlying24 (by refine ⟨?_, ?_, ?_⟩ <;> kernel_rfl) (op_int Try.underlying3) (op_row Try.underlying22 (by kernel_rfl) (op_int Try.underlying3))) fu2 _ _ hf2
  obtain ⟨a2_0, l2_1⟩ := x2
  obtain ⟨_, _, hcs2, rfl, ⟨A2_1, c2_1, rfl, hc2_1, hr2_1⟩⟩ := K2
  obtain ⟨_, ⟨hx2_1, _⟩⟩ := G2
  obtain rfl : cs2 = #[.int .i64 a2_0, .slice A2_1 l2_1.length c2_1] := Array.ext' hcs2
  clear hA0 hval0 hsz0
  obtain ⟨k, h⟩ := PureFnExactCombineTables.law a0 a1_0 l1_1 a2_0 l2_1 w0 hx1_1 hx2_1
  refine (laws_FnExactCombineTables.calls k a0 a1_0 A1_1 c1_1 l1_1 a2_0 A2_1 c2_1 l2_1 W hr1_1 hc1_1 hr2_1 hc2_1 h).mono fun e W' ⟨he, bel⟩ => ?_
  subst he
  exact ⟨_, rfl, _, _, _, [], _, [], hW', trodAll_mk1 (shut_bool Try.underlying4 _), (trodAll_cons_mk (shut_int Try.underlying3 w0) (trodAll_cons_mk (Below.trod laidOut (by kernel_rfl) (of_decide_eq_true (by kernel_rfl)) k1 bel lt1) (trodAll_cons_mk (Below.trod laidOut (by kernel_rfl) (of_decide_eq_true (by kernel_rfl)) k2 bel lt2) trodAll_mk0))), rfl, bel.frame _, fun h => by cases h⟩
theorem over : Rows.fnExactCombineTablesRow.holds Try.pinned (OpenSpec.ofChange Rows.fnExactCombineTablesSpec) :=
  OpenClaim.holds_of_wide 3 Try.f3 rfl rfl rfl rfl rfl rfl rfl ⟨rfl, rfl, rfl, rfl, rfl⟩ rfl rfl rfl rfl rfl (by kernel_rfl) Try.func3 (by kernel_rfl)
    (of_decide_eq_true (by kernel_rfl)) (by unfold Func.isWrapper; first | (rw [if_pos (by decide +kernel)]; kernel_rfl) | (rw [if_neg (by decide +kernel)]; exact ⟨rfl, rfl⟩))
    (fun os started H enc _ => lifted os started H enc)
theorem proved : Rows.FnExactCombineTablesSaid := over
#print axioms proved
end Go.Proofs.Ytifojdcnhlofkaa.fnExactCombineTables
namespace Go.Proofs.Ytifojdcnhlofkaa
/-- The row, under a short name, for the claim. -/
theorem fnExactCombineTables_holds : Rows.FnExactCombineTablesSaid := fnExactCombineTables.proved
end Go.Proofs.Ytifojdcnhlofkaa
