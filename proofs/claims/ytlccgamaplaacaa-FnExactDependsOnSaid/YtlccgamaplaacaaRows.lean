/-
  No cell of these rows narrows 'for every input' (looked for: loops, veiled, ifaces, maps, wideKeys, modest, calm, conditions, laid).
  DERIVED. THE GIVEN ROWS OF THIS SEAT. 12 by the template 'for every input the law returns true; each argument reads behind the call as it read before'; 0 by the template 'total and deterministic' (their statements: YtlccgamaplaacaaTotals.lean).
  GIVEN WITH THE SEED: the statements are not yours to turn. If you find one false, say at which input.
  Laid BY PROGRAM, IN A SANDBOX (cutbox-rows.mjs): the forced cells as the released guide's own fill.sh prints them over the translation e55f34d89e169c16… (all of the seat's roots in one cut). By AI agents, Wed Nov 11 2026. No macro, syntax, notation, axiom, sorry.
-/
import Derived.Test.YtlccgamaplaacaaChecked
import GoSem.Claim
import GoSem.ClaimJoined
import GoSem.ClaimMapViews
import Derived.JoinedTies
import Derived.KernelRfl
namespace Go.Proofs.Ytlccgamaplaacaa
/- THE CELL 'sum', in the pinned program and in every row, IS THE sha256 OF THE DUMP (.gsa) THAT YtlccgamaplaacaaProg.lean LOADS. Nothing in Lean hashes anything: it is a label: what it is worth is what the hold of that sum in a sandbox is worth. -/
noncomputable def Try.pinned : Pinned := { name := "ytlccgamaplaacaa", sum := "e55f34d89e169c1649cf0d44dfe54e1d9ff45895e0e0ad31e0dd821f4708d7b0", checked := Try.checked }
namespace Rows
def none {H : Type} : Left H := { results := [], args := [] }

/-- 'laws.FnExactIsTable': WHATEVER THE INPUT: true; the input reads as it did. -/
def fnExactIsTableSpec : ChangeSpec := { name := "fnExactIsTable", fn := fun _ => fun
  | [d] => { results := [.lit (.bool true)], args := [d] }
  | _ => none }
def fnExactIsTableRow : OpenClaim := { program := "ytlccgamaplaacaa", sum := "e55f34d89e169c1649cf0d44dfe54e1d9ff45895e0e0ad31e0dd821f4708d7b0", func := "loop.example/g00942/laws.FnExactIsTable", spec := "fnExactIsTable", apart := false }
def FnExactIsTableSaid : Prop := fnExactIsTableRow.holds Try.pinned (OpenSpec.ofChange fnExactIsTableSpec)

/-- ITS FALSE NEIGHBOUR: 'it returns false'. Refute it at one input. -/
def fnExactIsTableWrong : ChangeSpec := { name := "fnExactIsTable", fn := fun _ => fun
  | [d] => { results := [.lit (.bool false)], args := [d] }
  | _ => none }
def FnExactIsTableWrongFalsely : Prop := fnExactIsTableRow.holds Try.pinned (OpenSpec.ofChange fnExactIsTableWrong)

/-- 'laws.FnExactIsLog': WHATEVER THE INPUT: true; the input reads as it did. -/
def fnExactIsLogSpec : ChangeSpec := { name := "fnExactIsLog", fn := fun _ => fun
  | [d] => { results := [.lit (.bool true)], args := [d] }
  | _ => none }
def fnExactIsLogRow : OpenClaim := { program := "ytlccgamaplaacaa", sum := "e55f34d89e169c1649cf0d44dfe54e1d9ff45895e0e0ad31e0dd821f4708d7b0", func := "loop.example/g00942/laws.FnExactIsLog", spec := "fnExactIsLog", apart := false }
def FnExactIsLogSaid : Prop := fnExactIsLogRow.holds Try.pinned (OpenSpec.ofChange fnExactIsLogSpec)

/-- ITS FALSE NEIGHBOUR: 'it returns false'. Refute it at one input. -/
def fnExactIsLogWrong : ChangeSpec := { name := "fnExactIsLog", fn := fun _ => fun
  | [d] => { results := [.lit (.bool false)], args := [d] }
  | _ => none }
def FnExactIsLogWrongFalsely : Prop := fnExactIsLogRow.holds Try.pinned (OpenSpec.ofChange fnExactIsLogWrong)

/-- 'laws.FnExactIsMonotone': WHATEVER THE INPUT: true; the input reads as it did. -/
def fnExactIsMonotoneSpec : ChangeSpec := { name := "fnExactIsMonotone", fn := fun _ => fun
  | [d] => { results := [.lit (.bool true)], args := [d] }
  | _ => none }
def fnExactIsMonotoneRow : OpenClaim := { program := "ytlccgamaplaacaa", sum := "e55f34d89e169c1649cf0d44dfe54e1d9ff45895e0e0ad31e0dd821f4708d7b0", func := "loop.example/g00942/laws.FnExactIsMonotone", spec := "fnExactIsMonotone", apart := false }
def FnExactIsMonotoneSaid : Prop := fnExactIsMonotoneRow.holds Try.pinned (OpenSpec.ofChange fnExactIsMonotoneSpec)

/-- ITS FALSE NEIGHBOUR: 'it returns false'. Refute it at one input. -/
def fnExactIsMonotoneWrong : ChangeSpec := { name := "fnExactIsMonotone", fn := fun _ => fun
  | [d] => { results := [.lit (.bool false)], args := [d] }
  | _ => none }
def FnExactIsMonotoneWrongFalsely : Prop := fnExactIsMonotoneRow.holds Try.pinned (OpenSpec.ofChange fnExactIsMonotoneWrong)

/-- 'laws.FnExactValueAt': WHATEVER THE INPUT: true; the input reads as it did. -/
def fnExactValueAtSpec : ChangeSpec := { name := "fnExactValueAt", fn := fun _ => fun
  | [d1, d2] => { results := [.lit (.bool true)], args := [d1, d2] }
  | _ => none }
def fnExactValueAtRow : OpenClaim := { program := "ytlccgamaplaacaa", sum := "e55f34d89e169c1649cf0d44dfe54e1d9ff45895e0e0ad31e0dd821f4708d7b0", func := "loop.example/g00942/laws.FnExactValueAt", spec := "fnExactValueAt", apart := false }
def FnExactValueAtSaid : Prop := fnExactValueAtRow.holds Try.pinned (OpenSpec.ofChange fnExactValueAtSpec)

/-- ITS FALSE NEIGHBOUR: 'it returns false'. Refute it at one input. -/
def fnExactValueAtWrong : ChangeSpec := { name := "fnExactValueAt", fn := fun _ => fun
  | [d1, d2] => { results := [.lit (.bool false)], args := [d1, d2] }
  | _ => none }
def FnExactValueAtWrongFalsely : Prop := fnExactValueAtRow.holds Try.pinned (OpenSpec.ofChange fnExactValueAtWrong)

/-- 'laws.FnExactAgreeingEntries': WHATEVER THE INPUT: true; the input reads as it did. -/
def fnExactAgreeingEntriesSpec : ChangeSpec := { name := "fnExactAgreeingEntries", fn := fun _ => fun
  | [d1, d2] => { results := [.lit (.bool true)], args := [d1, d2] }
  | _ => none }
def fnExactAgreeingEntriesRow : OpenClaim := { program := "ytlccgamaplaacaa", sum := "e55f34d89e169c1649cf0d44dfe54e1d9ff45895e0e0ad31e0dd821f4708d7b0", func := "loop.example/g00942/laws.FnExactAgreeingEntries", spec := "fnExactAgreeingEntries", apart := false }
def FnExactAgreeingEntriesSaid : Prop := fnExactAgreeingEntriesRow.holds Try.pinned (OpenSpec.ofChange fnExactAgreeingEntriesSpec)

/-- ITS FALSE NEIGHBOUR: 'it returns false'. Refute it at one input. -/
def fnExactAgreeingEntriesWrong : ChangeSpec := { name := "fnExactAgreeingEntries", fn := fun _ => fun
  | [d1, d2] => { results := [.lit (.bool false)], args := [d1, d2] }
  | _ => none }
def FnExactAgreeingEntriesWrongFalsely : Prop := fnExactAgreeingEntriesRow.holds Try.pinned (OpenSpec.ofChange fnExactAgreeingEntriesWrong)

/-- 'laws.FnExactLongestColour': WHATEVER THE INPUT: true; the input reads as it did. -/
def fnExactLongestColourSpec : ChangeSpec := { name := "fnExactLongestColour", fn := fun _ => fun
  | [d] => { results := [.lit (.bool true)], args := [d] }
  | _ => none }
def fnExactLongestColourRow : OpenClaim := { program := "ytlccgamaplaacaa", sum := "e55f34d89e169c1649cf0d44dfe54e1d9ff45895e0e0ad31e0dd821f4708d7b0", func := "loop.example/g00942/laws.FnExactLongestColour", spec := "fnExactLongestColour", apart := false }
def FnExactLongestColourSaid : Prop := fnExactLongestColourRow.holds Try.pinned (OpenSpec.ofChange fnExactLongestColourSpec)

/-- ITS FALSE NEIGHBOUR: 'it returns false'. Refute it at one input. -/
def fnExactLongestColourWrong : ChangeSpec := { name := "fnExactLongestColour", fn := fun _ => fun
  | [d] => { results := [.lit (.bool false)], args := [d] }
  | _ => none }
def FnExactLongestColourWrongFalsely : Prop := fnExactLongestColourRow.holds Try.pinned (OpenSpec.ofChange fnExactLongestColourWrong)

/-- 'laws.FnExactDualTable': WHATEVER THE INPUT: true; the input reads as it did. -/
def fnExactDualTableSpec : ChangeSpec := { name := "fnExactDualTable", fn := fun _ => fun
  | [d] => { results := [.lit (.bool true)], args := [d] }
  | _ => none }
def fnExactDualTableRow : OpenClaim := { program := "ytlccgamaplaacaa", sum := "e55f34d89e169c1649cf0d44dfe54e1d9ff45895e0e0ad31e0dd821f4708d7b0", func := "loop.example/g00942/laws.FnExactDualTable", spec := "fnExactDualTable", apart := false }
def FnExactDualTableSaid : Prop := fnExactDualTableRow.holds Try.pinned (OpenSpec.ofChange fnExactDualTableSpec)

/-- ITS FALSE NEIGHBOUR: 'it returns false'. Refute it at one input. -/
def fnExactDualTableWrong : ChangeSpec := { name := "fnExactDualTable", fn := fun _ => fun
  | [d] => { results := [.lit (.bool false)], args := [d] }
  | _ => none }
def FnExactDualTableWrongFalsely : Prop := fnExactDualTableRow.holds Try.pinned (OpenSpec.ofChange fnExactDualTableWrong)

/-- 'laws.FnExactNotTable': WHATEVER THE INPUT: true; the input reads as it did. -/
def fnExactNotTableSpec : ChangeSpec := { name := "fnExactNotTable", fn := fun _ => fun
  | [d] => { results := [.lit (.bool true)], args := [d] }
  | _ => none }
def fnExactNotTableRow : OpenClaim := { program := "ytlccgamaplaacaa", sum := "e55f34d89e169c1649cf0d44dfe54e1d9ff45895e0e0ad31e0dd821f4708d7b0", func := "loop.example/g00942/laws.FnExactNotTable", spec := "fnExactNotTable", apart := false }
def FnExactNotTableSaid : Prop := fnExactNotTableRow.holds Try.pinned (OpenSpec.ofChange fnExactNotTableSpec)

/-- ITS FALSE NEIGHBOUR: 'it returns false'. Refute it at one input. -/
def fnExactNotTableWrong : ChangeSpec := { name := "fnExactNotTable", fn := fun _ => fun
  | [d] => { results := [.lit (.bool false)], args := [d] }
  | _ => none }
def FnExactNotTableWrongFalsely : Prop := fnExactNotTableRow.holds Try.pinned (OpenSpec.ofChange fnExactNotTableWrong)

/-- 'laws.FnExactOnesOf': WHATEVER THE INPUT: true; the input reads as it did. -/
def fnExactOnesOfSpec : ChangeSpec := { name := "fnExactOnesOf", fn := fun _ => fun
  | [d] => { results := [.lit (.bool true)], args := [d] }
  | _ => none }
def fnExactOnesOfRow : OpenClaim := { program := "ytlccgamaplaacaa", sum := "e55f34d89e169c1649cf0d44dfe54e1d9ff45895e0e0ad31e0dd821f4708d7b0", func := "loop.example/g00942/laws.FnExactOnesOf", spec := "fnExactOnesOf", apart := false }
def FnExactOnesOfSaid : Prop := fnExactOnesOfRow.holds Try.pinned (OpenSpec.ofChange fnExactOnesOfSpec)

/-- ITS FALSE NEIGHBOUR: 'it returns false'. Refute it at one input. -/
def fnExactOnesOfWrong : ChangeSpec := { name := "fnExactOnesOf", fn := fun _ => fun
  | [d] => { results := [.lit (.bool false)], args := [d] }
  | _ => none }
def FnExactOnesOfWrongFalsely : Prop := fnExactOnesOfRow.holds Try.pinned (OpenSpec.ofChange fnExactOnesOfWrong)

/-- 'laws.FnExactPeriodOf': WHATEVER THE INPUT: true; the input reads as it did. -/
def fnExactPeriodOfSpec : ChangeSpec := { name := "fnExactPeriodOf", fn := fun _ => fun
  | [d] => { results := [.lit (.bool true)], args := [d] }
  | _ => none }
def fnExactPeriodOfRow : OpenClaim := { program := "ytlccgamaplaacaa", sum := "e55f34d89e169c1649cf0d44dfe54e1d9ff45895e0e0ad31e0dd821f4708d7b0", func := "loop.example/g00942/laws.FnExactPeriodOf", spec := "fnExactPeriodOf", apart := false }
def FnExactPeriodOfSaid : Prop := fnExactPeriodOfRow.holds Try.pinned (OpenSpec.ofChange fnExactPeriodOfSpec)

/-- ITS FALSE NEIGHBOUR: 'it returns false'. Refute it at one input. -/
def fnExactPeriodOfWrong : ChangeSpec := { name := "fnExactPeriodOf", fn := fun _ => fun
  | [d] => { results := [.lit (.bool false)], args := [d] }
  | _ => none }
def FnExactPeriodOfWrongFalsely : Prop := fnExactPeriodOfRow.holds Try.pinned (OpenSpec.ofChange fnExactPeriodOfWrong)

/-- 'laws.FnExactFixInput': WHATEVER THE INPUT: true; the input reads as it did. -/
def fnExactFixInputSpec : ChangeSpec := { name := "fnExactFixInput", fn := fun _ => fun
  | [d1, d2, d3] => { results := [.lit (.bool true)], args := [d1, d2, d3] }
  | _ => none }
def fnExactFixInputRow : OpenClaim := { program := "ytlccgamaplaacaa", sum := "e55f34d89e169c1649cf0d44dfe54e1d9ff45895e0e0ad31e0dd821f4708d7b0", func := "loop.example/g00942/laws.FnExactFixInput", spec := "fnExactFixInput", apart := false }
def FnExactFixInputSaid : Prop := fnExactFixInputRow.holds Try.pinned (OpenSpec.ofChange fnExactFixInputSpec)

/-- ITS FALSE NEIGHBOUR: 'it returns false'. Refute it at one input. -/
def fnExactFixInputWrong : ChangeSpec := { name := "fnExactFixInput", fn := fun _ => fun
  | [d1, d2, d3] => { results := [.lit (.bool false)], args := [d1, d2, d3] }
  | _ => none }
def FnExactFixInputWrongFalsely : Prop := fnExactFixInputRow.holds Try.pinned (OpenSpec.ofChange fnExactFixInputWrong)

/-- 'laws.FnExactDependsOn': WHATEVER THE INPUT: true; the input reads as it did. -/
def fnExactDependsOnSpec : ChangeSpec := { name := "fnExactDependsOn", fn := fun _ => fun
  | [d] => { results := [.lit (.bool true)], args := [d] }
  | _ => none }
def fnExactDependsOnRow : OpenClaim := { program := "ytlccgamaplaacaa", sum := "e55f34d89e169c1649cf0d44dfe54e1d9ff45895e0e0ad31e0dd821f4708d7b0", func := "loop.example/g00942/laws.FnExactDependsOn", spec := "fnExactDependsOn", apart := false }
def FnExactDependsOnSaid : Prop := fnExactDependsOnRow.holds Try.pinned (OpenSpec.ofChange fnExactDependsOnSpec)

/-- ITS FALSE NEIGHBOUR: 'it returns false'. Refute it at one input. -/
def fnExactDependsOnWrong : ChangeSpec := { name := "fnExactDependsOn", fn := fun _ => fun
  | [d] => { results := [.lit (.bool false)], args := [d] }
  | _ => none }
def FnExactDependsOnWrongFalsely : Prop := fnExactDependsOnRow.holds Try.pinned (OpenSpec.ofChange fnExactDependsOnWrong)

/- THE SECOND FORM. 'bulk': how many values and letters a reading holds, each counted each time it is reached (what is shared counts as often as it is met; a slice's spare places count too). A statement '..UptoSaid' is the law's where the arguments, and the package variables that the reading takes, are together of bulk at most 1048576: NARROWER than '..Said'. Prove '..Said' where nothing that the law and all that it calls make is longer than what came in: it says more and counts as full. Else prove '..UptoSaid'. A law counts once. -/
mutual
def uptoBulk {H : Type} : DataW H → Nat
  | .lit (.string bytes) => bytes.length + 1
  | .lit _ => 1
  | .nil => 1
  | .ptr d => uptoBulk d + 1
  | .slice elems spare => uptoBulkAll elems + uptoBulkAll spare + 1
  | .agg parts => uptoBulkAll parts + 1
  | .iface _ d => uptoBulk d + 1
  | .map entries => uptoBulkEntries entries + 1
  | .held _ => 1
def uptoBulkAll {H : Type} : List (DataW H) → Nat
  | [] => 0
  | d :: r => uptoBulk d + uptoBulkAll r
def uptoBulkEntries {H : Type} : List (Lit × DataW H) → Nat
  | [] => 0
  | x :: r => uptoBulkEntry x + uptoBulkEntries r
def uptoBulkEntry {H : Type} : Lit × DataW H → Nat
  | (.string bytes, d) => bytes.length + uptoBulk d + 1
  | (_, d) => uptoBulk d + 1
 end
def uptoSmall : (H : Type) → List (DataW H) → Bool := fun _ ds => decide (uptoBulkAll ds ≤ 1048576)
def OpenSpec.upto (s : _root_.Go.ChangeSpec) : _root_.Go.OpenSpec := { _root_.Go.OpenSpec.ofChange s with cond := some uptoSmall }

/-- 'laws.FnExactIsTable', WHERE WHAT IT READS IS OF BULK AT MOST 1048576: true; the input reads as it did. -/
def fnExactIsTableUptoRow : OpenClaim := { program := "ytlccgamaplaacaa", sum := "e55f34d89e169c1649cf0d44dfe54e1d9ff45895e0e0ad31e0dd821f4708d7b0", func := "loop.example/g00942/laws.FnExactIsTable", spec := "fnExactIsTable", apart := false, narrowed := true }
def FnExactIsTableUptoSaid : Prop := fnExactIsTableUptoRow.holds Try.pinned (OpenSpec.upto fnExactIsTableSpec)

/-- 'laws.FnExactIsLog', WHERE WHAT IT READS IS OF BULK AT MOST 1048576: true; the input reads as it did. -/
def fnExactIsLogUptoRow : OpenClaim := { program := "ytlccgamaplaacaa", sum := "e55f34d89e169c1649cf0d44dfe54e1d9ff45895e0e0ad31e0dd821f4708d7b0", func := "loop.example/g00942/laws.FnExactIsLog", spec := "fnExactIsLog", apart := false, narrowed := true }
def FnExactIsLogUptoSaid : Prop := fnExactIsLogUptoRow.holds Try.pinned (OpenSpec.upto fnExactIsLogSpec)

/-- 'laws.FnExactIsMonotone', WHERE WHAT IT READS IS OF BULK AT MOST 1048576: true; the input reads as it did. -/
def fnExactIsMonotoneUptoRow : OpenClaim := { program := "ytlccgamaplaacaa", sum := "e55f34d89e169c1649cf0d44dfe54e1d9ff45895e0e0ad31e0dd821f4708d7b0", func := "loop.example/g00942/laws.FnExactIsMonotone", spec := "fnExactIsMonotone", apart := false, narrowed := true }
def FnExactIsMonotoneUptoSaid : Prop := fnExactIsMonotoneUptoRow.holds Try.pinned (OpenSpec.upto fnExactIsMonotoneSpec)

/-- 'laws.FnExactValueAt', WHERE WHAT IT READS IS OF BULK AT MOST 1048576: true; the input reads as it did. -/
def fnExactValueAtUptoRow : OpenClaim := { program := "ytlccgamaplaacaa", sum := "e55f34d89e169c1649cf0d44dfe54e1d9ff45895e0e0ad31e0dd821f4708d7b0", func := "loop.example/g00942/laws.FnExactValueAt", spec := "fnExactValueAt", apart := false, narrowed := true }
def FnExactValueAtUptoSaid : Prop := fnExactValueAtUptoRow.holds Try.pinned (OpenSpec.upto fnExactValueAtSpec)

/-- 'laws.FnExactAgreeingEntries', WHERE WHAT IT READS IS OF BULK AT MOST 1048576: true; the input reads as it did. -/
def fnExactAgreeingEntriesUptoRow : OpenClaim := { program := "ytlccgamaplaacaa", sum := "e55f34d89e169c1649cf0d44dfe54e1d9ff45895e0e0ad31e0dd821f4708d7b0", func := "loop.example/g00942/laws.FnExactAgreeingEntries", spec := "fnExactAgreeingEntries", apart := false, narrowed := true }
def FnExactAgreeingEntriesUptoSaid : Prop := fnExactAgreeingEntriesUptoRow.holds Try.pinned (OpenSpec.upto fnExactAgreeingEntriesSpec)

/-- 'laws.FnExactLongestColour', WHERE WHAT IT READS IS OF BULK AT MOST 1048576: true; the input reads as it did. -/
def fnExactLongestColourUptoRow : OpenClaim := { program := "ytlccgamaplaacaa", sum := "e55f34d89e169c1649cf0d44dfe54e1d9ff45895e0e0ad31e0dd821f4708d7b0", func := "loop.example/g00942/laws.FnExactLongestColour", spec := "fnExactLongestColour", apart := false, narrowed := true }
def FnExactLongestColourUptoSaid : Prop := fnExactLongestColourUptoRow.holds Try.pinned (OpenSpec.upto fnExactLongestColourSpec)

/-- 'laws.FnExactDualTable', WHERE WHAT IT READS IS OF BULK AT MOST 1048576: true; the input reads as it did. -/
def fnExactDualTableUptoRow : OpenClaim := { program := "ytlccgamaplaacaa", sum := "e55f34d89e169c1649cf0d44dfe54e1d9ff45895e0e0ad31e0dd821f4708d7b0", func := "loop.example/g00942/laws.FnExactDualTable", spec := "fnExactDualTable", apart := false, narrowed := true }
def FnExactDualTableUptoSaid : Prop := fnExactDualTableUptoRow.holds Try.pinned (OpenSpec.upto fnExactDualTableSpec)

/-- 'laws.FnExactNotTable', WHERE WHAT IT READS IS OF BULK AT MOST 1048576: true; the input reads as it did. -/
def fnExactNotTableUptoRow : OpenClaim := { program := "ytlccgamaplaacaa", sum := "e55f34d89e169c1649cf0d44dfe54e1d9ff45895e0e0ad31e0dd821f4708d7b0", func := "loop.example/g00942/laws.FnExactNotTable", spec := "fnExactNotTable", apart := false, narrowed := true }
def FnExactNotTableUptoSaid : Prop := fnExactNotTableUptoRow.holds Try.pinned (OpenSpec.upto fnExactNotTableSpec)

/-- 'laws.FnExactOnesOf', WHERE WHAT IT READS IS OF BULK AT MOST 1048576: true; the input reads as it did. -/
def fnExactOnesOfUptoRow : OpenClaim := { program := "ytlccgamaplaacaa", sum := "e55f34d89e169c1649cf0d44dfe54e1d9ff45895e0e0ad31e0dd821f4708d7b0", func := "loop.example/g00942/laws.FnExactOnesOf", spec := "fnExactOnesOf", apart := false, narrowed := true }
def FnExactOnesOfUptoSaid : Prop := fnExactOnesOfUptoRow.holds Try.pinned (OpenSpec.upto fnExactOnesOfSpec)

/-- 'laws.FnExactPeriodOf', WHERE WHAT IT READS IS OF BULK AT MOST 1048576: true; the input reads as it did. -/
def fnExactPeriodOfUptoRow : OpenClaim := { program := "ytlccgamaplaacaa", sum := "e55f34d89e169c1649cf0d44dfe54e1d9ff45895e0e0ad31e0dd821f4708d7b0", func := "loop.example/g00942/laws.FnExactPeriodOf", spec := "fnExactPeriodOf", apart := false, narrowed := true }
def FnExactPeriodOfUptoSaid : Prop := fnExactPeriodOfUptoRow.holds Try.pinned (OpenSpec.upto fnExactPeriodOfSpec)

/-- 'laws.FnExactFixInput', WHERE WHAT IT READS IS OF BULK AT MOST 1048576: true; the input reads as it did. -/
def fnExactFixInputUptoRow : OpenClaim := { program := "ytlccgamaplaacaa", sum := "e55f34d89e169c1649cf0d44dfe54e1d9ff45895e0e0ad31e0dd821f4708d7b0", func := "loop.example/g00942/laws.FnExactFixInput", spec := "fnExactFixInput", apart := false, narrowed := true }
def FnExactFixInputUptoSaid : Prop := fnExactFixInputUptoRow.holds Try.pinned (OpenSpec.upto fnExactFixInputSpec)

/-- 'laws.FnExactDependsOn', WHERE WHAT IT READS IS OF BULK AT MOST 1048576: true; the input reads as it did. -/
def fnExactDependsOnUptoRow : OpenClaim := { program := "ytlccgamaplaacaa", sum := "e55f34d89e169c1649cf0d44dfe54e1d9ff45895e0e0ad31e0dd821f4708d7b0", func := "loop.example/g00942/laws.FnExactDependsOn", spec := "fnExactDependsOn", apart := false, narrowed := true }
def FnExactDependsOnUptoSaid : Prop := fnExactDependsOnUptoRow.holds Try.pinned (OpenSpec.upto fnExactDependsOnSpec)

end Rows
end Go.Proofs.Ytlccgamaplaacaa
