/-
  No cell of these rows narrows 'for every input' (looked for: loops, veiled, ifaces, maps, wideKeys, modest, calm, conditions, laid).
  DERIVED. THE GIVEN ROWS OF THIS SEAT. 9 by the template 'for every input the law returns true; each argument reads behind the call as it read before'; 0 by the template 'total and deterministic' (their statements: YtdkfgomjfigmbaaTotals.lean).
  GIVEN WITH THE SEED: the statements are not yours to turn. If you find one false, say at which input.
  Laid BY PROGRAM, IN A SANDBOX (cutbox-rows.mjs): the forced cells as the released guide's own fill.sh prints them over the translation de1264d25c02700b… (all of the seat's roots in one cut). By AI agents, Wed Nov 11 2026. No macro, syntax, notation, axiom, sorry.
-/
import Derived.Test.YtdkfgomjfigmbaaChecked
import GoSem.Claim
import GoSem.ClaimJoined
import GoSem.ClaimMapViews
import Derived.JoinedTies
import Derived.KernelRfl
namespace Go.Proofs.Ytdkfgomjfigmbaa
/- THE CELL 'sum', in the pinned program and in every row, IS THE sha256 OF THE DUMP (.gsa) THAT YtdkfgomjfigmbaaProg.lean LOADS. Nothing in Lean hashes anything: it is a label: what it is worth is what the hold of that sum in a sandbox is worth. -/
noncomputable def Try.pinned : Pinned := { name := "ytdkfgomjfigmbaa", sum := "de1264d25c02700b4a2004025bb68f6e1a86840f19a143aa6c94ad981da1e81c", checked := Try.checked }
namespace Rows
def none {H : Type} : Left H := { results := [], args := [] }

/-- 'laws.FnExactIsDiagram': WHATEVER THE INPUT: true; the input reads as it did. -/
def fnExactIsDiagramSpec : ChangeSpec := { name := "fnExactIsDiagram", fn := fun _ => fun
  | [d] => { results := [.lit (.bool true)], args := [d] }
  | _ => none }
def fnExactIsDiagramRow : OpenClaim := { program := "ytdkfgomjfigmbaa", sum := "de1264d25c02700b4a2004025bb68f6e1a86840f19a143aa6c94ad981da1e81c", func := "loop.example/g00942/laws.FnExactIsDiagram", spec := "fnExactIsDiagram", unfollowed := true, recurses := true, apart := false }
def FnExactIsDiagramSaid : Prop := fnExactIsDiagramRow.holds Try.pinned (OpenSpec.ofChange fnExactIsDiagramSpec)

/-- ITS FALSE NEIGHBOUR: 'it returns false'. Refute it at one input. -/
def fnExactIsDiagramWrong : ChangeSpec := { name := "fnExactIsDiagram", fn := fun _ => fun
  | [d] => { results := [.lit (.bool false)], args := [d] }
  | _ => none }
def FnExactIsDiagramWrongFalsely : Prop := fnExactIsDiagramRow.holds Try.pinned (OpenSpec.ofChange fnExactIsDiagramWrong)

/-- 'laws.FnExactTruePaths': WHATEVER THE INPUT: true; the input reads as it did. -/
def fnExactTruePathsSpec : ChangeSpec := { name := "fnExactTruePaths", fn := fun _ => fun
  | [d] => { results := [.lit (.bool true)], args := [d] }
  | _ => none }
def fnExactTruePathsRow : OpenClaim := { program := "ytdkfgomjfigmbaa", sum := "de1264d25c02700b4a2004025bb68f6e1a86840f19a143aa6c94ad981da1e81c", func := "loop.example/g00942/laws.FnExactTruePaths", spec := "fnExactTruePaths", unfollowed := true, recurses := true, apart := false }
def FnExactTruePathsSaid : Prop := fnExactTruePathsRow.holds Try.pinned (OpenSpec.ofChange fnExactTruePathsSpec)

/-- ITS FALSE NEIGHBOUR: 'it returns false'. Refute it at one input. -/
def fnExactTruePathsWrong : ChangeSpec := { name := "fnExactTruePaths", fn := fun _ => fun
  | [d] => { results := [.lit (.bool false)], args := [d] }
  | _ => none }
def FnExactTruePathsWrongFalsely : Prop := fnExactTruePathsRow.holds Try.pinned (OpenSpec.ofChange fnExactTruePathsWrong)

/-- 'laws.FnExactDiagramOf': WHATEVER THE INPUT: true; the input reads as it did. -/
def fnExactDiagramOfSpec : ChangeSpec := { name := "fnExactDiagramOf", fn := fun _ => fun
  | [d] => { results := [.lit (.bool true)], args := [d] }
  | _ => none }
def fnExactDiagramOfRow : OpenClaim := { program := "ytdkfgomjfigmbaa", sum := "de1264d25c02700b4a2004025bb68f6e1a86840f19a143aa6c94ad981da1e81c", func := "loop.example/g00942/laws.FnExactDiagramOf", spec := "fnExactDiagramOf", unfollowed := true, recurses := true, apart := false }
def FnExactDiagramOfSaid : Prop := fnExactDiagramOfRow.holds Try.pinned (OpenSpec.ofChange fnExactDiagramOfSpec)

/-- ITS FALSE NEIGHBOUR: 'it returns false'. Refute it at one input. -/
def fnExactDiagramOfWrong : ChangeSpec := { name := "fnExactDiagramOf", fn := fun _ => fun
  | [d] => { results := [.lit (.bool false)], args := [d] }
  | _ => none }
def FnExactDiagramOfWrongFalsely : Prop := fnExactDiagramOfRow.holds Try.pinned (OpenSpec.ofChange fnExactDiagramOfWrong)

/-- 'laws.FnExactCountTrue': WHATEVER THE INPUT: true; the input reads as it did. -/
def fnExactCountTrueSpec : ChangeSpec := { name := "fnExactCountTrue", fn := fun _ => fun
  | [d] => { results := [.lit (.bool true)], args := [d] }
  | _ => none }
def fnExactCountTrueRow : OpenClaim := { program := "ytdkfgomjfigmbaa", sum := "de1264d25c02700b4a2004025bb68f6e1a86840f19a143aa6c94ad981da1e81c", func := "loop.example/g00942/laws.FnExactCountTrue", spec := "fnExactCountTrue", unfollowed := true, recurses := true, apart := false }
def FnExactCountTrueSaid : Prop := fnExactCountTrueRow.holds Try.pinned (OpenSpec.ofChange fnExactCountTrueSpec)

/-- ITS FALSE NEIGHBOUR: 'it returns false'. Refute it at one input. -/
def fnExactCountTrueWrong : ChangeSpec := { name := "fnExactCountTrue", fn := fun _ => fun
  | [d] => { results := [.lit (.bool false)], args := [d] }
  | _ => none }
def FnExactCountTrueWrongFalsely : Prop := fnExactCountTrueRow.holds Try.pinned (OpenSpec.ofChange fnExactCountTrueWrong)

/-- 'laws.FnExactBestOrder': WHATEVER THE INPUT: true; the input reads as it did. -/
def fnExactBestOrderSpec : ChangeSpec := { name := "fnExactBestOrder", fn := fun _ => fun
  | [d] => { results := [.lit (.bool true)], args := [d] }
  | _ => none }
def fnExactBestOrderRow : OpenClaim := { program := "ytdkfgomjfigmbaa", sum := "de1264d25c02700b4a2004025bb68f6e1a86840f19a143aa6c94ad981da1e81c", func := "loop.example/g00942/laws.FnExactBestOrder", spec := "fnExactBestOrder", unfollowed := true, recurses := true, apart := false }
def FnExactBestOrderSaid : Prop := fnExactBestOrderRow.holds Try.pinned (OpenSpec.ofChange fnExactBestOrderSpec)

/-- ITS FALSE NEIGHBOUR: 'it returns false'. Refute it at one input. -/
def fnExactBestOrderWrong : ChangeSpec := { name := "fnExactBestOrder", fn := fun _ => fun
  | [d] => { results := [.lit (.bool false)], args := [d] }
  | _ => none }
def FnExactBestOrderWrongFalsely : Prop := fnExactBestOrderRow.holds Try.pinned (OpenSpec.ofChange fnExactBestOrderWrong)

/-- 'laws.FnExactDiagramValue': WHATEVER THE INPUT: true; the input reads as it did. -/
def fnExactDiagramValueSpec : ChangeSpec := { name := "fnExactDiagramValue", fn := fun _ => fun
  | [d1, d2] => { results := [.lit (.bool true)], args := [d1, d2] }
  | _ => none }
def fnExactDiagramValueRow : OpenClaim := { program := "ytdkfgomjfigmbaa", sum := "de1264d25c02700b4a2004025bb68f6e1a86840f19a143aa6c94ad981da1e81c", func := "loop.example/g00942/laws.FnExactDiagramValue", spec := "fnExactDiagramValue", unfollowed := true, recurses := true, apart := false }
def FnExactDiagramValueSaid : Prop := fnExactDiagramValueRow.holds Try.pinned (OpenSpec.ofChange fnExactDiagramValueSpec)

/-- ITS FALSE NEIGHBOUR: 'it returns false'. Refute it at one input. -/
def fnExactDiagramValueWrong : ChangeSpec := { name := "fnExactDiagramValue", fn := fun _ => fun
  | [d1, d2] => { results := [.lit (.bool false)], args := [d1, d2] }
  | _ => none }
def FnExactDiagramValueWrongFalsely : Prop := fnExactDiagramValueRow.holds Try.pinned (OpenSpec.ofChange fnExactDiagramValueWrong)

/-- 'laws.FnExactInputsUsed': WHATEVER THE INPUT: true; the input reads as it did. -/
def fnExactInputsUsedSpec : ChangeSpec := { name := "fnExactInputsUsed", fn := fun _ => fun
  | [d] => { results := [.lit (.bool true)], args := [d] }
  | _ => none }
def fnExactInputsUsedRow : OpenClaim := { program := "ytdkfgomjfigmbaa", sum := "de1264d25c02700b4a2004025bb68f6e1a86840f19a143aa6c94ad981da1e81c", func := "loop.example/g00942/laws.FnExactInputsUsed", spec := "fnExactInputsUsed", unfollowed := true, recurses := true, apart := false }
def FnExactInputsUsedSaid : Prop := fnExactInputsUsedRow.holds Try.pinned (OpenSpec.ofChange fnExactInputsUsedSpec)

/-- ITS FALSE NEIGHBOUR: 'it returns false'. Refute it at one input. -/
def fnExactInputsUsedWrong : ChangeSpec := { name := "fnExactInputsUsed", fn := fun _ => fun
  | [d] => { results := [.lit (.bool false)], args := [d] }
  | _ => none }
def FnExactInputsUsedWrongFalsely : Prop := fnExactInputsUsedRow.holds Try.pinned (OpenSpec.ofChange fnExactInputsUsedWrong)

/-- 'laws.FnExactTableOf': WHATEVER THE INPUT: true; the input reads as it did. -/
def fnExactTableOfSpec : ChangeSpec := { name := "fnExactTableOf", fn := fun _ => fun
  | [d] => { results := [.lit (.bool true)], args := [d] }
  | _ => none }
def fnExactTableOfRow : OpenClaim := { program := "ytdkfgomjfigmbaa", sum := "de1264d25c02700b4a2004025bb68f6e1a86840f19a143aa6c94ad981da1e81c", func := "loop.example/g00942/laws.FnExactTableOf", spec := "fnExactTableOf", unfollowed := true, recurses := true, apart := false }
def FnExactTableOfSaid : Prop := fnExactTableOfRow.holds Try.pinned (OpenSpec.ofChange fnExactTableOfSpec)

/-- ITS FALSE NEIGHBOUR: 'it returns false'. Refute it at one input. -/
def fnExactTableOfWrong : ChangeSpec := { name := "fnExactTableOf", fn := fun _ => fun
  | [d] => { results := [.lit (.bool false)], args := [d] }
  | _ => none }
def FnExactTableOfWrongFalsely : Prop := fnExactTableOfRow.holds Try.pinned (OpenSpec.ofChange fnExactTableOfWrong)

/-- 'laws.FnExactFixDiagram': WHATEVER THE INPUT: true; the input reads as it did. -/
def fnExactFixDiagramSpec : ChangeSpec := { name := "fnExactFixDiagram", fn := fun _ => fun
  | [d1, d2, d3] => { results := [.lit (.bool true)], args := [d1, d2, d3] }
  | _ => none }
def fnExactFixDiagramRow : OpenClaim := { program := "ytdkfgomjfigmbaa", sum := "de1264d25c02700b4a2004025bb68f6e1a86840f19a143aa6c94ad981da1e81c", func := "loop.example/g00942/laws.FnExactFixDiagram", spec := "fnExactFixDiagram", unfollowed := true, recurses := true, apart := false }
def FnExactFixDiagramSaid : Prop := fnExactFixDiagramRow.holds Try.pinned (OpenSpec.ofChange fnExactFixDiagramSpec)

/-- ITS FALSE NEIGHBOUR: 'it returns false'. Refute it at one input. -/
def fnExactFixDiagramWrong : ChangeSpec := { name := "fnExactFixDiagram", fn := fun _ => fun
  | [d1, d2, d3] => { results := [.lit (.bool false)], args := [d1, d2, d3] }
  | _ => none }
def FnExactFixDiagramWrongFalsely : Prop := fnExactFixDiagramRow.holds Try.pinned (OpenSpec.ofChange fnExactFixDiagramWrong)

/- THE SECOND FORM. 'bulk': how many values and letters a reading holds, each counted each time it is reached (what is shared counts as often as it is met; a slice's spare places count too). A statement '..UptoSaid' is the law's where the arguments, and the package variables that the reading takes, are together of bulk at most 1048576: NARROWER than '..Said'. Prove '..Said' where nothing that the law and all that it calls make is longer than what came in: it says more and counts as full. Else prove '..UptoSaid'. A law counts once. -/
mutual
def uptoBulk {H : Type} : DataW H → Nat
  | .lit (.string bytes) => bytes.length + 1
  | .lit _ => 1
  | .nil => 1
  | .ptr d => uptoBulk d + 1
  | .slice elems spare => uptoBulkAll elems + uptoBulkAll spare + 1
  | .agg parts => uptoBulkAll parts + 1
  | .iface _ d => uptoBulk d + 1
  | .map entries => uptoBulkEntries entries + 1
  | .held _ => 1
def uptoBulkAll {H : Type} : List (DataW H) → Nat
  | [] => 0
  | d :: r => uptoBulk d + uptoBulkAll r
def uptoBulkEntries {H : Type} : List (Lit × DataW H) → Nat
  | [] => 0
  | x :: r => uptoBulkEntry x + uptoBulkEntries r
def uptoBulkEntry {H : Type} : Lit × DataW H → Nat
  | (.string bytes, d) => bytes.length + uptoBulk d + 1
  | (_, d) => uptoBulk d + 1
 end
def uptoSmall : (H : Type) → List (DataW H) → Bool := fun _ ds => decide (uptoBulkAll ds ≤ 1048576)
def OpenSpec.upto (s : _root_.Go.ChangeSpec) : _root_.Go.OpenSpec := { _root_.Go.OpenSpec.ofChange s with cond := some uptoSmall }

/-- 'laws.FnExactIsDiagram', WHERE WHAT IT READS IS OF BULK AT MOST 1048576: true; the input reads as it did. -/
def fnExactIsDiagramUptoRow : OpenClaim := { program := "ytdkfgomjfigmbaa", sum := "de1264d25c02700b4a2004025bb68f6e1a86840f19a143aa6c94ad981da1e81c", func := "loop.example/g00942/laws.FnExactIsDiagram", spec := "fnExactIsDiagram", unfollowed := true, recurses := true, apart := false, narrowed := true }
def FnExactIsDiagramUptoSaid : Prop := fnExactIsDiagramUptoRow.holds Try.pinned (OpenSpec.upto fnExactIsDiagramSpec)

/-- 'laws.FnExactTruePaths', WHERE WHAT IT READS IS OF BULK AT MOST 1048576: true; the input reads as it did. -/
def fnExactTruePathsUptoRow : OpenClaim := { program := "ytdkfgomjfigmbaa", sum := "de1264d25c02700b4a2004025bb68f6e1a86840f19a143aa6c94ad981da1e81c", func := "loop.example/g00942/laws.FnExactTruePaths", spec := "fnExactTruePaths", unfollowed := true, recurses := true, apart := false, narrowed := true }
def FnExactTruePathsUptoSaid : Prop := fnExactTruePathsUptoRow.holds Try.pinned (OpenSpec.upto fnExactTruePathsSpec)

/-- 'laws.FnExactDiagramOf', WHERE WHAT IT READS IS OF BULK AT MOST 1048576: true; the input reads as it did. -/
def fnExactDiagramOfUptoRow : OpenClaim := { program := "ytdkfgomjfigmbaa", sum := "de1264d25c02700b4a2004025bb68f6e1a86840f19a143aa6c94ad981da1e81c", func := "loop.example/g00942/laws.FnExactDiagramOf", spec := "fnExactDiagramOf", unfollowed := true, recurses := true, apart := false, narrowed := true }
def FnExactDiagramOfUptoSaid : Prop := fnExactDiagramOfUptoRow.holds Try.pinned (OpenSpec.upto fnExactDiagramOfSpec)

/-- 'laws.FnExactCountTrue', WHERE WHAT IT READS IS OF BULK AT MOST 1048576: true; the input reads as it did. -/
def fnExactCountTrueUptoRow : OpenClaim := { program := "ytdkfgomjfigmbaa", sum := "de1264d25c02700b4a2004025bb68f6e1a86840f19a143aa6c94ad981da1e81c", func := "loop.example/g00942/laws.FnExactCountTrue", spec := "fnExactCountTrue", unfollowed := true, recurses := true, apart := false, narrowed := true }
def FnExactCountTrueUptoSaid : Prop := fnExactCountTrueUptoRow.holds Try.pinned (OpenSpec.upto fnExactCountTrueSpec)

/-- 'laws.FnExactBestOrder', WHERE WHAT IT READS IS OF BULK AT MOST 1048576: true; the input reads as it did. -/
def fnExactBestOrderUptoRow : OpenClaim := { program := "ytdkfgomjfigmbaa", sum := "de1264d25c02700b4a2004025bb68f6e1a86840f19a143aa6c94ad981da1e81c", func := "loop.example/g00942/laws.FnExactBestOrder", spec := "fnExactBestOrder", unfollowed := true, recurses := true, apart := false, narrowed := true }
def FnExactBestOrderUptoSaid : Prop := fnExactBestOrderUptoRow.holds Try.pinned (OpenSpec.upto fnExactBestOrderSpec)

/-- 'laws.FnExactDiagramValue', WHERE WHAT IT READS IS OF BULK AT MOST 1048576: true; the input reads as it did. -/
def fnExactDiagramValueUptoRow : OpenClaim := { program := "ytdkfgomjfigmbaa", sum := "de1264d25c02700b4a2004025bb68f6e1a86840f19a143aa6c94ad981da1e81c", func := "loop.example/g00942/laws.FnExactDiagramValue", spec := "fnExactDiagramValue", unfollowed := true, recurses := true, apart := false, narrowed := true }
def FnExactDiagramValueUptoSaid : Prop := fnExactDiagramValueUptoRow.holds Try.pinned (OpenSpec.upto fnExactDiagramValueSpec)

/-- 'laws.FnExactInputsUsed', WHERE WHAT IT READS IS OF BULK AT MOST 1048576: true; the input reads as it did. -/
def fnExactInputsUsedUptoRow : OpenClaim := { program := "ytdkfgomjfigmbaa", sum := "de1264d25c02700b4a2004025bb68f6e1a86840f19a143aa6c94ad981da1e81c", func := "loop.example/g00942/laws.FnExactInputsUsed", spec := "fnExactInputsUsed", unfollowed := true, recurses := true, apart := false, narrowed := true }
def FnExactInputsUsedUptoSaid : Prop := fnExactInputsUsedUptoRow.holds Try.pinned (OpenSpec.upto fnExactInputsUsedSpec)

/-- 'laws.FnExactTableOf', WHERE WHAT IT READS IS OF BULK AT MOST 1048576: true; the input reads as it did. -/
def fnExactTableOfUptoRow : OpenClaim := { program := "ytdkfgomjfigmbaa", sum := "de1264d25c02700b4a2004025bb68f6e1a86840f19a143aa6c94ad981da1e81c", func := "loop.example/g00942/laws.FnExactTableOf", spec := "fnExactTableOf", unfollowed := true, recurses := true, apart := false, narrowed := true }
def FnExactTableOfUptoSaid : Prop := fnExactTableOfUptoRow.holds Try.pinned (OpenSpec.upto fnExactTableOfSpec)

/-- 'laws.FnExactFixDiagram', WHERE WHAT IT READS IS OF BULK AT MOST 1048576: true; the input reads as it did. -/
def fnExactFixDiagramUptoRow : OpenClaim := { program := "ytdkfgomjfigmbaa", sum := "de1264d25c02700b4a2004025bb68f6e1a86840f19a143aa6c94ad981da1e81c", func := "loop.example/g00942/laws.FnExactFixDiagram", spec := "fnExactFixDiagram", unfollowed := true, recurses := true, apart := false, narrowed := true }
def FnExactFixDiagramUptoSaid : Prop := fnExactFixDiagramUptoRow.holds Try.pinned (OpenSpec.upto fnExactFixDiagramSpec)

end Rows
end Go.Proofs.Ytdkfgomjfigmbaa
