/-
  No cell of these rows narrows 'for every input' (looked for: loops, veiled, ifaces, maps, wideKeys, modest, calm, conditions, laid).
  DERIVED. THE GIVEN ROWS OF THIS SEAT. 10 by the template 'for every input the law returns true; each argument reads behind the call as it read before'; 0 by the template 'total and deterministic' (their statements: YtakihdabbpconaaTotals.lean).
  GIVEN WITH THE SEED: the statements are not yours to turn. If you find one false, say at which input.
  Laid BY PROGRAM, IN A SANDBOX (cutbox-rows.mjs): the forced cells as the released guide's own fill.sh prints them over the translation 98fde134b4f06ec0… (all of the seat's roots in one cut). By AI agents, Wed Nov 11 2026. No macro, syntax, notation, axiom, sorry.
-/
import Derived.Test.YtakihdabbpconaaChecked
import GoSem.Claim
import GoSem.ClaimJoined
import GoSem.ClaimMapViews
import Derived.JoinedTies
import Derived.KernelRfl
namespace Go.Proofs.Ytakihdabbpconaa
/- THE CELL 'sum', in the pinned program and in every row, IS THE sha256 OF THE DUMP (.gsa) THAT YtakihdabbpconaaProg.lean LOADS. Nothing in Lean hashes anything: it is a label: what it is worth is what the hold of that sum in a sandbox is worth. -/
noncomputable def Try.pinned : Pinned := { name := "ytakihdabbpconaa", sum := "98fde134b4f06ec0faef4b3146424535aa4cbe8f5c0dd5c7ce3538a5b632236d", checked := Try.checked }
namespace Rows
def none {H : Type} : Left H := { results := [], args := [] }

/-- 'laws.FnExactBitsText': WHATEVER THE INPUT: true; the input reads as it did. -/
def fnExactBitsTextSpec : ChangeSpec := { name := "fnExactBitsText", fn := fun _ => fun
  | [d] => { results := [.lit (.bool true)], args := [d] }
  | _ => none }
def fnExactBitsTextRow : OpenClaim := { program := "ytakihdabbpconaa", sum := "98fde134b4f06ec0faef4b3146424535aa4cbe8f5c0dd5c7ce3538a5b632236d", func := "loop.example/g00942/laws.FnExactBitsText", spec := "fnExactBitsText", recurses := true, apart := false }
def FnExactBitsTextSaid : Prop := fnExactBitsTextRow.holds Try.pinned (OpenSpec.ofChange fnExactBitsTextSpec)

/-- ITS FALSE NEIGHBOUR: 'it returns false'. Refute it at one input. -/
def fnExactBitsTextWrong : ChangeSpec := { name := "fnExactBitsText", fn := fun _ => fun
  | [d] => { results := [.lit (.bool false)], args := [d] }
  | _ => none }
def FnExactBitsTextWrongFalsely : Prop := fnExactBitsTextRow.holds Try.pinned (OpenSpec.ofChange fnExactBitsTextWrong)

/-- 'laws.FnExactStateNumber': WHATEVER THE INPUT: true; the input reads as it did. -/
def fnExactStateNumberSpec : ChangeSpec := { name := "fnExactStateNumber", fn := fun _ => fun
  | [d] => { results := [.lit (.bool true)], args := [d] }
  | _ => none }
def fnExactStateNumberRow : OpenClaim := { program := "ytakihdabbpconaa", sum := "98fde134b4f06ec0faef4b3146424535aa4cbe8f5c0dd5c7ce3538a5b632236d", func := "loop.example/g00942/laws.FnExactStateNumber", spec := "fnExactStateNumber", apart := false }
def FnExactStateNumberSaid : Prop := fnExactStateNumberRow.holds Try.pinned (OpenSpec.ofChange fnExactStateNumberSpec)

/-- ITS FALSE NEIGHBOUR: 'it returns false'. Refute it at one input. -/
def fnExactStateNumberWrong : ChangeSpec := { name := "fnExactStateNumber", fn := fun _ => fun
  | [d] => { results := [.lit (.bool false)], args := [d] }
  | _ => none }
def FnExactStateNumberWrongFalsely : Prop := fnExactStateNumberRow.holds Try.pinned (OpenSpec.ofChange fnExactStateNumberWrong)

/-- 'laws.FnExactBitsOf': WHATEVER THE INPUT: true; the input reads as it did. -/
def fnExactBitsOfSpec : ChangeSpec := { name := "fnExactBitsOf", fn := fun _ => fun
  | [d] => { results := [.lit (.bool true)], args := [d] }
  | _ => none }
def fnExactBitsOfRow : OpenClaim := { program := "ytakihdabbpconaa", sum := "98fde134b4f06ec0faef4b3146424535aa4cbe8f5c0dd5c7ce3538a5b632236d", func := "loop.example/g00942/laws.FnExactBitsOf", spec := "fnExactBitsOf", apart := false }
def FnExactBitsOfSaid : Prop := fnExactBitsOfRow.holds Try.pinned (OpenSpec.ofChange fnExactBitsOfSpec)

/-- ITS FALSE NEIGHBOUR: 'it returns false'. Refute it at one input. -/
def fnExactBitsOfWrong : ChangeSpec := { name := "fnExactBitsOf", fn := fun _ => fun
  | [d] => { results := [.lit (.bool false)], args := [d] }
  | _ => none }
def FnExactBitsOfWrongFalsely : Prop := fnExactBitsOfRow.holds Try.pinned (OpenSpec.ofChange fnExactBitsOfWrong)

/-- 'laws.FnExactTurnUnit': WHATEVER THE INPUT: true; the input reads as it did. -/
def fnExactTurnUnitSpec : ChangeSpec := { name := "fnExactTurnUnit", fn := fun _ => fun
  | [d1, d2] => { results := [.lit (.bool true)], args := [d1, d2] }
  | _ => none }
def fnExactTurnUnitRow : OpenClaim := { program := "ytakihdabbpconaa", sum := "98fde134b4f06ec0faef4b3146424535aa4cbe8f5c0dd5c7ce3538a5b632236d", func := "loop.example/g00942/laws.FnExactTurnUnit", spec := "fnExactTurnUnit", apart := false }
def FnExactTurnUnitSaid : Prop := fnExactTurnUnitRow.holds Try.pinned (OpenSpec.ofChange fnExactTurnUnitSpec)

/-- ITS FALSE NEIGHBOUR: 'it returns false'. Refute it at one input. -/
def fnExactTurnUnitWrong : ChangeSpec := { name := "fnExactTurnUnit", fn := fun _ => fun
  | [d1, d2] => { results := [.lit (.bool false)], args := [d1, d2] }
  | _ => none }
def FnExactTurnUnitWrongFalsely : Prop := fnExactTurnUnitRow.holds Try.pinned (OpenSpec.ofChange fnExactTurnUnitWrong)

/-- 'laws.FnExactAreStates': WHATEVER THE INPUT: true; the input reads as it did. -/
def fnExactAreStatesSpec : ChangeSpec := { name := "fnExactAreStates", fn := fun _ => fun
  | [d1, d2] => { results := [.lit (.bool true)], args := [d1, d2] }
  | _ => none }
def fnExactAreStatesRow : OpenClaim := { program := "ytakihdabbpconaa", sum := "98fde134b4f06ec0faef4b3146424535aa4cbe8f5c0dd5c7ce3538a5b632236d", func := "loop.example/g00942/laws.FnExactAreStates", spec := "fnExactAreStates", apart := false }
def FnExactAreStatesSaid : Prop := fnExactAreStatesRow.holds Try.pinned (OpenSpec.ofChange fnExactAreStatesSpec)

/-- ITS FALSE NEIGHBOUR: 'it returns false'. Refute it at one input. -/
def fnExactAreStatesWrong : ChangeSpec := { name := "fnExactAreStates", fn := fun _ => fun
  | [d1, d2] => { results := [.lit (.bool false)], args := [d1, d2] }
  | _ => none }
def FnExactAreStatesWrongFalsely : Prop := fnExactAreStatesRow.holds Try.pinned (OpenSpec.ofChange fnExactAreStatesWrong)

/-- 'laws.FnExactUnitsOf': WHATEVER THE INPUT: true; the input reads as it did. -/
def fnExactUnitsOfSpec : ChangeSpec := { name := "fnExactUnitsOf", fn := fun _ => fun
  | [d] => { results := [.lit (.bool true)], args := [d] }
  | _ => none }
def fnExactUnitsOfRow : OpenClaim := { program := "ytakihdabbpconaa", sum := "98fde134b4f06ec0faef4b3146424535aa4cbe8f5c0dd5c7ce3538a5b632236d", func := "loop.example/g00942/laws.FnExactUnitsOf", spec := "fnExactUnitsOf", apart := false }
def FnExactUnitsOfSaid : Prop := fnExactUnitsOfRow.holds Try.pinned (OpenSpec.ofChange fnExactUnitsOfSpec)

/-- ITS FALSE NEIGHBOUR: 'it returns false'. Refute it at one input. -/
def fnExactUnitsOfWrong : ChangeSpec := { name := "fnExactUnitsOf", fn := fun _ => fun
  | [d] => { results := [.lit (.bool false)], args := [d] }
  | _ => none }
def FnExactUnitsOfWrongFalsely : Prop := fnExactUnitsOfRow.holds Try.pinned (OpenSpec.ofChange fnExactUnitsOfWrong)

/-- 'laws.FnExactZeroState': WHATEVER THE INPUT: true; the input reads as it did. -/
def fnExactZeroStateSpec : ChangeSpec := { name := "fnExactZeroState", fn := fun _ => fun
  | [d] => { results := [.lit (.bool true)], args := [d] }
  | _ => none }
def fnExactZeroStateRow : OpenClaim := { program := "ytakihdabbpconaa", sum := "98fde134b4f06ec0faef4b3146424535aa4cbe8f5c0dd5c7ce3538a5b632236d", func := "loop.example/g00942/laws.FnExactZeroState", spec := "fnExactZeroState", apart := false }
def FnExactZeroStateSaid : Prop := fnExactZeroStateRow.holds Try.pinned (OpenSpec.ofChange fnExactZeroStateSpec)

/-- ITS FALSE NEIGHBOUR: 'it returns false'. Refute it at one input. -/
def fnExactZeroStateWrong : ChangeSpec := { name := "fnExactZeroState", fn := fun _ => fun
  | [d] => { results := [.lit (.bool false)], args := [d] }
  | _ => none }
def FnExactZeroStateWrongFalsely : Prop := fnExactZeroStateRow.holds Try.pinned (OpenSpec.ofChange fnExactZeroStateWrong)

/-- 'laws.FnExactBoardInState': WHATEVER THE INPUT: true; the input reads as it did. -/
def fnExactBoardInStateSpec : ChangeSpec := { name := "fnExactBoardInState", fn := fun _ => fun
  | [d1, d2] => { results := [.lit (.bool true)], args := [d1, d2] }
  | _ => none }
def fnExactBoardInStateRow : OpenClaim := { program := "ytakihdabbpconaa", sum := "98fde134b4f06ec0faef4b3146424535aa4cbe8f5c0dd5c7ce3538a5b632236d", func := "loop.example/g00942/laws.FnExactBoardInState", spec := "fnExactBoardInState", apart := false }
def FnExactBoardInStateSaid : Prop := fnExactBoardInStateRow.holds Try.pinned (OpenSpec.ofChange fnExactBoardInStateSpec)

/-- ITS FALSE NEIGHBOUR: 'it returns false'. Refute it at one input. -/
def fnExactBoardInStateWrong : ChangeSpec := { name := "fnExactBoardInState", fn := fun _ => fun
  | [d1, d2] => { results := [.lit (.bool false)], args := [d1, d2] }
  | _ => none }
def FnExactBoardInStateWrongFalsely : Prop := fnExactBoardInStateRow.holds Try.pinned (OpenSpec.ofChange fnExactBoardInStateWrong)

/-- 'laws.FnExactTurnedUnits': WHATEVER THE INPUT: true; the input reads as it did. -/
def fnExactTurnedUnitsSpec : ChangeSpec := { name := "fnExactTurnedUnits", fn := fun _ => fun
  | [d1, d2] => { results := [.lit (.bool true)], args := [d1, d2] }
  | _ => none }
def fnExactTurnedUnitsRow : OpenClaim := { program := "ytakihdabbpconaa", sum := "98fde134b4f06ec0faef4b3146424535aa4cbe8f5c0dd5c7ce3538a5b632236d", func := "loop.example/g00942/laws.FnExactTurnedUnits", spec := "fnExactTurnedUnits", apart := false }
def FnExactTurnedUnitsSaid : Prop := fnExactTurnedUnitsRow.holds Try.pinned (OpenSpec.ofChange fnExactTurnedUnitsSpec)

/-- ITS FALSE NEIGHBOUR: 'it returns false'. Refute it at one input. -/
def fnExactTurnedUnitsWrong : ChangeSpec := { name := "fnExactTurnedUnits", fn := fun _ => fun
  | [d1, d2] => { results := [.lit (.bool false)], args := [d1, d2] }
  | _ => none }
def FnExactTurnedUnitsWrongFalsely : Prop := fnExactTurnedUnitsRow.holds Try.pinned (OpenSpec.ofChange fnExactTurnedUnitsWrong)

/-- 'laws.FnExactBoardWithBits': WHATEVER THE INPUT: true; the input reads as it did. -/
def fnExactBoardWithBitsSpec : ChangeSpec := { name := "fnExactBoardWithBits", fn := fun _ => fun
  | [d1, d2] => { results := [.lit (.bool true)], args := [d1, d2] }
  | _ => none }
def fnExactBoardWithBitsRow : OpenClaim := { program := "ytakihdabbpconaa", sum := "98fde134b4f06ec0faef4b3146424535aa4cbe8f5c0dd5c7ce3538a5b632236d", func := "loop.example/g00942/laws.FnExactBoardWithBits", spec := "fnExactBoardWithBits", apart := false }
def FnExactBoardWithBitsSaid : Prop := fnExactBoardWithBitsRow.holds Try.pinned (OpenSpec.ofChange fnExactBoardWithBitsSpec)

/-- ITS FALSE NEIGHBOUR: 'it returns false'. Refute it at one input. -/
def fnExactBoardWithBitsWrong : ChangeSpec := { name := "fnExactBoardWithBits", fn := fun _ => fun
  | [d1, d2] => { results := [.lit (.bool false)], args := [d1, d2] }
  | _ => none }
def FnExactBoardWithBitsWrongFalsely : Prop := fnExactBoardWithBitsRow.holds Try.pinned (OpenSpec.ofChange fnExactBoardWithBitsWrong)

/- THE SECOND FORM. 'bulk': how many values and letters a reading holds, each counted each time it is reached (what is shared counts as often as it is met; a slice's spare places count too). A statement '..UptoSaid' is the law's where the arguments, and the package variables that the reading takes, are together of bulk at most 1048576: NARROWER than '..Said'. Prove '..Said' where nothing that the law and all that it calls make is longer than what came in: it says more and counts as full. Else prove '..UptoSaid'. A law counts once. -/
mutual
def uptoBulk {H : Type} : DataW H → Nat
  | .lit (.string bytes) => bytes.length + 1
  | .lit _ => 1
  | .nil => 1
  | .ptr d => uptoBulk d + 1
  | .slice elems spare => uptoBulkAll elems + uptoBulkAll spare + 1
  | .agg parts => uptoBulkAll parts + 1
  | .iface _ d => uptoBulk d + 1
  | .map entries => uptoBulkEntries entries + 1
  | .held _ => 1
def uptoBulkAll {H : Type} : List (DataW H) → Nat
  | [] => 0
  | d :: r => uptoBulk d + uptoBulkAll r
def uptoBulkEntries {H : Type} : List (Lit × DataW H) → Nat
  | [] => 0
  | x :: r => uptoBulkEntry x + uptoBulkEntries r
def uptoBulkEntry {H : Type} : Lit × DataW H → Nat
  | (.string bytes, d) => bytes.length + uptoBulk d + 1
  | (_, d) => uptoBulk d + 1
 end
def uptoSmall : (H : Type) → List (DataW H) → Bool := fun _ ds => decide (uptoBulkAll ds ≤ 1048576)
def OpenSpec.upto (s : _root_.Go.ChangeSpec) : _root_.Go.OpenSpec := { _root_.Go.OpenSpec.ofChange s with cond := some uptoSmall }

/-- 'laws.FnExactBitsText', WHERE WHAT IT READS IS OF BULK AT MOST 1048576: true; the input reads as it did. -/
def fnExactBitsTextUptoRow : OpenClaim := { program := "ytakihdabbpconaa", sum := "98fde134b4f06ec0faef4b3146424535aa4cbe8f5c0dd5c7ce3538a5b632236d", func := "loop.example/g00942/laws.FnExactBitsText", spec := "fnExactBitsText", recurses := true, apart := false, narrowed := true }
def FnExactBitsTextUptoSaid : Prop := fnExactBitsTextUptoRow.holds Try.pinned (OpenSpec.upto fnExactBitsTextSpec)

/-- 'laws.FnExactStateNumber', WHERE WHAT IT READS IS OF BULK AT MOST 1048576: true; the input reads as it did. -/
def fnExactStateNumberUptoRow : OpenClaim := { program := "ytakihdabbpconaa", sum := "98fde134b4f06ec0faef4b3146424535aa4cbe8f5c0dd5c7ce3538a5b632236d", func := "loop.example/g00942/laws.FnExactStateNumber", spec := "fnExactStateNumber", apart := false, narrowed := true }
def FnExactStateNumberUptoSaid : Prop := fnExactStateNumberUptoRow.holds Try.pinned (OpenSpec.upto fnExactStateNumberSpec)

/-- 'laws.FnExactBitsOf', WHERE WHAT IT READS IS OF BULK AT MOST 1048576: true; the input reads as it did. -/
def fnExactBitsOfUptoRow : OpenClaim := { program := "ytakihdabbpconaa", sum := "98fde134b4f06ec0faef4b3146424535aa4cbe8f5c0dd5c7ce3538a5b632236d", func := "loop.example/g00942/laws.FnExactBitsOf", spec := "fnExactBitsOf", apart := false, narrowed := true }
def FnExactBitsOfUptoSaid : Prop := fnExactBitsOfUptoRow.holds Try.pinned (OpenSpec.upto fnExactBitsOfSpec)

/-- 'laws.FnExactTurnUnit', WHERE WHAT IT READS IS OF BULK AT MOST 1048576: true; the input reads as it did. -/
def fnExactTurnUnitUptoRow : OpenClaim := { program := "ytakihdabbpconaa", sum := "98fde134b4f06ec0faef4b3146424535aa4cbe8f5c0dd5c7ce3538a5b632236d", func := "loop.example/g00942/laws.FnExactTurnUnit", spec := "fnExactTurnUnit", apart := false, narrowed := true }
def FnExactTurnUnitUptoSaid : Prop := fnExactTurnUnitUptoRow.holds Try.pinned (OpenSpec.upto fnExactTurnUnitSpec)

/-- 'laws.FnExactAreStates', WHERE WHAT IT READS IS OF BULK AT MOST 1048576: true; the input reads as it did. -/
def fnExactAreStatesUptoRow : OpenClaim := { program := "ytakihdabbpconaa", sum := "98fde134b4f06ec0faef4b3146424535aa4cbe8f5c0dd5c7ce3538a5b632236d", func := "loop.example/g00942/laws.FnExactAreStates", spec := "fnExactAreStates", apart := false, narrowed := true }
def FnExactAreStatesUptoSaid : Prop := fnExactAreStatesUptoRow.holds Try.pinned (OpenSpec.upto fnExactAreStatesSpec)

/-- 'laws.FnExactUnitsOf', WHERE WHAT IT READS IS OF BULK AT MOST 1048576: true; the input reads as it did. -/
def fnExactUnitsOfUptoRow : OpenClaim := { program := "ytakihdabbpconaa", sum := "98fde134b4f06ec0faef4b3146424535aa4cbe8f5c0dd5c7ce3538a5b632236d", func := "loop.example/g00942/laws.FnExactUnitsOf", spec := "fnExactUnitsOf", apart := false, narrowed := true }
def FnExactUnitsOfUptoSaid : Prop := fnExactUnitsOfUptoRow.holds Try.pinned (OpenSpec.upto fnExactUnitsOfSpec)

/-- 'laws.FnExactZeroState', WHERE WHAT IT READS IS OF BULK AT MOST 1048576: true; the input reads as it did. -/
def fnExactZeroStateUptoRow : OpenClaim := { program := "ytakihdabbpconaa", sum := "98fde134b4f06ec0faef4b3146424535aa4cbe8f5c0dd5c7ce3538a5b632236d", func := "loop.example/g00942/laws.FnExactZeroState", spec := "fnExactZeroState", apart := false, narrowed := true }
def FnExactZeroStateUptoSaid : Prop := fnExactZeroStateUptoRow.holds Try.pinned (OpenSpec.upto fnExactZeroStateSpec)

/-- 'laws.FnExactBoardInState', WHERE WHAT IT READS IS OF BULK AT MOST 1048576: true; the input reads as it did. -/
def fnExactBoardInStateUptoRow : OpenClaim := { program := "ytakihdabbpconaa", sum := "98fde134b4f06ec0faef4b3146424535aa4cbe8f5c0dd5c7ce3538a5b632236d", func := "loop.example/g00942/laws.FnExactBoardInState", spec := "fnExactBoardInState", apart := false, narrowed := true }
def FnExactBoardInStateUptoSaid : Prop := fnExactBoardInStateUptoRow.holds Try.pinned (OpenSpec.upto fnExactBoardInStateSpec)

/-- 'laws.FnExactTurnedUnits', WHERE WHAT IT READS IS OF BULK AT MOST 1048576: true; the input reads as it did. -/
def fnExactTurnedUnitsUptoRow : OpenClaim := { program := "ytakihdabbpconaa", sum := "98fde134b4f06ec0faef4b3146424535aa4cbe8f5c0dd5c7ce3538a5b632236d", func := "loop.example/g00942/laws.FnExactTurnedUnits", spec := "fnExactTurnedUnits", apart := false, narrowed := true }
def FnExactTurnedUnitsUptoSaid : Prop := fnExactTurnedUnitsUptoRow.holds Try.pinned (OpenSpec.upto fnExactTurnedUnitsSpec)

/-- 'laws.FnExactBoardWithBits', WHERE WHAT IT READS IS OF BULK AT MOST 1048576: true; the input reads as it did. -/
def fnExactBoardWithBitsUptoRow : OpenClaim := { program := "ytakihdabbpconaa", sum := "98fde134b4f06ec0faef4b3146424535aa4cbe8f5c0dd5c7ce3538a5b632236d", func := "loop.example/g00942/laws.FnExactBoardWithBits", spec := "fnExactBoardWithBits", apart := false, narrowed := true }
def FnExactBoardWithBitsUptoSaid : Prop := fnExactBoardWithBitsUptoRow.holds Try.pinned (OpenSpec.upto fnExactBoardWithBitsSpec)

end Rows
end Go.Proofs.Ytakihdabbpconaa
