/-
  No cell of these rows narrows 'for every input' (looked for: loops, veiled, ifaces, maps, wideKeys, modest, calm, conditions, laid).
  DERIVED. THE GIVEN ROWS OF THIS SEAT. 10 by the template 'for every input the law returns true; each argument reads behind the call as it read before'; 0 by the template 'total and deterministic' (their statements: YtbpfdbjnnlmdjaaTotals.lean).
  GIVEN WITH THE SEED: the statements are not yours to turn. If you find one false, say at which input.
  Laid BY PROGRAM, IN A SANDBOX (cutbox-rows.mjs): the forced cells as the released guide's own fill.sh prints them over the translation 0657a346dcdcae08… (all of the seat's roots in one cut). By AI agents, Wed Nov 11 2026. No macro, syntax, notation, axiom, sorry.
-/
import Derived.Test.YtbpfdbjnnlmdjaaChecked
import GoSem.Claim
import GoSem.ClaimJoined
import GoSem.ClaimMapViews
import Derived.JoinedTies
import Derived.KernelRfl
namespace Go.Proofs.Ytbpfdbjnnlmdjaa
/- THE CELL 'sum', in the pinned program and in every row, IS THE sha256 OF THE DUMP (.gsa) THAT YtbpfdbjnnlmdjaaProg.lean LOADS. Nothing in Lean hashes anything: it is a label: what it is worth is what the hold of that sum in a sandbox is worth. -/
noncomputable def Try.pinned : Pinned := { name := "ytbpfdbjnnlmdjaa", sum := "0657a346dcdcae082b718eb5a71ee11eec19dcbf8732785a8d83b065f8a77193", checked := Try.checked }
namespace Rows
def none {H : Type} : Left H := { results := [], args := [] }

/-- 'laws.FnExactNextNumber': WHATEVER THE INPUT: true; the input reads as it did. -/
def fnExactNextNumberSpec : ChangeSpec := { name := "fnExactNextNumber", fn := fun _ => fun
  | [d1, d2] => { results := [.lit (.bool true)], args := [d1, d2] }
  | _ => none }
def fnExactNextNumberRow : OpenClaim := { program := "ytbpfdbjnnlmdjaa", sum := "0657a346dcdcae082b718eb5a71ee11eec19dcbf8732785a8d83b065f8a77193", func := "loop.example/g00942/laws.FnExactNextNumber", spec := "fnExactNextNumber", apart := false }
def FnExactNextNumberSaid : Prop := fnExactNextNumberRow.holds Try.pinned (OpenSpec.ofChange fnExactNextNumberSpec)

/-- ITS FALSE NEIGHBOUR: 'it returns false'. Refute it at one input. -/
def fnExactNextNumberWrong : ChangeSpec := { name := "fnExactNextNumber", fn := fun _ => fun
  | [d1, d2] => { results := [.lit (.bool false)], args := [d1, d2] }
  | _ => none }
def FnExactNextNumberWrongFalsely : Prop := fnExactNextNumberRow.holds Try.pinned (OpenSpec.ofChange fnExactNextNumberWrong)

/-- 'laws.FnExactNeverMixes': WHATEVER THE INPUT: true; the input reads as it did. -/
def fnExactNeverMixesSpec : ChangeSpec := { name := "fnExactNeverMixes", fn := fun _ => fun
  | [d1, d2] => { results := [.lit (.bool true)], args := [d1, d2] }
  | _ => none }
def fnExactNeverMixesRow : OpenClaim := { program := "ytbpfdbjnnlmdjaa", sum := "0657a346dcdcae082b718eb5a71ee11eec19dcbf8732785a8d83b065f8a77193", func := "loop.example/g00942/laws.FnExactNeverMixes", spec := "fnExactNeverMixes", apart := false }
def FnExactNeverMixesSaid : Prop := fnExactNeverMixesRow.holds Try.pinned (OpenSpec.ofChange fnExactNeverMixesSpec)

/-- ITS FALSE NEIGHBOUR: 'it returns false'. Refute it at one input. -/
def fnExactNeverMixesWrong : ChangeSpec := { name := "fnExactNeverMixes", fn := fun _ => fun
  | [d1, d2] => { results := [.lit (.bool false)], args := [d1, d2] }
  | _ => none }
def FnExactNeverMixesWrongFalsely : Prop := fnExactNeverMixesRow.holds Try.pinned (OpenSpec.ofChange fnExactNeverMixesWrong)

/-- 'laws.FnExactOrbitCycle': WHATEVER THE INPUT: true; the input reads as it did. -/
def fnExactOrbitCycleSpec : ChangeSpec := { name := "fnExactOrbitCycle", fn := fun _ => fun
  | [d1, d2] => { results := [.lit (.bool true)], args := [d1, d2] }
  | _ => none }
def fnExactOrbitCycleRow : OpenClaim := { program := "ytbpfdbjnnlmdjaa", sum := "0657a346dcdcae082b718eb5a71ee11eec19dcbf8732785a8d83b065f8a77193", func := "loop.example/g00942/laws.FnExactOrbitCycle", spec := "fnExactOrbitCycle", apart := false }
def FnExactOrbitCycleSaid : Prop := fnExactOrbitCycleRow.holds Try.pinned (OpenSpec.ofChange fnExactOrbitCycleSpec)

/-- ITS FALSE NEIGHBOUR: 'it returns false'. Refute it at one input. -/
def fnExactOrbitCycleWrong : ChangeSpec := { name := "fnExactOrbitCycle", fn := fun _ => fun
  | [d1, d2] => { results := [.lit (.bool false)], args := [d1, d2] }
  | _ => none }
def FnExactOrbitCycleWrongFalsely : Prop := fnExactOrbitCycleRow.holds Try.pinned (OpenSpec.ofChange fnExactOrbitCycleWrong)

/-- 'laws.FnExactNumberAfter': WHATEVER THE INPUT: true; the input reads as it did. -/
def fnExactNumberAfterSpec : ChangeSpec := { name := "fnExactNumberAfter", fn := fun _ => fun
  | [d1, d2, d3] => { results := [.lit (.bool true)], args := [d1, d2, d3] }
  | _ => none }
def fnExactNumberAfterRow : OpenClaim := { program := "ytbpfdbjnnlmdjaa", sum := "0657a346dcdcae082b718eb5a71ee11eec19dcbf8732785a8d83b065f8a77193", func := "loop.example/g00942/laws.FnExactNumberAfter", spec := "fnExactNumberAfter", apart := false }
def FnExactNumberAfterSaid : Prop := fnExactNumberAfterRow.holds Try.pinned (OpenSpec.ofChange fnExactNumberAfterSpec)

/-- ITS FALSE NEIGHBOUR: 'it returns false'. Refute it at one input. -/
def fnExactNumberAfterWrong : ChangeSpec := { name := "fnExactNumberAfter", fn := fun _ => fun
  | [d1, d2, d3] => { results := [.lit (.bool false)], args := [d1, d2, d3] }
  | _ => none }
def FnExactNumberAfterWrongFalsely : Prop := fnExactNumberAfterRow.holds Try.pinned (OpenSpec.ofChange fnExactNumberAfterWrong)

/-- 'laws.FnExactOrbitOf': WHATEVER THE INPUT: true; the input reads as it did. -/
def fnExactOrbitOfSpec : ChangeSpec := { name := "fnExactOrbitOf", fn := fun _ => fun
  | [d1, d2] => { results := [.lit (.bool true)], args := [d1, d2] }
  | _ => none }
def fnExactOrbitOfRow : OpenClaim := { program := "ytbpfdbjnnlmdjaa", sum := "0657a346dcdcae082b718eb5a71ee11eec19dcbf8732785a8d83b065f8a77193", func := "loop.example/g00942/laws.FnExactOrbitOf", spec := "fnExactOrbitOf", apart := false }
def FnExactOrbitOfSaid : Prop := fnExactOrbitOfRow.holds Try.pinned (OpenSpec.ofChange fnExactOrbitOfSpec)

/-- ITS FALSE NEIGHBOUR: 'it returns false'. Refute it at one input. -/
def fnExactOrbitOfWrong : ChangeSpec := { name := "fnExactOrbitOf", fn := fun _ => fun
  | [d1, d2] => { results := [.lit (.bool false)], args := [d1, d2] }
  | _ => none }
def FnExactOrbitOfWrongFalsely : Prop := fnExactOrbitOfRow.holds Try.pinned (OpenSpec.ofChange fnExactOrbitOfWrong)

/-- 'laws.FnExactWayTo': WHATEVER THE INPUT: true; the input reads as it did. -/
def fnExactWayToSpec : ChangeSpec := { name := "fnExactWayTo", fn := fun _ => fun
  | [d1, d2, d3] => { results := [.lit (.bool true)], args := [d1, d2, d3] }
  | _ => none }
def fnExactWayToRow : OpenClaim := { program := "ytbpfdbjnnlmdjaa", sum := "0657a346dcdcae082b718eb5a71ee11eec19dcbf8732785a8d83b065f8a77193", func := "loop.example/g00942/laws.FnExactWayTo", spec := "fnExactWayTo", apart := false }
def FnExactWayToSaid : Prop := fnExactWayToRow.holds Try.pinned (OpenSpec.ofChange fnExactWayToSpec)

/-- ITS FALSE NEIGHBOUR: 'it returns false'. Refute it at one input. -/
def fnExactWayToWrong : ChangeSpec := { name := "fnExactWayTo", fn := fun _ => fun
  | [d1, d2, d3] => { results := [.lit (.bool false)], args := [d1, d2, d3] }
  | _ => none }
def FnExactWayToWrongFalsely : Prop := fnExactWayToRow.holds Try.pinned (OpenSpec.ofChange fnExactWayToWrong)

/-- 'laws.FnExactNeverReached': WHATEVER THE INPUT: true; the input reads as it did. -/
def fnExactNeverReachedSpec : ChangeSpec := { name := "fnExactNeverReached", fn := fun _ => fun
  | [d1, d2] => { results := [.lit (.bool true)], args := [d1, d2] }
  | _ => none }
def fnExactNeverReachedRow : OpenClaim := { program := "ytbpfdbjnnlmdjaa", sum := "0657a346dcdcae082b718eb5a71ee11eec19dcbf8732785a8d83b065f8a77193", func := "loop.example/g00942/laws.FnExactNeverReached", spec := "fnExactNeverReached", apart := false }
def FnExactNeverReachedSaid : Prop := fnExactNeverReachedRow.holds Try.pinned (OpenSpec.ofChange fnExactNeverReachedSpec)

/-- ITS FALSE NEIGHBOUR: 'it returns false'. Refute it at one input. -/
def fnExactNeverReachedWrong : ChangeSpec := { name := "fnExactNeverReached", fn := fun _ => fun
  | [d1, d2] => { results := [.lit (.bool false)], args := [d1, d2] }
  | _ => none }
def FnExactNeverReachedWrongFalsely : Prop := fnExactNeverReachedRow.holds Try.pinned (OpenSpec.ofChange fnExactNeverReachedWrong)

/-- 'laws.FnExactReachedNumbers': WHATEVER THE INPUT: true; the input reads as it did. -/
def fnExactReachedNumbersSpec : ChangeSpec := { name := "fnExactReachedNumbers", fn := fun _ => fun
  | [d1, d2] => { results := [.lit (.bool true)], args := [d1, d2] }
  | _ => none }
def fnExactReachedNumbersRow : OpenClaim := { program := "ytbpfdbjnnlmdjaa", sum := "0657a346dcdcae082b718eb5a71ee11eec19dcbf8732785a8d83b065f8a77193", func := "loop.example/g00942/laws.FnExactReachedNumbers", spec := "fnExactReachedNumbers", apart := false }
def FnExactReachedNumbersSaid : Prop := fnExactReachedNumbersRow.holds Try.pinned (OpenSpec.ofChange fnExactReachedNumbersSpec)

/-- ITS FALSE NEIGHBOUR: 'it returns false'. Refute it at one input. -/
def fnExactReachedNumbersWrong : ChangeSpec := { name := "fnExactReachedNumbers", fn := fun _ => fun
  | [d1, d2] => { results := [.lit (.bool false)], args := [d1, d2] }
  | _ => none }
def FnExactReachedNumbersWrongFalsely : Prop := fnExactReachedNumbersRow.holds Try.pinned (OpenSpec.ofChange fnExactReachedNumbersWrong)

/-- 'laws.FnExactEndsIn': WHATEVER THE INPUT: true; the input reads as it did. -/
def fnExactEndsInSpec : ChangeSpec := { name := "fnExactEndsIn", fn := fun _ => fun
  | [d1, d2] => { results := [.lit (.bool true)], args := [d1, d2] }
  | _ => none }
def fnExactEndsInRow : OpenClaim := { program := "ytbpfdbjnnlmdjaa", sum := "0657a346dcdcae082b718eb5a71ee11eec19dcbf8732785a8d83b065f8a77193", func := "loop.example/g00942/laws.FnExactEndsIn", spec := "fnExactEndsIn", apart := false }
def FnExactEndsInSaid : Prop := fnExactEndsInRow.holds Try.pinned (OpenSpec.ofChange fnExactEndsInSpec)

/-- ITS FALSE NEIGHBOUR: 'it returns false'. Refute it at one input. -/
def fnExactEndsInWrong : ChangeSpec := { name := "fnExactEndsIn", fn := fun _ => fun
  | [d1, d2] => { results := [.lit (.bool false)], args := [d1, d2] }
  | _ => none }
def FnExactEndsInWrongFalsely : Prop := fnExactEndsInRow.holds Try.pinned (OpenSpec.ofChange fnExactEndsInWrong)

/-- 'laws.FnExactAlwaysArrives': WHATEVER THE INPUT: true; the input reads as it did. -/
def fnExactAlwaysArrivesSpec : ChangeSpec := { name := "fnExactAlwaysArrives", fn := fun _ => fun
  | [d1, d2] => { results := [.lit (.bool true)], args := [d1, d2] }
  | _ => none }
def fnExactAlwaysArrivesRow : OpenClaim := { program := "ytbpfdbjnnlmdjaa", sum := "0657a346dcdcae082b718eb5a71ee11eec19dcbf8732785a8d83b065f8a77193", func := "loop.example/g00942/laws.FnExactAlwaysArrives", spec := "fnExactAlwaysArrives", apart := false }
def FnExactAlwaysArrivesSaid : Prop := fnExactAlwaysArrivesRow.holds Try.pinned (OpenSpec.ofChange fnExactAlwaysArrivesSpec)

/-- ITS FALSE NEIGHBOUR: 'it returns false'. Refute it at one input. -/
def fnExactAlwaysArrivesWrong : ChangeSpec := { name := "fnExactAlwaysArrives", fn := fun _ => fun
  | [d1, d2] => { results := [.lit (.bool false)], args := [d1, d2] }
  | _ => none }
def FnExactAlwaysArrivesWrongFalsely : Prop := fnExactAlwaysArrivesRow.holds Try.pinned (OpenSpec.ofChange fnExactAlwaysArrivesWrong)

/- THE SECOND FORM. 'bulk': how many values and letters a reading holds, each counted each time it is reached (what is shared counts as often as it is met; a slice's spare places count too). A statement '..UptoSaid' is the law's where the arguments, and the package variables that the reading takes, are together of bulk at most 1048576: NARROWER than '..Said'. Prove '..Said' where nothing that the law and all that it calls make is longer than what came in: it says more and counts as full. Else prove '..UptoSaid'. A law counts once. -/
mutual
def uptoBulk {H : Type} : DataW H → Nat
  | .lit (.string bytes) => bytes.length + 1
  | .lit _ => 1
  | .nil => 1
  | .ptr d => uptoBulk d + 1
  | .slice elems spare => uptoBulkAll elems + uptoBulkAll spare + 1
  | .agg parts => uptoBulkAll parts + 1
  | .iface _ d => uptoBulk d + 1
  | .map entries => uptoBulkEntries entries + 1
  | .held _ => 1
def uptoBulkAll {H : Type} : List (DataW H) → Nat
  | [] => 0
  | d :: r => uptoBulk d + uptoBulkAll r
def uptoBulkEntries {H : Type} : List (Lit × DataW H) → Nat
  | [] => 0
  | x :: r => uptoBulkEntry x + uptoBulkEntries r
def uptoBulkEntry {H : Type} : Lit × DataW H → Nat
  | (.string bytes, d) => bytes.length + uptoBulk d + 1
  | (_, d) => uptoBulk d + 1
 end
def uptoSmall : (H : Type) → List (DataW H) → Bool := fun _ ds => decide (uptoBulkAll ds ≤ 1048576)
def OpenSpec.upto (s : _root_.Go.ChangeSpec) : _root_.Go.OpenSpec := { _root_.Go.OpenSpec.ofChange s with cond := some uptoSmall }

/-- 'laws.FnExactNextNumber', WHERE WHAT IT READS IS OF BULK AT MOST 1048576: true; the input reads as it did. -/
def fnExactNextNumberUptoRow : OpenClaim := { program := "ytbpfdbjnnlmdjaa", sum := "0657a346dcdcae082b718eb5a71ee11eec19dcbf8732785a8d83b065f8a77193", func := "loop.example/g00942/laws.FnExactNextNumber", spec := "fnExactNextNumber", apart := false, narrowed := true }
def FnExactNextNumberUptoSaid : Prop := fnExactNextNumberUptoRow.holds Try.pinned (OpenSpec.upto fnExactNextNumberSpec)

/-- 'laws.FnExactNeverMixes', WHERE WHAT IT READS IS OF BULK AT MOST 1048576: true; the input reads as it did. -/
def fnExactNeverMixesUptoRow : OpenClaim := { program := "ytbpfdbjnnlmdjaa", sum := "0657a346dcdcae082b718eb5a71ee11eec19dcbf8732785a8d83b065f8a77193", func := "loop.example/g00942/laws.FnExactNeverMixes", spec := "fnExactNeverMixes", apart := false, narrowed := true }
def FnExactNeverMixesUptoSaid : Prop := fnExactNeverMixesUptoRow.holds Try.pinned (OpenSpec.upto fnExactNeverMixesSpec)

/-- 'laws.FnExactOrbitCycle', WHERE WHAT IT READS IS OF BULK AT MOST 1048576: true; the input reads as it did. -/
def fnExactOrbitCycleUptoRow : OpenClaim := { program := "ytbpfdbjnnlmdjaa", sum := "0657a346dcdcae082b718eb5a71ee11eec19dcbf8732785a8d83b065f8a77193", func := "loop.example/g00942/laws.FnExactOrbitCycle", spec := "fnExactOrbitCycle", apart := false, narrowed := true }
def FnExactOrbitCycleUptoSaid : Prop := fnExactOrbitCycleUptoRow.holds Try.pinned (OpenSpec.upto fnExactOrbitCycleSpec)

/-- 'laws.FnExactNumberAfter', WHERE WHAT IT READS IS OF BULK AT MOST 1048576: true; the input reads as it did. -/
def fnExactNumberAfterUptoRow : OpenClaim := { program := "ytbpfdbjnnlmdjaa", sum := "0657a346dcdcae082b718eb5a71ee11eec19dcbf8732785a8d83b065f8a77193", func := "loop.example/g00942/laws.FnExactNumberAfter", spec := "fnExactNumberAfter", apart := false, narrowed := true }
def FnExactNumberAfterUptoSaid : Prop := fnExactNumberAfterUptoRow.holds Try.pinned (OpenSpec.upto fnExactNumberAfterSpec)

/-- 'laws.FnExactOrbitOf', WHERE WHAT IT READS IS OF BULK AT MOST 1048576: true; the input reads as it did. -/
def fnExactOrbitOfUptoRow : OpenClaim := { program := "ytbpfdbjnnlmdjaa", sum := "0657a346dcdcae082b718eb5a71ee11eec19dcbf8732785a8d83b065f8a77193", func := "loop.example/g00942/laws.FnExactOrbitOf", spec := "fnExactOrbitOf", apart := false, narrowed := true }
def FnExactOrbitOfUptoSaid : Prop := fnExactOrbitOfUptoRow.holds Try.pinned (OpenSpec.upto fnExactOrbitOfSpec)

/-- 'laws.FnExactWayTo', WHERE WHAT IT READS IS OF BULK AT MOST 1048576: true; the input reads as it did. -/
def fnExactWayToUptoRow : OpenClaim := { program := "ytbpfdbjnnlmdjaa", sum := "0657a346dcdcae082b718eb5a71ee11eec19dcbf8732785a8d83b065f8a77193", func := "loop.example/g00942/laws.FnExactWayTo", spec := "fnExactWayTo", apart := false, narrowed := true }
def FnExactWayToUptoSaid : Prop := fnExactWayToUptoRow.holds Try.pinned (OpenSpec.upto fnExactWayToSpec)

/-- 'laws.FnExactNeverReached', WHERE WHAT IT READS IS OF BULK AT MOST 1048576: true; the input reads as it did. -/
def fnExactNeverReachedUptoRow : OpenClaim := { program := "ytbpfdbjnnlmdjaa", sum := "0657a346dcdcae082b718eb5a71ee11eec19dcbf8732785a8d83b065f8a77193", func := "loop.example/g00942/laws.FnExactNeverReached", spec := "fnExactNeverReached", apart := false, narrowed := true }
def FnExactNeverReachedUptoSaid : Prop := fnExactNeverReachedUptoRow.holds Try.pinned (OpenSpec.upto fnExactNeverReachedSpec)

/-- 'laws.FnExactReachedNumbers', WHERE WHAT IT READS IS OF BULK AT MOST 1048576: true; the input reads as it did. -/
def fnExactReachedNumbersUptoRow : OpenClaim := { program := "ytbpfdbjnnlmdjaa", sum := "0657a346dcdcae082b718eb5a71ee11eec19dcbf8732785a8d83b065f8a77193", func := "loop.example/g00942/laws.FnExactReachedNumbers", spec := "fnExactReachedNumbers", apart := false, narrowed := true }
def FnExactReachedNumbersUptoSaid : Prop := fnExactReachedNumbersUptoRow.holds Try.pinned (OpenSpec.upto fnExactReachedNumbersSpec)

/-- 'laws.FnExactEndsIn', WHERE WHAT IT READS IS OF BULK AT MOST 1048576: true; the input reads as it did. -/
def fnExactEndsInUptoRow : OpenClaim := { program := "ytbpfdbjnnlmdjaa", sum := "0657a346dcdcae082b718eb5a71ee11eec19dcbf8732785a8d83b065f8a77193", func := "loop.example/g00942/laws.FnExactEndsIn", spec := "fnExactEndsIn", apart := false, narrowed := true }
def FnExactEndsInUptoSaid : Prop := fnExactEndsInUptoRow.holds Try.pinned (OpenSpec.upto fnExactEndsInSpec)

/-- 'laws.FnExactAlwaysArrives', WHERE WHAT IT READS IS OF BULK AT MOST 1048576: true; the input reads as it did. -/
def fnExactAlwaysArrivesUptoRow : OpenClaim := { program := "ytbpfdbjnnlmdjaa", sum := "0657a346dcdcae082b718eb5a71ee11eec19dcbf8732785a8d83b065f8a77193", func := "loop.example/g00942/laws.FnExactAlwaysArrives", spec := "fnExactAlwaysArrives", apart := false, narrowed := true }
def FnExactAlwaysArrivesUptoSaid : Prop := fnExactAlwaysArrivesUptoRow.holds Try.pinned (OpenSpec.upto fnExactAlwaysArrivesSpec)

end Rows
end Go.Proofs.Ytbpfdbjnnlmdjaa
