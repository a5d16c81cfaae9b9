/-
  No cell of these rows narrows 'for every input' (looked for: loops, veiled, ifaces, maps, wideKeys, modest, calm, conditions, laid).
  DERIVED. THE GIVEN ROWS OF THIS SEAT. 9 by the template 'for every input the law returns true; each argument reads behind the call as it read before'; 0 by the template 'total and deterministic' (their statements: YtppgfgklnfpgdaaTotals.lean).
  GIVEN WITH THE SEED: the statements are not yours to turn. If you find one false, say at which input.
  Laid BY PROGRAM, IN A SANDBOX (cutbox-rows.mjs): the forced cells as the released guide's own fill.sh prints them over the translation 33a1c3c4cb1ed367… (all of the seat's roots in one cut). By AI agents, Wed Nov 11 2026. No macro, syntax, notation, axiom, sorry.
-/
import Derived.Test.YtppgfgklnfpgdaaChecked
import GoSem.Claim
import GoSem.ClaimJoined
import GoSem.ClaimMapViews
import Derived.JoinedTies
import Derived.KernelRfl
namespace Go.Proofs.Ytppgfgklnfpgdaa
/- THE CELL 'sum', in the pinned program and in every row, IS THE sha256 OF THE DUMP (.gsa) THAT YtppgfgklnfpgdaaProg.lean LOADS. Nothing in Lean hashes anything: it is a label: what it is worth is what the hold of that sum in a sandbox is worth. -/
noncomputable def Try.pinned : Pinned := { name := "ytppgfgklnfpgdaa", sum := "33a1c3c4cb1ed367feba5a8943909b40f659285043978a6e51265627b3ede790", checked := Try.checked }
namespace Rows
def none {H : Type} : Left H := { results := [], args := [] }

/-- 'laws.FnExactIsLoadCase': WHATEVER THE INPUT: true; the input reads as it did. -/
def fnExactIsLoadCaseSpec : ChangeSpec := { name := "fnExactIsLoadCase", fn := fun _ => fun
  | [d] => { results := [.lit (.bool true)], args := [d] }
  | _ => none }
def fnExactIsLoadCaseRow : OpenClaim := { program := "ytppgfgklnfpgdaa", sum := "33a1c3c4cb1ed367feba5a8943909b40f659285043978a6e51265627b3ede790", func := "loop.example/g00935/laws.FnExactIsLoadCase", spec := "fnExactIsLoadCase", apart := false }
def FnExactIsLoadCaseSaid : Prop := fnExactIsLoadCaseRow.holds Try.pinned (OpenSpec.ofChange fnExactIsLoadCaseSpec)

/-- ITS FALSE NEIGHBOUR: 'it returns false'. Refute it at one input. -/
def fnExactIsLoadCaseWrong : ChangeSpec := { name := "fnExactIsLoadCase", fn := fun _ => fun
  | [d] => { results := [.lit (.bool false)], args := [d] }
  | _ => none }
def FnExactIsLoadCaseWrongFalsely : Prop := fnExactIsLoadCaseRow.holds Try.pinned (OpenSpec.ofChange fnExactIsLoadCaseWrong)

/-- 'laws.FnExactPressAt': WHATEVER THE INPUT: true; the input reads as it did. -/
def fnExactPressAtSpec : ChangeSpec := { name := "fnExactPressAt", fn := fun _ => fun
  | [d1, d2, d3] => { results := [.lit (.bool true)], args := [d1, d2, d3] }
  | _ => none }
def fnExactPressAtRow : OpenClaim := { program := "ytppgfgklnfpgdaa", sum := "33a1c3c4cb1ed367feba5a8943909b40f659285043978a6e51265627b3ede790", func := "loop.example/g00935/laws.FnExactPressAt", spec := "fnExactPressAt", unfollowed := true, recurses := true, apart := false }
def FnExactPressAtSaid : Prop := fnExactPressAtRow.holds Try.pinned (OpenSpec.ofChange fnExactPressAtSpec)

/-- ITS FALSE NEIGHBOUR: 'it returns false'. Refute it at one input. -/
def fnExactPressAtWrong : ChangeSpec := { name := "fnExactPressAt", fn := fun _ => fun
  | [d1, d2, d3] => { results := [.lit (.bool false)], args := [d1, d2, d3] }
  | _ => none }
def FnExactPressAtWrongFalsely : Prop := fnExactPressAtRow.holds Try.pinned (OpenSpec.ofChange fnExactPressAtWrong)

/-- 'laws.FnExactLeastCounter': WHATEVER THE INPUT: true; the input reads as it did. -/
def fnExactLeastCounterSpec : ChangeSpec := { name := "fnExactLeastCounter", fn := fun _ => fun
  | [d1, d2] => { results := [.lit (.bool true)], args := [d1, d2] }
  | _ => none }
def fnExactLeastCounterRow : OpenClaim := { program := "ytppgfgklnfpgdaa", sum := "33a1c3c4cb1ed367feba5a8943909b40f659285043978a6e51265627b3ede790", func := "loop.example/g00935/laws.FnExactLeastCounter", spec := "fnExactLeastCounter", apart := false }
def FnExactLeastCounterSaid : Prop := fnExactLeastCounterRow.holds Try.pinned (OpenSpec.ofChange fnExactLeastCounterSpec)

/-- ITS FALSE NEIGHBOUR: 'it returns false'. Refute it at one input. -/
def fnExactLeastCounterWrong : ChangeSpec := { name := "fnExactLeastCounter", fn := fun _ => fun
  | [d1, d2] => { results := [.lit (.bool false)], args := [d1, d2] }
  | _ => none }
def FnExactLeastCounterWrongFalsely : Prop := fnExactLeastCounterRow.holds Try.pinned (OpenSpec.ofChange fnExactLeastCounterWrong)

/-- 'laws.FnExactGreatestTension': WHATEVER THE INPUT: true; the input reads as it did. -/
def fnExactGreatestTensionSpec : ChangeSpec := { name := "fnExactGreatestTension", fn := fun _ => fun
  | [d1, d2] => { results := [.lit (.bool true)], args := [d1, d2] }
  | _ => none }
def fnExactGreatestTensionRow : OpenClaim := { program := "ytppgfgklnfpgdaa", sum := "33a1c3c4cb1ed367feba5a8943909b40f659285043978a6e51265627b3ede790", func := "loop.example/g00935/laws.FnExactGreatestTension", spec := "fnExactGreatestTension", apart := false }
def FnExactGreatestTensionSaid : Prop := fnExactGreatestTensionRow.holds Try.pinned (OpenSpec.ofChange fnExactGreatestTensionSpec)

/-- ITS FALSE NEIGHBOUR: 'it returns false'. Refute it at one input. -/
def fnExactGreatestTensionWrong : ChangeSpec := { name := "fnExactGreatestTension", fn := fun _ => fun
  | [d1, d2] => { results := [.lit (.bool false)], args := [d1, d2] }
  | _ => none }
def FnExactGreatestTensionWrongFalsely : Prop := fnExactGreatestTensionRow.holds Try.pinned (OpenSpec.ofChange fnExactGreatestTensionWrong)

/-- 'laws.FnExactDownTensions': WHATEVER THE INPUT: true; the input reads as it did. -/
def fnExactDownTensionsSpec : ChangeSpec := { name := "fnExactDownTensions", fn := fun _ => fun
  | [d1, d2] => { results := [.lit (.bool true)], args := [d1, d2] }
  | _ => none }
def fnExactDownTensionsRow : OpenClaim := { program := "ytppgfgklnfpgdaa", sum := "33a1c3c4cb1ed367feba5a8943909b40f659285043978a6e51265627b3ede790", func := "loop.example/g00935/laws.FnExactDownTensions", spec := "fnExactDownTensions", apart := false }
def FnExactDownTensionsSaid : Prop := fnExactDownTensionsRow.holds Try.pinned (OpenSpec.ofChange fnExactDownTensionsSpec)

/-- ITS FALSE NEIGHBOUR: 'it returns false'. Refute it at one input. -/
def fnExactDownTensionsWrong : ChangeSpec := { name := "fnExactDownTensions", fn := fun _ => fun
  | [d1, d2] => { results := [.lit (.bool false)], args := [d1, d2] }
  | _ => none }
def FnExactDownTensionsWrongFalsely : Prop := fnExactDownTensionsRow.holds Try.pinned (OpenSpec.ofChange fnExactDownTensionsWrong)

/-- 'laws.FnExactUpTensions': WHATEVER THE INPUT: true; the input reads as it did. -/
def fnExactUpTensionsSpec : ChangeSpec := { name := "fnExactUpTensions", fn := fun _ => fun
  | [d1, d2] => { results := [.lit (.bool true)], args := [d1, d2] }
  | _ => none }
def fnExactUpTensionsRow : OpenClaim := { program := "ytppgfgklnfpgdaa", sum := "33a1c3c4cb1ed367feba5a8943909b40f659285043978a6e51265627b3ede790", func := "loop.example/g00935/laws.FnExactUpTensions", spec := "fnExactUpTensions", apart := false }
def FnExactUpTensionsSaid : Prop := fnExactUpTensionsRow.holds Try.pinned (OpenSpec.ofChange fnExactUpTensionsSpec)

/-- ITS FALSE NEIGHBOUR: 'it returns false'. Refute it at one input. -/
def fnExactUpTensionsWrong : ChangeSpec := { name := "fnExactUpTensions", fn := fun _ => fun
  | [d1, d2] => { results := [.lit (.bool false)], args := [d1, d2] }
  | _ => none }
def FnExactUpTensionsWrongFalsely : Prop := fnExactUpTensionsRow.holds Try.pinned (OpenSpec.ofChange fnExactUpTensionsWrong)

/-- 'laws.FnExactDriveForce': WHATEVER THE INPUT: true; the input reads as it did. -/
def fnExactDriveForceSpec : ChangeSpec := { name := "fnExactDriveForce", fn := fun _ => fun
  | [d1, d2] => { results := [.lit (.bool true)], args := [d1, d2] }
  | _ => none }
def fnExactDriveForceRow : OpenClaim := { program := "ytppgfgklnfpgdaa", sum := "33a1c3c4cb1ed367feba5a8943909b40f659285043978a6e51265627b3ede790", func := "loop.example/g00935/laws.FnExactDriveForce", spec := "fnExactDriveForce", apart := false }
def FnExactDriveForceSaid : Prop := fnExactDriveForceRow.holds Try.pinned (OpenSpec.ofChange fnExactDriveForceSpec)

/-- ITS FALSE NEIGHBOUR: 'it returns false'. Refute it at one input. -/
def fnExactDriveForceWrong : ChangeSpec := { name := "fnExactDriveForce", fn := fun _ => fun
  | [d1, d2] => { results := [.lit (.bool false)], args := [d1, d2] }
  | _ => none }
def FnExactDriveForceWrongFalsely : Prop := fnExactDriveForceRow.holds Try.pinned (OpenSpec.ofChange fnExactDriveForceWrong)

/-- 'laws.FnExactSafetyAt': WHATEVER THE INPUT: true; the input reads as it did. -/
def fnExactSafetyAtSpec : ChangeSpec := { name := "fnExactSafetyAt", fn := fun _ => fun
  | [d1, d2, d3, d4] => { results := [.lit (.bool true)], args := [d1, d2, d3, d4] }
  | _ => none }
def fnExactSafetyAtRow : OpenClaim := { program := "ytppgfgklnfpgdaa", sum := "33a1c3c4cb1ed367feba5a8943909b40f659285043978a6e51265627b3ede790", func := "loop.example/g00935/laws.FnExactSafetyAt", spec := "fnExactSafetyAt", apart := false }
def FnExactSafetyAtSaid : Prop := fnExactSafetyAtRow.holds Try.pinned (OpenSpec.ofChange fnExactSafetyAtSpec)

/-- ITS FALSE NEIGHBOUR: 'it returns false'. Refute it at one input. -/
def fnExactSafetyAtWrong : ChangeSpec := { name := "fnExactSafetyAt", fn := fun _ => fun
  | [d1, d2, d3, d4] => { results := [.lit (.bool false)], args := [d1, d2, d3, d4] }
  | _ => none }
def FnExactSafetyAtWrongFalsely : Prop := fnExactSafetyAtRow.holds Try.pinned (OpenSpec.ofChange fnExactSafetyAtWrong)

/-- 'laws.FnExactOverTension': WHATEVER THE INPUT: true; the input reads as it did. -/
def fnExactOverTensionSpec : ChangeSpec := { name := "fnExactOverTension", fn := fun _ => fun
  | [d1, d2, d3] => { results := [.lit (.bool true)], args := [d1, d2, d3] }
  | _ => none }
def fnExactOverTensionRow : OpenClaim := { program := "ytppgfgklnfpgdaa", sum := "33a1c3c4cb1ed367feba5a8943909b40f659285043978a6e51265627b3ede790", func := "loop.example/g00935/laws.FnExactOverTension", spec := "fnExactOverTension", apart := false }
def FnExactOverTensionSaid : Prop := fnExactOverTensionRow.holds Try.pinned (OpenSpec.ofChange fnExactOverTensionSpec)

/-- ITS FALSE NEIGHBOUR: 'it returns false'. Refute it at one input. -/
def fnExactOverTensionWrong : ChangeSpec := { name := "fnExactOverTension", fn := fun _ => fun
  | [d1, d2, d3] => { results := [.lit (.bool false)], args := [d1, d2, d3] }
  | _ => none }
def FnExactOverTensionWrongFalsely : Prop := fnExactOverTensionRow.holds Try.pinned (OpenSpec.ofChange fnExactOverTensionWrong)

/- THE SECOND FORM. 'bulk': how many values and letters a reading holds, each counted each time it is reached (what is shared counts as often as it is met; a slice's spare places count too). A statement '..UptoSaid' is the law's where the arguments, and the package variables that the reading takes, are together of bulk at most 1048576: NARROWER than '..Said'. Prove '..Said' where nothing that the law and all that it calls make is longer than what came in: it says more and counts as full. Else prove '..UptoSaid'. A law counts once. -/
mutual
def uptoBulk {H : Type} : DataW H → Nat
  | .lit (.string bytes) => bytes.length + 1
  | .lit _ => 1
  | .nil => 1
  | .ptr d => uptoBulk d + 1
  | .slice elems spare => uptoBulkAll elems + uptoBulkAll spare + 1
  | .agg parts => uptoBulkAll parts + 1
  | .iface _ d => uptoBulk d + 1
  | .map entries => uptoBulkEntries entries + 1
  | .held _ => 1
def uptoBulkAll {H : Type} : List (DataW H) → Nat
  | [] => 0
  | d :: r => uptoBulk d + uptoBulkAll r
def uptoBulkEntries {H : Type} : List (Lit × DataW H) → Nat
  | [] => 0
  | x :: r => uptoBulkEntry x + uptoBulkEntries r
def uptoBulkEntry {H : Type} : Lit × DataW H → Nat
  | (.string bytes, d) => bytes.length + uptoBulk d + 1
  | (_, d) => uptoBulk d + 1
 end
def uptoSmall : (H : Type) → List (DataW H) → Bool := fun _ ds => decide (uptoBulkAll ds ≤ 1048576)
def OpenSpec.upto (s : _root_.Go.ChangeSpec) : _root_.Go.OpenSpec := { _root_.Go.OpenSpec.ofChange s with cond := some uptoSmall }

/-- 'laws.FnExactIsLoadCase', WHERE WHAT IT READS IS OF BULK AT MOST 1048576: true; the input reads as it did. -/
def fnExactIsLoadCaseUptoRow : OpenClaim := { program := "ytppgfgklnfpgdaa", sum := "33a1c3c4cb1ed367feba5a8943909b40f659285043978a6e51265627b3ede790", func := "loop.example/g00935/laws.FnExactIsLoadCase", spec := "fnExactIsLoadCase", apart := false, narrowed := true }
def FnExactIsLoadCaseUptoSaid : Prop := fnExactIsLoadCaseUptoRow.holds Try.pinned (OpenSpec.upto fnExactIsLoadCaseSpec)

/-- 'laws.FnExactPressAt', WHERE WHAT IT READS IS OF BULK AT MOST 1048576: true; the input reads as it did. -/
def fnExactPressAtUptoRow : OpenClaim := { program := "ytppgfgklnfpgdaa", sum := "33a1c3c4cb1ed367feba5a8943909b40f659285043978a6e51265627b3ede790", func := "loop.example/g00935/laws.FnExactPressAt", spec := "fnExactPressAt", unfollowed := true, recurses := true, apart := false, narrowed := true }
def FnExactPressAtUptoSaid : Prop := fnExactPressAtUptoRow.holds Try.pinned (OpenSpec.upto fnExactPressAtSpec)

/-- 'laws.FnExactLeastCounter', WHERE WHAT IT READS IS OF BULK AT MOST 1048576: true; the input reads as it did. -/
def fnExactLeastCounterUptoRow : OpenClaim := { program := "ytppgfgklnfpgdaa", sum := "33a1c3c4cb1ed367feba5a8943909b40f659285043978a6e51265627b3ede790", func := "loop.example/g00935/laws.FnExactLeastCounter", spec := "fnExactLeastCounter", apart := false, narrowed := true }
def FnExactLeastCounterUptoSaid : Prop := fnExactLeastCounterUptoRow.holds Try.pinned (OpenSpec.upto fnExactLeastCounterSpec)

/-- 'laws.FnExactGreatestTension', WHERE WHAT IT READS IS OF BULK AT MOST 1048576: true; the input reads as it did. -/
def fnExactGreatestTensionUptoRow : OpenClaim := { program := "ytppgfgklnfpgdaa", sum := "33a1c3c4cb1ed367feba5a8943909b40f659285043978a6e51265627b3ede790", func := "loop.example/g00935/laws.FnExactGreatestTension", spec := "fnExactGreatestTension", apart := false, narrowed := true }
def FnExactGreatestTensionUptoSaid : Prop := fnExactGreatestTensionUptoRow.holds Try.pinned (OpenSpec.upto fnExactGreatestTensionSpec)

/-- 'laws.FnExactDownTensions', WHERE WHAT IT READS IS OF BULK AT MOST 1048576: true; the input reads as it did. -/
def fnExactDownTensionsUptoRow : OpenClaim := { program := "ytppgfgklnfpgdaa", sum := "33a1c3c4cb1ed367feba5a8943909b40f659285043978a6e51265627b3ede790", func := "loop.example/g00935/laws.FnExactDownTensions", spec := "fnExactDownTensions", apart := false, narrowed := true }
def FnExactDownTensionsUptoSaid : Prop := fnExactDownTensionsUptoRow.holds Try.pinned (OpenSpec.upto fnExactDownTensionsSpec)

/-- 'laws.FnExactUpTensions', WHERE WHAT IT READS IS OF BULK AT MOST 1048576: true; the input reads as it did. -/
def fnExactUpTensionsUptoRow : OpenClaim := { program := "ytppgfgklnfpgdaa", sum := "33a1c3c4cb1ed367feba5a8943909b40f659285043978a6e51265627b3ede790", func := "loop.example/g00935/laws.FnExactUpTensions", spec := "fnExactUpTensions", apart := false, narrowed := true }
def FnExactUpTensionsUptoSaid : Prop := fnExactUpTensionsUptoRow.holds Try.pinned (OpenSpec.upto fnExactUpTensionsSpec)

/-- 'laws.FnExactDriveForce', WHERE WHAT IT READS IS OF BULK AT MOST 1048576: true; the input reads as it did. -/
def fnExactDriveForceUptoRow : OpenClaim := { program := "ytppgfgklnfpgdaa", sum := "33a1c3c4cb1ed367feba5a8943909b40f659285043978a6e51265627b3ede790", func := "loop.example/g00935/laws.FnExactDriveForce", spec := "fnExactDriveForce", apart := false, narrowed := true }
def FnExactDriveForceUptoSaid : Prop := fnExactDriveForceUptoRow.holds Try.pinned (OpenSpec.upto fnExactDriveForceSpec)

/-- 'laws.FnExactSafetyAt', WHERE WHAT IT READS IS OF BULK AT MOST 1048576: true; the input reads as it did. -/
def fnExactSafetyAtUptoRow : OpenClaim := { program := "ytppgfgklnfpgdaa", sum := "33a1c3c4cb1ed367feba5a8943909b40f659285043978a6e51265627b3ede790", func := "loop.example/g00935/laws.FnExactSafetyAt", spec := "fnExactSafetyAt", apart := false, narrowed := true }
def FnExactSafetyAtUptoSaid : Prop := fnExactSafetyAtUptoRow.holds Try.pinned (OpenSpec.upto fnExactSafetyAtSpec)

/-- 'laws.FnExactOverTension', WHERE WHAT IT READS IS OF BULK AT MOST 1048576: true; the input reads as it did. -/
def fnExactOverTensionUptoRow : OpenClaim := { program := "ytppgfgklnfpgdaa", sum := "33a1c3c4cb1ed367feba5a8943909b40f659285043978a6e51265627b3ede790", func := "loop.example/g00935/laws.FnExactOverTension", spec := "fnExactOverTension", apart := false, narrowed := true }
def FnExactOverTensionUptoSaid : Prop := fnExactOverTensionUptoRow.holds Try.pinned (OpenSpec.upto fnExactOverTensionSpec)

end Rows
end Go.Proofs.Ytppgfgklnfpgdaa
