/-
  No cell of these rows narrows 'for every input' (looked for: loops, veiled, ifaces, maps, wideKeys, modest, calm, conditions, laid).
  DERIVED. THE GIVEN ROWS OF THIS SEAT. 8 by the template 'for every input the law returns true; each argument reads behind the call as it read before'; 0 by the template 'total and deterministic' (their statements: YtfhggmjmhfafcaaTotals.lean).
  GIVEN WITH THE SEED: the statements are not yours to turn. If you find one false, say at which input.
  Laid BY PROGRAM, IN A SANDBOX (cutbox-rows.mjs): the forced cells as the released guide's own fill.sh prints them over the translation 5e61d2237c6d83b2… (all of the seat's roots in one cut). By AI agents, Wed Nov 11 2026. No macro, syntax, notation, axiom, sorry.
-/
import Derived.Test.YtfhggmjmhfafcaaChecked
import GoSem.Claim
import GoSem.ClaimJoined
import GoSem.ClaimMapViews
import Derived.JoinedTies
import Derived.KernelRfl
namespace Go.Proofs.Ytfhggmjmhfafcaa
/- THE CELL 'sum', in the pinned program and in every row, IS THE sha256 OF THE DUMP (.gsa) THAT YtfhggmjmhfafcaaProg.lean LOADS. Nothing in Lean hashes anything: it is a label: what it is worth is what the hold of that sum in a sandbox is worth. -/
noncomputable def Try.pinned : Pinned := { name := "ytfhggmjmhfafcaa", sum := "5e61d2237c6d83b2b3618e0dadd958033a9935b3f2f05a4af38a82f82af2b820", checked := Try.checked }
namespace Rows
def none {H : Type} : Left H := { results := [], args := [] }

/-- 'laws.FnExactIsLine': WHATEVER THE INPUT: true; the input reads as it did. -/
def fnExactIsLineSpec : ChangeSpec := { name := "fnExactIsLine", fn := fun _ => fun
  | [d] => { results := [.lit (.bool true)], args := [d] }
  | _ => none }
def fnExactIsLineRow : OpenClaim := { program := "ytfhggmjmhfafcaa", sum := "5e61d2237c6d83b2b3618e0dadd958033a9935b3f2f05a4af38a82f82af2b820", func := "loop.example/g00935/laws.FnExactIsLine", spec := "fnExactIsLine", apart := false }
def FnExactIsLineSaid : Prop := fnExactIsLineRow.holds Try.pinned (OpenSpec.ofChange fnExactIsLineSpec)

/-- ITS FALSE NEIGHBOUR: 'it returns false'. Refute it at one input. -/
def fnExactIsLineWrong : ChangeSpec := { name := "fnExactIsLine", fn := fun _ => fun
  | [d] => { results := [.lit (.bool false)], args := [d] }
  | _ => none }
def FnExactIsLineWrongFalsely : Prop := fnExactIsLineRow.holds Try.pinned (OpenSpec.ofChange fnExactIsLineWrong)

/-- 'laws.FnExactClimbOf': WHATEVER THE INPUT: true; the input reads as it did. -/
def fnExactClimbOfSpec : ChangeSpec := { name := "fnExactClimbOf", fn := fun _ => fun
  | [d] => { results := [.lit (.bool true)], args := [d] }
  | _ => none }
def fnExactClimbOfRow : OpenClaim := { program := "ytfhggmjmhfafcaa", sum := "5e61d2237c6d83b2b3618e0dadd958033a9935b3f2f05a4af38a82f82af2b820", func := "loop.example/g00935/laws.FnExactClimbOf", spec := "fnExactClimbOf", apart := false }
def FnExactClimbOfSaid : Prop := fnExactClimbOfRow.holds Try.pinned (OpenSpec.ofChange fnExactClimbOfSpec)

/-- ITS FALSE NEIGHBOUR: 'it returns false'. Refute it at one input. -/
def fnExactClimbOfWrong : ChangeSpec := { name := "fnExactClimbOf", fn := fun _ => fun
  | [d] => { results := [.lit (.bool false)], args := [d] }
  | _ => none }
def FnExactClimbOfWrongFalsely : Prop := fnExactClimbOfRow.holds Try.pinned (OpenSpec.ofChange fnExactClimbOfWrong)

/-- 'laws.FnExactSpanAt': WHATEVER THE INPUT: true; the input reads as it did. -/
def fnExactSpanAtSpec : ChangeSpec := { name := "fnExactSpanAt", fn := fun _ => fun
  | [d1, d2] => { results := [.lit (.bool true)], args := [d1, d2] }
  | _ => none }
def fnExactSpanAtRow : OpenClaim := { program := "ytfhggmjmhfafcaa", sum := "5e61d2237c6d83b2b3618e0dadd958033a9935b3f2f05a4af38a82f82af2b820", func := "loop.example/g00935/laws.FnExactSpanAt", spec := "fnExactSpanAt", apart := false }
def FnExactSpanAtSaid : Prop := fnExactSpanAtRow.holds Try.pinned (OpenSpec.ofChange fnExactSpanAtSpec)

/-- ITS FALSE NEIGHBOUR: 'it returns false'. Refute it at one input. -/
def fnExactSpanAtWrong : ChangeSpec := { name := "fnExactSpanAt", fn := fun _ => fun
  | [d1, d2] => { results := [.lit (.bool false)], args := [d1, d2] }
  | _ => none }
def FnExactSpanAtWrongFalsely : Prop := fnExactSpanAtRow.holds Try.pinned (OpenSpec.ofChange fnExactSpanAtWrong)

/-- 'laws.FnExactSpanLengths': WHATEVER THE INPUT: true; the input reads as it did. -/
def fnExactSpanLengthsSpec : ChangeSpec := { name := "fnExactSpanLengths", fn := fun _ => fun
  | [d] => { results := [.lit (.bool true)], args := [d] }
  | _ => none }
def fnExactSpanLengthsRow : OpenClaim := { program := "ytfhggmjmhfafcaa", sum := "5e61d2237c6d83b2b3618e0dadd958033a9935b3f2f05a4af38a82f82af2b820", func := "loop.example/g00935/laws.FnExactSpanLengths", spec := "fnExactSpanLengths", apart := false }
def FnExactSpanLengthsSaid : Prop := fnExactSpanLengthsRow.holds Try.pinned (OpenSpec.ofChange fnExactSpanLengthsSpec)

/-- ITS FALSE NEIGHBOUR: 'it returns false'. Refute it at one input. -/
def fnExactSpanLengthsWrong : ChangeSpec := { name := "fnExactSpanLengths", fn := fun _ => fun
  | [d] => { results := [.lit (.bool false)], args := [d] }
  | _ => none }
def FnExactSpanLengthsWrongFalsely : Prop := fnExactSpanLengthsRow.holds Try.pinned (OpenSpec.ofChange fnExactSpanLengthsWrong)

/-- 'laws.FnExactStationsOf': WHATEVER THE INPUT: true; the input reads as it did. -/
def fnExactStationsOfSpec : ChangeSpec := { name := "fnExactStationsOf", fn := fun _ => fun
  | [d] => { results := [.lit (.bool true)], args := [d] }
  | _ => none }
def fnExactStationsOfRow : OpenClaim := { program := "ytfhggmjmhfafcaa", sum := "5e61d2237c6d83b2b3618e0dadd958033a9935b3f2f05a4af38a82f82af2b820", func := "loop.example/g00935/laws.FnExactStationsOf", spec := "fnExactStationsOf", apart := false }
def FnExactStationsOfSaid : Prop := fnExactStationsOfRow.holds Try.pinned (OpenSpec.ofChange fnExactStationsOfSpec)

/-- ITS FALSE NEIGHBOUR: 'it returns false'. Refute it at one input. -/
def fnExactStationsOfWrong : ChangeSpec := { name := "fnExactStationsOf", fn := fun _ => fun
  | [d] => { results := [.lit (.bool false)], args := [d] }
  | _ => none }
def FnExactStationsOfWrongFalsely : Prop := fnExactStationsOfRow.holds Try.pinned (OpenSpec.ofChange fnExactStationsOfWrong)

/-- 'laws.FnExactReverseLine': WHATEVER THE INPUT: true; the input reads as it did. -/
def fnExactReverseLineSpec : ChangeSpec := { name := "fnExactReverseLine", fn := fun _ => fun
  | [d] => { results := [.lit (.bool true)], args := [d] }
  | _ => none }
def fnExactReverseLineRow : OpenClaim := { program := "ytfhggmjmhfafcaa", sum := "5e61d2237c6d83b2b3618e0dadd958033a9935b3f2f05a4af38a82f82af2b820", func := "loop.example/g00935/laws.FnExactReverseLine", spec := "fnExactReverseLine", apart := false }
def FnExactReverseLineSaid : Prop := fnExactReverseLineRow.holds Try.pinned (OpenSpec.ofChange fnExactReverseLineSpec)

/-- ITS FALSE NEIGHBOUR: 'it returns false'. Refute it at one input. -/
def fnExactReverseLineWrong : ChangeSpec := { name := "fnExactReverseLine", fn := fun _ => fun
  | [d] => { results := [.lit (.bool false)], args := [d] }
  | _ => none }
def FnExactReverseLineWrongFalsely : Prop := fnExactReverseLineRow.holds Try.pinned (OpenSpec.ofChange fnExactReverseLineWrong)

/-- 'laws.FnExactChordAt': WHATEVER THE INPUT: true; the input reads as it did. -/
def fnExactChordAtSpec : ChangeSpec := { name := "fnExactChordAt", fn := fun _ => fun
  | [d1, d2] => { results := [.lit (.bool true)], args := [d1, d2] }
  | _ => none }
def fnExactChordAtRow : OpenClaim := { program := "ytfhggmjmhfafcaa", sum := "5e61d2237c6d83b2b3618e0dadd958033a9935b3f2f05a4af38a82f82af2b820", func := "loop.example/g00935/laws.FnExactChordAt", spec := "fnExactChordAt", apart := false }
def FnExactChordAtSaid : Prop := fnExactChordAtRow.holds Try.pinned (OpenSpec.ofChange fnExactChordAtSpec)

/-- ITS FALSE NEIGHBOUR: 'it returns false'. Refute it at one input. -/
def fnExactChordAtWrong : ChangeSpec := { name := "fnExactChordAt", fn := fun _ => fun
  | [d1, d2] => { results := [.lit (.bool false)], args := [d1, d2] }
  | _ => none }
def FnExactChordAtWrongFalsely : Prop := fnExactChordAtRow.holds Try.pinned (OpenSpec.ofChange fnExactChordAtWrong)

/-- 'laws.FnExactSteepestSpan': WHATEVER THE INPUT: true; the input reads as it did. -/
def fnExactSteepestSpanSpec : ChangeSpec := { name := "fnExactSteepestSpan", fn := fun _ => fun
  | [d] => { results := [.lit (.bool true)], args := [d] }
  | _ => none }
def fnExactSteepestSpanRow : OpenClaim := { program := "ytfhggmjmhfafcaa", sum := "5e61d2237c6d83b2b3618e0dadd958033a9935b3f2f05a4af38a82f82af2b820", func := "loop.example/g00935/laws.FnExactSteepestSpan", spec := "fnExactSteepestSpan", unfollowed := true, recurses := true, apart := false }
def FnExactSteepestSpanSaid : Prop := fnExactSteepestSpanRow.holds Try.pinned (OpenSpec.ofChange fnExactSteepestSpanSpec)

/-- ITS FALSE NEIGHBOUR: 'it returns false'. Refute it at one input. -/
def fnExactSteepestSpanWrong : ChangeSpec := { name := "fnExactSteepestSpan", fn := fun _ => fun
  | [d] => { results := [.lit (.bool false)], args := [d] }
  | _ => none }
def FnExactSteepestSpanWrongFalsely : Prop := fnExactSteepestSpanRow.holds Try.pinned (OpenSpec.ofChange fnExactSteepestSpanWrong)

/- THE SECOND FORM. 'bulk': how many values and letters a reading holds, each counted each time it is reached (what is shared counts as often as it is met; a slice's spare places count too). A statement '..UptoSaid' is the law's where the arguments, and the package variables that the reading takes, are together of bulk at most 1048576: NARROWER than '..Said'. Prove '..Said' where nothing that the law and all that it calls make is longer than what came in: it says more and counts as full. Else prove '..UptoSaid'. A law counts once. -/
mutual
def uptoBulk {H : Type} : DataW H → Nat
  | .lit (.string bytes) => bytes.length + 1
  | .lit _ => 1
  | .nil => 1
  | .ptr d => uptoBulk d + 1
  | .slice elems spare => uptoBulkAll elems + uptoBulkAll spare + 1
  | .agg parts => uptoBulkAll parts + 1
  | .iface _ d => uptoBulk d + 1
  | .map entries => uptoBulkEntries entries + 1
  | .held _ => 1
def uptoBulkAll {H : Type} : List (DataW H) → Nat
  | [] => 0
  | d :: r => uptoBulk d + uptoBulkAll r
def uptoBulkEntries {H : Type} : List (Lit × DataW H) → Nat
  | [] => 0
  | x :: r => uptoBulkEntry x + uptoBulkEntries r
def uptoBulkEntry {H : Type} : Lit × DataW H → Nat
  | (.string bytes, d) => bytes.length + uptoBulk d + 1
  | (_, d) => uptoBulk d + 1
 end
def uptoSmall : (H : Type) → List (DataW H) → Bool := fun _ ds => decide (uptoBulkAll ds ≤ 1048576)
def OpenSpec.upto (s : _root_.Go.ChangeSpec) : _root_.Go.OpenSpec := { _root_.Go.OpenSpec.ofChange s with cond := some uptoSmall }

/-- 'laws.FnExactIsLine', WHERE WHAT IT READS IS OF BULK AT MOST 1048576: true; the input reads as it did. -/
def fnExactIsLineUptoRow : OpenClaim := { program := "ytfhggmjmhfafcaa", sum := "5e61d2237c6d83b2b3618e0dadd958033a9935b3f2f05a4af38a82f82af2b820", func := "loop.example/g00935/laws.FnExactIsLine", spec := "fnExactIsLine", apart := false, narrowed := true }
def FnExactIsLineUptoSaid : Prop := fnExactIsLineUptoRow.holds Try.pinned (OpenSpec.upto fnExactIsLineSpec)

/-- 'laws.FnExactClimbOf', WHERE WHAT IT READS IS OF BULK AT MOST 1048576: true; the input reads as it did. -/
def fnExactClimbOfUptoRow : OpenClaim := { program := "ytfhggmjmhfafcaa", sum := "5e61d2237c6d83b2b3618e0dadd958033a9935b3f2f05a4af38a82f82af2b820", func := "loop.example/g00935/laws.FnExactClimbOf", spec := "fnExactClimbOf", apart := false, narrowed := true }
def FnExactClimbOfUptoSaid : Prop := fnExactClimbOfUptoRow.holds Try.pinned (OpenSpec.upto fnExactClimbOfSpec)

/-- 'laws.FnExactSpanAt', WHERE WHAT IT READS IS OF BULK AT MOST 1048576: true; the input reads as it did. -/
def fnExactSpanAtUptoRow : OpenClaim := { program := "ytfhggmjmhfafcaa", sum := "5e61d2237c6d83b2b3618e0dadd958033a9935b3f2f05a4af38a82f82af2b820", func := "loop.example/g00935/laws.FnExactSpanAt", spec := "fnExactSpanAt", apart := false, narrowed := true }
def FnExactSpanAtUptoSaid : Prop := fnExactSpanAtUptoRow.holds Try.pinned (OpenSpec.upto fnExactSpanAtSpec)

/-- 'laws.FnExactSpanLengths', WHERE WHAT IT READS IS OF BULK AT MOST 1048576: true; the input reads as it did. -/
def fnExactSpanLengthsUptoRow : OpenClaim := { program := "ytfhggmjmhfafcaa", sum := "5e61d2237c6d83b2b3618e0dadd958033a9935b3f2f05a4af38a82f82af2b820", func := "loop.example/g00935/laws.FnExactSpanLengths", spec := "fnExactSpanLengths", apart := false, narrowed := true }
def FnExactSpanLengthsUptoSaid : Prop := fnExactSpanLengthsUptoRow.holds Try.pinned (OpenSpec.upto fnExactSpanLengthsSpec)

/-- 'laws.FnExactStationsOf', WHERE WHAT IT READS IS OF BULK AT MOST 1048576: true; the input reads as it did. -/
def fnExactStationsOfUptoRow : OpenClaim := { program := "ytfhggmjmhfafcaa", sum := "5e61d2237c6d83b2b3618e0dadd958033a9935b3f2f05a4af38a82f82af2b820", func := "loop.example/g00935/laws.FnExactStationsOf", spec := "fnExactStationsOf", apart := false, narrowed := true }
def FnExactStationsOfUptoSaid : Prop := fnExactStationsOfUptoRow.holds Try.pinned (OpenSpec.upto fnExactStationsOfSpec)

/-- 'laws.FnExactReverseLine', WHERE WHAT IT READS IS OF BULK AT MOST 1048576: true; the input reads as it did. -/
def fnExactReverseLineUptoRow : OpenClaim := { program := "ytfhggmjmhfafcaa", sum := "5e61d2237c6d83b2b3618e0dadd958033a9935b3f2f05a4af38a82f82af2b820", func := "loop.example/g00935/laws.FnExactReverseLine", spec := "fnExactReverseLine", apart := false, narrowed := true }
def FnExactReverseLineUptoSaid : Prop := fnExactReverseLineUptoRow.holds Try.pinned (OpenSpec.upto fnExactReverseLineSpec)

/-- 'laws.FnExactChordAt', WHERE WHAT IT READS IS OF BULK AT MOST 1048576: true; the input reads as it did. -/
def fnExactChordAtUptoRow : OpenClaim := { program := "ytfhggmjmhfafcaa", sum := "5e61d2237c6d83b2b3618e0dadd958033a9935b3f2f05a4af38a82f82af2b820", func := "loop.example/g00935/laws.FnExactChordAt", spec := "fnExactChordAt", apart := false, narrowed := true }
def FnExactChordAtUptoSaid : Prop := fnExactChordAtUptoRow.holds Try.pinned (OpenSpec.upto fnExactChordAtSpec)

/-- 'laws.FnExactSteepestSpan', WHERE WHAT IT READS IS OF BULK AT MOST 1048576: true; the input reads as it did. -/
def fnExactSteepestSpanUptoRow : OpenClaim := { program := "ytfhggmjmhfafcaa", sum := "5e61d2237c6d83b2b3618e0dadd958033a9935b3f2f05a4af38a82f82af2b820", func := "loop.example/g00935/laws.FnExactSteepestSpan", spec := "fnExactSteepestSpan", unfollowed := true, recurses := true, apart := false, narrowed := true }
def FnExactSteepestSpanUptoSaid : Prop := fnExactSteepestSpanUptoRow.holds Try.pinned (OpenSpec.upto fnExactSteepestSpanSpec)

end Rows
end Go.Proofs.Ytfhggmjmhfafcaa
