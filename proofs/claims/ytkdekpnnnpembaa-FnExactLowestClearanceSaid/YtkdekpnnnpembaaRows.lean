/-
  No cell of these rows narrows 'for every input' (looked for: loops, veiled, ifaces, maps, wideKeys, modest, calm, conditions, laid).
  DERIVED. THE GIVEN ROWS OF THIS SEAT. 9 by the template 'for every input the law returns true; each argument reads behind the call as it read before'; 0 by the template 'total and deterministic' (their statements: YtkdekpnnnpembaaTotals.lean).
  GIVEN WITH THE SEED: the statements are not yours to turn. If you find one false, say at which input.
  Laid BY PROGRAM, IN A SANDBOX (cutbox-rows.mjs): the forced cells as the released guide's own fill.sh prints them over the translation 85908367724711ca… (all of the seat's roots in one cut). By AI agents, Wed Nov 11 2026. No macro, syntax, notation, axiom, sorry.
-/
import Derived.Test.YtkdekpnnnpembaaChecked
import GoSem.Claim
import GoSem.ClaimJoined
import GoSem.ClaimMapViews
import Derived.JoinedTies
import Derived.KernelRfl
namespace Go.Proofs.Ytkdekpnnnpembaa
/- THE CELL 'sum', in the pinned program and in every row, IS THE sha256 OF THE DUMP (.gsa) THAT YtkdekpnnnpembaaProg.lean LOADS. Nothing in Lean hashes anything: it is a label: what it is worth is what the hold of that sum in a sandbox is worth. -/
noncomputable def Try.pinned : Pinned := { name := "ytkdekpnnnpembaa", sum := "85908367724711ca8d54ee7be3838db06f4ff0bb2851e969551121a528ccf6a2", checked := Try.checked }
namespace Rows
def none {H : Type} : Left H := { results := [], args := [] }

/-- 'laws.FnExactIsRope': WHATEVER THE INPUT: true; the input reads as it did. -/
def fnExactIsRopeSpec : ChangeSpec := { name := "fnExactIsRope", fn := fun _ => fun
  | [d] => { results := [.lit (.bool true)], args := [d] }
  | _ => none }
def fnExactIsRopeRow : OpenClaim := { program := "ytkdekpnnnpembaa", sum := "85908367724711ca8d54ee7be3838db06f4ff0bb2851e969551121a528ccf6a2", func := "loop.example/g00935/laws.FnExactIsRope", spec := "fnExactIsRope", apart := false }
def FnExactIsRopeSaid : Prop := fnExactIsRopeRow.holds Try.pinned (OpenSpec.ofChange fnExactIsRopeSpec)

/-- ITS FALSE NEIGHBOUR: 'it returns false'. Refute it at one input. -/
def fnExactIsRopeWrong : ChangeSpec := { name := "fnExactIsRope", fn := fun _ => fun
  | [d] => { results := [.lit (.bool false)], args := [d] }
  | _ => none }
def FnExactIsRopeWrongFalsely : Prop := fnExactIsRopeRow.holds Try.pinned (OpenSpec.ofChange fnExactIsRopeWrong)

/-- 'laws.FnExactIsGround': WHATEVER THE INPUT: true; the input reads as it did. -/
def fnExactIsGroundSpec : ChangeSpec := { name := "fnExactIsGround", fn := fun _ => fun
  | [d1, d2] => { results := [.lit (.bool true)], args := [d1, d2] }
  | _ => none }
def fnExactIsGroundRow : OpenClaim := { program := "ytkdekpnnnpembaa", sum := "85908367724711ca8d54ee7be3838db06f4ff0bb2851e969551121a528ccf6a2", func := "loop.example/g00935/laws.FnExactIsGround", spec := "fnExactIsGround", apart := false }
def FnExactIsGroundSaid : Prop := fnExactIsGroundRow.holds Try.pinned (OpenSpec.ofChange fnExactIsGroundSpec)

/-- ITS FALSE NEIGHBOUR: 'it returns false'. Refute it at one input. -/
def fnExactIsGroundWrong : ChangeSpec := { name := "fnExactIsGround", fn := fun _ => fun
  | [d1, d2] => { results := [.lit (.bool false)], args := [d1, d2] }
  | _ => none }
def FnExactIsGroundWrongFalsely : Prop := fnExactIsGroundRow.holds Try.pinned (OpenSpec.ofChange fnExactIsGroundWrong)

/-- 'laws.FnExactPullFor': WHATEVER THE INPUT: true; the input reads as it did. -/
def fnExactPullForSpec : ChangeSpec := { name := "fnExactPullFor", fn := fun _ => fun
  | [d1, d2, d3, d4] => { results := [.lit (.bool true)], args := [d1, d2, d3, d4] }
  | _ => none }
def fnExactPullForRow : OpenClaim := { program := "ytkdekpnnnpembaa", sum := "85908367724711ca8d54ee7be3838db06f4ff0bb2851e969551121a528ccf6a2", func := "loop.example/g00935/laws.FnExactPullFor", spec := "fnExactPullFor", apart := false }
def FnExactPullForSaid : Prop := fnExactPullForRow.holds Try.pinned (OpenSpec.ofChange fnExactPullForSpec)

/-- ITS FALSE NEIGHBOUR: 'it returns false'. Refute it at one input. -/
def fnExactPullForWrong : ChangeSpec := { name := "fnExactPullFor", fn := fun _ => fun
  | [d1, d2, d3, d4] => { results := [.lit (.bool false)], args := [d1, d2, d3, d4] }
  | _ => none }
def FnExactPullForWrongFalsely : Prop := fnExactPullForRow.holds Try.pinned (OpenSpec.ofChange fnExactPullForWrong)

/-- 'laws.FnExactLoadedSag': WHATEVER THE INPUT: true; the input reads as it did. -/
def fnExactLoadedSagSpec : ChangeSpec := { name := "fnExactLoadedSag", fn := fun _ => fun
  | [d1, d2, d3, d4] => { results := [.lit (.bool true)], args := [d1, d2, d3, d4] }
  | _ => none }
def fnExactLoadedSagRow : OpenClaim := { program := "ytkdekpnnnpembaa", sum := "85908367724711ca8d54ee7be3838db06f4ff0bb2851e969551121a528ccf6a2", func := "loop.example/g00935/laws.FnExactLoadedSag", spec := "fnExactLoadedSag", apart := false }
def FnExactLoadedSagSaid : Prop := fnExactLoadedSagRow.holds Try.pinned (OpenSpec.ofChange fnExactLoadedSagSpec)

/-- ITS FALSE NEIGHBOUR: 'it returns false'. Refute it at one input. -/
def fnExactLoadedSagWrong : ChangeSpec := { name := "fnExactLoadedSag", fn := fun _ => fun
  | [d1, d2, d3, d4] => { results := [.lit (.bool false)], args := [d1, d2, d3, d4] }
  | _ => none }
def FnExactLoadedSagWrongFalsely : Prop := fnExactLoadedSagRow.holds Try.pinned (OpenSpec.ofChange fnExactLoadedSagWrong)

/-- 'laws.FnExactSagAt': WHATEVER THE INPUT: true; the input reads as it did. -/
def fnExactSagAtSpec : ChangeSpec := { name := "fnExactSagAt", fn := fun _ => fun
  | [d1, d2, d3] => { results := [.lit (.bool true)], args := [d1, d2, d3] }
  | _ => none }
def fnExactSagAtRow : OpenClaim := { program := "ytkdekpnnnpembaa", sum := "85908367724711ca8d54ee7be3838db06f4ff0bb2851e969551121a528ccf6a2", func := "loop.example/g00935/laws.FnExactSagAt", spec := "fnExactSagAt", apart := false }
def FnExactSagAtSaid : Prop := fnExactSagAtRow.holds Try.pinned (OpenSpec.ofChange fnExactSagAtSpec)

/-- ITS FALSE NEIGHBOUR: 'it returns false'. Refute it at one input. -/
def fnExactSagAtWrong : ChangeSpec := { name := "fnExactSagAt", fn := fun _ => fun
  | [d1, d2, d3] => { results := [.lit (.bool false)], args := [d1, d2, d3] }
  | _ => none }
def FnExactSagAtWrongFalsely : Prop := fnExactSagAtRow.holds Try.pinned (OpenSpec.ofChange fnExactSagAtWrong)

/-- 'laws.FnExactGreatestSag': WHATEVER THE INPUT: true; the input reads as it did. -/
def fnExactGreatestSagSpec : ChangeSpec := { name := "fnExactGreatestSag", fn := fun _ => fun
  | [d1, d2] => { results := [.lit (.bool true)], args := [d1, d2] }
  | _ => none }
def fnExactGreatestSagRow : OpenClaim := { program := "ytkdekpnnnpembaa", sum := "85908367724711ca8d54ee7be3838db06f4ff0bb2851e969551121a528ccf6a2", func := "loop.example/g00935/laws.FnExactGreatestSag", spec := "fnExactGreatestSag", apart := false }
def FnExactGreatestSagSaid : Prop := fnExactGreatestSagRow.holds Try.pinned (OpenSpec.ofChange fnExactGreatestSagSpec)

/-- ITS FALSE NEIGHBOUR: 'it returns false'. Refute it at one input. -/
def fnExactGreatestSagWrong : ChangeSpec := { name := "fnExactGreatestSag", fn := fun _ => fun
  | [d1, d2] => { results := [.lit (.bool false)], args := [d1, d2] }
  | _ => none }
def FnExactGreatestSagWrongFalsely : Prop := fnExactGreatestSagRow.holds Try.pinned (OpenSpec.ofChange fnExactGreatestSagWrong)

/-- 'laws.FnExactTowerAngle': WHATEVER THE INPUT: true; the input reads as it did. -/
def fnExactTowerAngleSpec : ChangeSpec := { name := "fnExactTowerAngle", fn := fun _ => fun
  | [d1, d2, d3] => { results := [.lit (.bool true)], args := [d1, d2, d3] }
  | _ => none }
def fnExactTowerAngleRow : OpenClaim := { program := "ytkdekpnnnpembaa", sum := "85908367724711ca8d54ee7be3838db06f4ff0bb2851e969551121a528ccf6a2", func := "loop.example/g00935/laws.FnExactTowerAngle", spec := "fnExactTowerAngle", apart := false }
def FnExactTowerAngleSaid : Prop := fnExactTowerAngleRow.holds Try.pinned (OpenSpec.ofChange fnExactTowerAngleSpec)

/-- ITS FALSE NEIGHBOUR: 'it returns false'. Refute it at one input. -/
def fnExactTowerAngleWrong : ChangeSpec := { name := "fnExactTowerAngle", fn := fun _ => fun
  | [d1, d2, d3] => { results := [.lit (.bool false)], args := [d1, d2, d3] }
  | _ => none }
def FnExactTowerAngleWrongFalsely : Prop := fnExactTowerAngleRow.holds Try.pinned (OpenSpec.ofChange fnExactTowerAngleWrong)

/-- 'laws.FnExactClearanceAt': WHATEVER THE INPUT: true; the input reads as it did. -/
def fnExactClearanceAtSpec : ChangeSpec := { name := "fnExactClearanceAt", fn := fun _ => fun
  | [d1, d2, d3, d4] => { results := [.lit (.bool true)], args := [d1, d2, d3, d4] }
  | _ => none }
def fnExactClearanceAtRow : OpenClaim := { program := "ytkdekpnnnpembaa", sum := "85908367724711ca8d54ee7be3838db06f4ff0bb2851e969551121a528ccf6a2", func := "loop.example/g00935/laws.FnExactClearanceAt", spec := "fnExactClearanceAt", apart := false }
def FnExactClearanceAtSaid : Prop := fnExactClearanceAtRow.holds Try.pinned (OpenSpec.ofChange fnExactClearanceAtSpec)

/-- ITS FALSE NEIGHBOUR: 'it returns false'. Refute it at one input. -/
def fnExactClearanceAtWrong : ChangeSpec := { name := "fnExactClearanceAt", fn := fun _ => fun
  | [d1, d2, d3, d4] => { results := [.lit (.bool false)], args := [d1, d2, d3, d4] }
  | _ => none }
def FnExactClearanceAtWrongFalsely : Prop := fnExactClearanceAtRow.holds Try.pinned (OpenSpec.ofChange fnExactClearanceAtWrong)

/-- 'laws.FnExactLowestClearance': WHATEVER THE INPUT: true; the input reads as it did. -/
def fnExactLowestClearanceSpec : ChangeSpec := { name := "fnExactLowestClearance", fn := fun _ => fun
  | [d1, d2, d3] => { results := [.lit (.bool true)], args := [d1, d2, d3] }
  | _ => none }
def fnExactLowestClearanceRow : OpenClaim := { program := "ytkdekpnnnpembaa", sum := "85908367724711ca8d54ee7be3838db06f4ff0bb2851e969551121a528ccf6a2", func := "loop.example/g00935/laws.FnExactLowestClearance", spec := "fnExactLowestClearance", unfollowed := true, recurses := true, apart := false }
def FnExactLowestClearanceSaid : Prop := fnExactLowestClearanceRow.holds Try.pinned (OpenSpec.ofChange fnExactLowestClearanceSpec)

/-- ITS FALSE NEIGHBOUR: 'it returns false'. Refute it at one input. -/
def fnExactLowestClearanceWrong : ChangeSpec := { name := "fnExactLowestClearance", fn := fun _ => fun
  | [d1, d2, d3] => { results := [.lit (.bool false)], args := [d1, d2, d3] }
  | _ => none }
def FnExactLowestClearanceWrongFalsely : Prop := fnExactLowestClearanceRow.holds Try.pinned (OpenSpec.ofChange fnExactLowestClearanceWrong)

/- THE SECOND FORM. 'bulk': how many values and letters a reading holds, each counted each time it is reached (what is shared counts as often as it is met; a slice's spare places count too). A statement '..UptoSaid' is the law's where the arguments, and the package variables that the reading takes, are together of bulk at most 1048576: NARROWER than '..Said'. Prove '..Said' where nothing that the law and all that it calls make is longer than what came in: it says more and counts as full. Else prove '..UptoSaid'. A law counts once. -/
mutual
def uptoBulk {H : Type} : DataW H → Nat
  | .lit (.string bytes) => bytes.length + 1
  | .lit _ => 1
  | .nil => 1
  | .ptr d => uptoBulk d + 1
  | .slice elems spare => uptoBulkAll elems + uptoBulkAll spare + 1
  | .agg parts => uptoBulkAll parts + 1
  | .iface _ d => uptoBulk d + 1
  | .map entries => uptoBulkEntries entries + 1
  | .held _ => 1
def uptoBulkAll {H : Type} : List (DataW H) → Nat
  | [] => 0
  | d :: r => uptoBulk d + uptoBulkAll r
def uptoBulkEntries {H : Type} : List (Lit × DataW H) → Nat
  | [] => 0
  | x :: r => uptoBulkEntry x + uptoBulkEntries r
def uptoBulkEntry {H : Type} : Lit × DataW H → Nat
  | (.string bytes, d) => bytes.length + uptoBulk d + 1
  | (_, d) => uptoBulk d + 1
 end
def uptoSmall : (H : Type) → List (DataW H) → Bool := fun _ ds => decide (uptoBulkAll ds ≤ 1048576)
def OpenSpec.upto (s : _root_.Go.ChangeSpec) : _root_.Go.OpenSpec := { _root_.Go.OpenSpec.ofChange s with cond := some uptoSmall }

/-- 'laws.FnExactIsRope', WHERE WHAT IT READS IS OF BULK AT MOST 1048576: true; the input reads as it did. -/
def fnExactIsRopeUptoRow : OpenClaim := { program := "ytkdekpnnnpembaa", sum := "85908367724711ca8d54ee7be3838db06f4ff0bb2851e969551121a528ccf6a2", func := "loop.example/g00935/laws.FnExactIsRope", spec := "fnExactIsRope", apart := false, narrowed := true }
def FnExactIsRopeUptoSaid : Prop := fnExactIsRopeUptoRow.holds Try.pinned (OpenSpec.upto fnExactIsRopeSpec)

/-- 'laws.FnExactIsGround', WHERE WHAT IT READS IS OF BULK AT MOST 1048576: true; the input reads as it did. -/
def fnExactIsGroundUptoRow : OpenClaim := { program := "ytkdekpnnnpembaa", sum := "85908367724711ca8d54ee7be3838db06f4ff0bb2851e969551121a528ccf6a2", func := "loop.example/g00935/laws.FnExactIsGround", spec := "fnExactIsGround", apart := false, narrowed := true }
def FnExactIsGroundUptoSaid : Prop := fnExactIsGroundUptoRow.holds Try.pinned (OpenSpec.upto fnExactIsGroundSpec)

/-- 'laws.FnExactPullFor', WHERE WHAT IT READS IS OF BULK AT MOST 1048576: true; the input reads as it did. -/
def fnExactPullForUptoRow : OpenClaim := { program := "ytkdekpnnnpembaa", sum := "85908367724711ca8d54ee7be3838db06f4ff0bb2851e969551121a528ccf6a2", func := "loop.example/g00935/laws.FnExactPullFor", spec := "fnExactPullFor", apart := false, narrowed := true }
def FnExactPullForUptoSaid : Prop := fnExactPullForUptoRow.holds Try.pinned (OpenSpec.upto fnExactPullForSpec)

/-- 'laws.FnExactLoadedSag', WHERE WHAT IT READS IS OF BULK AT MOST 1048576: true; the input reads as it did. -/
def fnExactLoadedSagUptoRow : OpenClaim := { program := "ytkdekpnnnpembaa", sum := "85908367724711ca8d54ee7be3838db06f4ff0bb2851e969551121a528ccf6a2", func := "loop.example/g00935/laws.FnExactLoadedSag", spec := "fnExactLoadedSag", apart := false, narrowed := true }
def FnExactLoadedSagUptoSaid : Prop := fnExactLoadedSagUptoRow.holds Try.pinned (OpenSpec.upto fnExactLoadedSagSpec)

/-- 'laws.FnExactSagAt', WHERE WHAT IT READS IS OF BULK AT MOST 1048576: true; the input reads as it did. -/
def fnExactSagAtUptoRow : OpenClaim := { program := "ytkdekpnnnpembaa", sum := "85908367724711ca8d54ee7be3838db06f4ff0bb2851e969551121a528ccf6a2", func := "loop.example/g00935/laws.FnExactSagAt", spec := "fnExactSagAt", apart := false, narrowed := true }
def FnExactSagAtUptoSaid : Prop := fnExactSagAtUptoRow.holds Try.pinned (OpenSpec.upto fnExactSagAtSpec)

/-- 'laws.FnExactGreatestSag', WHERE WHAT IT READS IS OF BULK AT MOST 1048576: true; the input reads as it did. -/
def fnExactGreatestSagUptoRow : OpenClaim := { program := "ytkdekpnnnpembaa", sum := "85908367724711ca8d54ee7be3838db06f4ff0bb2851e969551121a528ccf6a2", func := "loop.example/g00935/laws.FnExactGreatestSag", spec := "fnExactGreatestSag", apart := false, narrowed := true }
def FnExactGreatestSagUptoSaid : Prop := fnExactGreatestSagUptoRow.holds Try.pinned (OpenSpec.upto fnExactGreatestSagSpec)

/-- 'laws.FnExactTowerAngle', WHERE WHAT IT READS IS OF BULK AT MOST 1048576: true; the input reads as it did. -/
def fnExactTowerAngleUptoRow : OpenClaim := { program := "ytkdekpnnnpembaa", sum := "85908367724711ca8d54ee7be3838db06f4ff0bb2851e969551121a528ccf6a2", func := "loop.example/g00935/laws.FnExactTowerAngle", spec := "fnExactTowerAngle", apart := false, narrowed := true }
def FnExactTowerAngleUptoSaid : Prop := fnExactTowerAngleUptoRow.holds Try.pinned (OpenSpec.upto fnExactTowerAngleSpec)

/-- 'laws.FnExactClearanceAt', WHERE WHAT IT READS IS OF BULK AT MOST 1048576: true; the input reads as it did. -/
def fnExactClearanceAtUptoRow : OpenClaim := { program := "ytkdekpnnnpembaa", sum := "85908367724711ca8d54ee7be3838db06f4ff0bb2851e969551121a528ccf6a2", func := "loop.example/g00935/laws.FnExactClearanceAt", spec := "fnExactClearanceAt", apart := false, narrowed := true }
def FnExactClearanceAtUptoSaid : Prop := fnExactClearanceAtUptoRow.holds Try.pinned (OpenSpec.upto fnExactClearanceAtSpec)

/-- 'laws.FnExactLowestClearance', WHERE WHAT IT READS IS OF BULK AT MOST 1048576: true; the input reads as it did. -/
def fnExactLowestClearanceUptoRow : OpenClaim := { program := "ytkdekpnnnpembaa", sum := "85908367724711ca8d54ee7be3838db06f4ff0bb2851e969551121a528ccf6a2", func := "loop.example/g00935/laws.FnExactLowestClearance", spec := "fnExactLowestClearance", unfollowed := true, recurses := true, apart := false, narrowed := true }
def FnExactLowestClearanceUptoSaid : Prop := fnExactLowestClearanceUptoRow.holds Try.pinned (OpenSpec.upto fnExactLowestClearanceSpec)

end Rows
end Go.Proofs.Ytkdekpnnnpembaa
