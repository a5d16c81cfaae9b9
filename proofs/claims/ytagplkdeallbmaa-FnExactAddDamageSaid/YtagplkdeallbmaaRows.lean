/-
  No cell of these rows narrows 'for every input' (looked for: loops, veiled, ifaces, maps, wideKeys, modest, calm, conditions, laid).
  DERIVED. THE GIVEN ROWS OF THIS SEAT. 10 by the template 'for every input the law returns true; each argument reads behind the call as it read before'; 0 by the template 'total and deterministic' (their statements: YtagplkdeallbmaaTotals.lean).
  GIVEN WITH THE SEED: the statements are not yours to turn. If you find one false, say at which input.
  Laid BY PROGRAM, IN A SANDBOX (cutbox-rows.mjs): the forced cells as the released guide's own fill.sh prints them over the translation 80a43e4ceda3d107… (all of the seat's roots in one cut). By AI agents, Wed Nov 11 2026. No macro, syntax, notation, axiom, sorry.
-/
import Derived.Test.YtagplkdeallbmaaChecked
import GoSem.Claim
import GoSem.ClaimJoined
import GoSem.ClaimMapViews
import Derived.JoinedTies
import Derived.KernelRfl
namespace Go.Proofs.Ytagplkdeallbmaa
/- THE CELL 'sum', in the pinned program and in every row, IS THE sha256 OF THE DUMP (.gsa) THAT YtagplkdeallbmaaProg.lean LOADS. Nothing in Lean hashes anything: it is a label: what it is worth is what the hold of that sum in a sandbox is worth. -/
noncomputable def Try.pinned : Pinned := { name := "ytagplkdeallbmaa", sum := "80a43e4ceda3d107b3f4e8f2ed2c1088edb5a69bcdfe9b2a3b2694dc7ec85682", checked := Try.checked }
namespace Rows
def none {H : Type} : Left H := { results := [], args := [] }

/-- 'laws.FnExactIsRopeKind': WHATEVER THE INPUT: true; the input reads as it did. -/
def fnExactIsRopeKindSpec : ChangeSpec := { name := "fnExactIsRopeKind", fn := fun _ => fun
  | [d] => { results := [.lit (.bool true)], args := [d] }
  | _ => none }
def fnExactIsRopeKindRow : OpenClaim := { program := "ytagplkdeallbmaa", sum := "80a43e4ceda3d107b3f4e8f2ed2c1088edb5a69bcdfe9b2a3b2694dc7ec85682", func := "loop.example/g00935/laws.FnExactIsRopeKind", spec := "fnExactIsRopeKind", apart := false }
def FnExactIsRopeKindSaid : Prop := fnExactIsRopeKindRow.holds Try.pinned (OpenSpec.ofChange fnExactIsRopeKindSpec)

/-- ITS FALSE NEIGHBOUR: 'it returns false'. Refute it at one input. -/
def fnExactIsRopeKindWrong : ChangeSpec := { name := "fnExactIsRopeKind", fn := fun _ => fun
  | [d] => { results := [.lit (.bool false)], args := [d] }
  | _ => none }
def FnExactIsRopeKindWrongFalsely : Prop := fnExactIsRopeKindRow.holds Try.pinned (OpenSpec.ofChange fnExactIsRopeKindWrong)

/-- 'laws.FnExactRopeWeight': WHATEVER THE INPUT: true; the input reads as it did. -/
def fnExactRopeWeightSpec : ChangeSpec := { name := "fnExactRopeWeight", fn := fun _ => fun
  | [d1, d2] => { results := [.lit (.bool true)], args := [d1, d2] }
  | _ => none }
def fnExactRopeWeightRow : OpenClaim := { program := "ytagplkdeallbmaa", sum := "80a43e4ceda3d107b3f4e8f2ed2c1088edb5a69bcdfe9b2a3b2694dc7ec85682", func := "loop.example/g00935/laws.FnExactRopeWeight", spec := "fnExactRopeWeight", apart := false }
def FnExactRopeWeightSaid : Prop := fnExactRopeWeightRow.holds Try.pinned (OpenSpec.ofChange fnExactRopeWeightSpec)

/-- ITS FALSE NEIGHBOUR: 'it returns false'. Refute it at one input. -/
def fnExactRopeWeightWrong : ChangeSpec := { name := "fnExactRopeWeight", fn := fun _ => fun
  | [d1, d2] => { results := [.lit (.bool false)], args := [d1, d2] }
  | _ => none }
def FnExactRopeWeightWrongFalsely : Prop := fnExactRopeWeightRow.holds Try.pinned (OpenSpec.ofChange fnExactRopeWeightWrong)

/-- 'laws.FnExactAreRopeKinds': WHATEVER THE INPUT: true; the input reads as it did. -/
def fnExactAreRopeKindsSpec : ChangeSpec := { name := "fnExactAreRopeKinds", fn := fun _ => fun
  | [d] => { results := [.lit (.bool true)], args := [d] }
  | _ => none }
def fnExactAreRopeKindsRow : OpenClaim := { program := "ytagplkdeallbmaa", sum := "80a43e4ceda3d107b3f4e8f2ed2c1088edb5a69bcdfe9b2a3b2694dc7ec85682", func := "loop.example/g00935/laws.FnExactAreRopeKinds", spec := "fnExactAreRopeKinds", apart := false }
def FnExactAreRopeKindsSaid : Prop := fnExactAreRopeKindsRow.holds Try.pinned (OpenSpec.ofChange fnExactAreRopeKindsSpec)

/-- ITS FALSE NEIGHBOUR: 'it returns false'. Refute it at one input. -/
def fnExactAreRopeKindsWrong : ChangeSpec := { name := "fnExactAreRopeKinds", fn := fun _ => fun
  | [d] => { results := [.lit (.bool false)], args := [d] }
  | _ => none }
def FnExactAreRopeKindsWrongFalsely : Prop := fnExactAreRopeKindsRow.holds Try.pinned (OpenSpec.ofChange fnExactAreRopeKindsWrong)

/-- 'laws.FnExactLightestKind': WHATEVER THE INPUT: true; the input reads as it did. -/
def fnExactLightestKindSpec : ChangeSpec := { name := "fnExactLightestKind", fn := fun _ => fun
  | [d1, d2] => { results := [.lit (.bool true)], args := [d1, d2] }
  | _ => none }
def fnExactLightestKindRow : OpenClaim := { program := "ytagplkdeallbmaa", sum := "80a43e4ceda3d107b3f4e8f2ed2c1088edb5a69bcdfe9b2a3b2694dc7ec85682", func := "loop.example/g00935/laws.FnExactLightestKind", spec := "fnExactLightestKind", apart := false }
def FnExactLightestKindSaid : Prop := fnExactLightestKindRow.holds Try.pinned (OpenSpec.ofChange fnExactLightestKindSpec)

/-- ITS FALSE NEIGHBOUR: 'it returns false'. Refute it at one input. -/
def fnExactLightestKindWrong : ChangeSpec := { name := "fnExactLightestKind", fn := fun _ => fun
  | [d1, d2] => { results := [.lit (.bool false)], args := [d1, d2] }
  | _ => none }
def FnExactLightestKindWrongFalsely : Prop := fnExactLightestKindRow.holds Try.pinned (OpenSpec.ofChange fnExactLightestKindWrong)

/-- 'laws.FnExactAreDamages': WHATEVER THE INPUT: true; the input reads as it did. -/
def fnExactAreDamagesSpec : ChangeSpec := { name := "fnExactAreDamages", fn := fun _ => fun
  | [d1, d2] => { results := [.lit (.bool true)], args := [d1, d2] }
  | _ => none }
def fnExactAreDamagesRow : OpenClaim := { program := "ytagplkdeallbmaa", sum := "80a43e4ceda3d107b3f4e8f2ed2c1088edb5a69bcdfe9b2a3b2694dc7ec85682", func := "loop.example/g00935/laws.FnExactAreDamages", spec := "fnExactAreDamages", apart := false }
def FnExactAreDamagesSaid : Prop := fnExactAreDamagesRow.holds Try.pinned (OpenSpec.ofChange fnExactAreDamagesSpec)

/-- ITS FALSE NEIGHBOUR: 'it returns false'. Refute it at one input. -/
def fnExactAreDamagesWrong : ChangeSpec := { name := "fnExactAreDamages", fn := fun _ => fun
  | [d1, d2] => { results := [.lit (.bool false)], args := [d1, d2] }
  | _ => none }
def FnExactAreDamagesWrongFalsely : Prop := fnExactAreDamagesRow.holds Try.pinned (OpenSpec.ofChange fnExactAreDamagesWrong)

/-- 'laws.FnExactBrokenWires': WHATEVER THE INPUT: true; the input reads as it did. -/
def fnExactBrokenWiresSpec : ChangeSpec := { name := "fnExactBrokenWires", fn := fun _ => fun
  | [d1, d2, d3, d4] => { results := [.lit (.bool true)], args := [d1, d2, d3, d4] }
  | _ => none }
def fnExactBrokenWiresRow : OpenClaim := { program := "ytagplkdeallbmaa", sum := "80a43e4ceda3d107b3f4e8f2ed2c1088edb5a69bcdfe9b2a3b2694dc7ec85682", func := "loop.example/g00935/laws.FnExactBrokenWires", spec := "fnExactBrokenWires", apart := false }
def FnExactBrokenWiresSaid : Prop := fnExactBrokenWiresRow.holds Try.pinned (OpenSpec.ofChange fnExactBrokenWiresSpec)

/-- ITS FALSE NEIGHBOUR: 'it returns false'. Refute it at one input. -/
def fnExactBrokenWiresWrong : ChangeSpec := { name := "fnExactBrokenWires", fn := fun _ => fun
  | [d1, d2, d3, d4] => { results := [.lit (.bool false)], args := [d1, d2, d3, d4] }
  | _ => none }
def FnExactBrokenWiresWrongFalsely : Prop := fnExactBrokenWiresRow.holds Try.pinned (OpenSpec.ofChange fnExactBrokenWiresWrong)

/-- 'laws.FnExactWorstWindow': WHATEVER THE INPUT: true; the input reads as it did. -/
def fnExactWorstWindowSpec : ChangeSpec := { name := "fnExactWorstWindow", fn := fun _ => fun
  | [d1, d2, d3] => { results := [.lit (.bool true)], args := [d1, d2, d3] }
  | _ => none }
def fnExactWorstWindowRow : OpenClaim := { program := "ytagplkdeallbmaa", sum := "80a43e4ceda3d107b3f4e8f2ed2c1088edb5a69bcdfe9b2a3b2694dc7ec85682", func := "loop.example/g00935/laws.FnExactWorstWindow", spec := "fnExactWorstWindow", apart := false }
def FnExactWorstWindowSaid : Prop := fnExactWorstWindowRow.holds Try.pinned (OpenSpec.ofChange fnExactWorstWindowSpec)

/-- ITS FALSE NEIGHBOUR: 'it returns false'. Refute it at one input. -/
def fnExactWorstWindowWrong : ChangeSpec := { name := "fnExactWorstWindow", fn := fun _ => fun
  | [d1, d2, d3] => { results := [.lit (.bool false)], args := [d1, d2, d3] }
  | _ => none }
def FnExactWorstWindowWrongFalsely : Prop := fnExactWorstWindowRow.holds Try.pinned (OpenSpec.ofChange fnExactWorstWindowWrong)

/-- 'laws.FnExactStrengthLeft': WHATEVER THE INPUT: true; the input reads as it did. -/
def fnExactStrengthLeftSpec : ChangeSpec := { name := "fnExactStrengthLeft", fn := fun _ => fun
  | [d1, d2] => { results := [.lit (.bool true)], args := [d1, d2] }
  | _ => none }
def fnExactStrengthLeftRow : OpenClaim := { program := "ytagplkdeallbmaa", sum := "80a43e4ceda3d107b3f4e8f2ed2c1088edb5a69bcdfe9b2a3b2694dc7ec85682", func := "loop.example/g00935/laws.FnExactStrengthLeft", spec := "fnExactStrengthLeft", apart := false }
def FnExactStrengthLeftSaid : Prop := fnExactStrengthLeftRow.holds Try.pinned (OpenSpec.ofChange fnExactStrengthLeftSpec)

/-- ITS FALSE NEIGHBOUR: 'it returns false'. Refute it at one input. -/
def fnExactStrengthLeftWrong : ChangeSpec := { name := "fnExactStrengthLeft", fn := fun _ => fun
  | [d1, d2] => { results := [.lit (.bool false)], args := [d1, d2] }
  | _ => none }
def FnExactStrengthLeftWrongFalsely : Prop := fnExactStrengthLeftRow.holds Try.pinned (OpenSpec.ofChange fnExactStrengthLeftWrong)

/-- 'laws.FnExactRopeVerdict': WHATEVER THE INPUT: true; the input reads as it did. -/
def fnExactRopeVerdictSpec : ChangeSpec := { name := "fnExactRopeVerdict", fn := fun _ => fun
  | [d1, d2] => { results := [.lit (.bool true)], args := [d1, d2] }
  | _ => none }
def fnExactRopeVerdictRow : OpenClaim := { program := "ytagplkdeallbmaa", sum := "80a43e4ceda3d107b3f4e8f2ed2c1088edb5a69bcdfe9b2a3b2694dc7ec85682", func := "loop.example/g00935/laws.FnExactRopeVerdict", spec := "fnExactRopeVerdict", unfollowed := true, recurses := true, apart := false }
def FnExactRopeVerdictSaid : Prop := fnExactRopeVerdictRow.holds Try.pinned (OpenSpec.ofChange fnExactRopeVerdictSpec)

/-- ITS FALSE NEIGHBOUR: 'it returns false'. Refute it at one input. -/
def fnExactRopeVerdictWrong : ChangeSpec := { name := "fnExactRopeVerdict", fn := fun _ => fun
  | [d1, d2] => { results := [.lit (.bool false)], args := [d1, d2] }
  | _ => none }
def FnExactRopeVerdictWrongFalsely : Prop := fnExactRopeVerdictRow.holds Try.pinned (OpenSpec.ofChange fnExactRopeVerdictWrong)

/-- 'laws.FnExactAddDamage': WHATEVER THE INPUT: true; the input reads as it did. -/
def fnExactAddDamageSpec : ChangeSpec := { name := "fnExactAddDamage", fn := fun _ => fun
  | [d1, d2, d3] => { results := [.lit (.bool true)], args := [d1, d2, d3] }
  | _ => none }
def fnExactAddDamageRow : OpenClaim := { program := "ytagplkdeallbmaa", sum := "80a43e4ceda3d107b3f4e8f2ed2c1088edb5a69bcdfe9b2a3b2694dc7ec85682", func := "loop.example/g00935/laws.FnExactAddDamage", spec := "fnExactAddDamage", inPlace := ["slices.overlaps[loop.example/g00935/impl.Damage]"], unfollowed := true, recurses := true, apart := false }
def FnExactAddDamageSaid : Prop := fnExactAddDamageRow.holds Try.pinned (OpenSpec.ofChange fnExactAddDamageSpec)

/-- ITS FALSE NEIGHBOUR: 'it returns false'. Refute it at one input. -/
def fnExactAddDamageWrong : ChangeSpec := { name := "fnExactAddDamage", fn := fun _ => fun
  | [d1, d2, d3] => { results := [.lit (.bool false)], args := [d1, d2, d3] }
  | _ => none }
def FnExactAddDamageWrongFalsely : Prop := fnExactAddDamageRow.holds Try.pinned (OpenSpec.ofChange fnExactAddDamageWrong)

/- THE SECOND FORM. 'bulk': how many values and letters a reading holds, each counted each time it is reached (what is shared counts as often as it is met; a slice's spare places count too). A statement '..UptoSaid' is the law's where the arguments, and the package variables that the reading takes, are together of bulk at most 1048576: NARROWER than '..Said'. Prove '..Said' where nothing that the law and all that it calls make is longer than what came in: it says more and counts as full. Else prove '..UptoSaid'. A law counts once. -/
mutual
def uptoBulk {H : Type} : DataW H → Nat
  | .lit (.string bytes) => bytes.length + 1
  | .lit _ => 1
  | .nil => 1
  | .ptr d => uptoBulk d + 1
  | .slice elems spare => uptoBulkAll elems + uptoBulkAll spare + 1
  | .agg parts => uptoBulkAll parts + 1
  | .iface _ d => uptoBulk d + 1
  | .map entries => uptoBulkEntries entries + 1
  | .held _ => 1
def uptoBulkAll {H : Type} : List (DataW H) → Nat
  | [] => 0
  | d :: r => uptoBulk d + uptoBulkAll r
def uptoBulkEntries {H : Type} : List (Lit × DataW H) → Nat
  | [] => 0
  | x :: r => uptoBulkEntry x + uptoBulkEntries r
def uptoBulkEntry {H : Type} : Lit × DataW H → Nat
  | (.string bytes, d) => bytes.length + uptoBulk d + 1
  | (_, d) => uptoBulk d + 1
 end
def uptoSmall : (H : Type) → List (DataW H) → Bool := fun _ ds => decide (uptoBulkAll ds ≤ 1048576)
def OpenSpec.upto (s : _root_.Go.ChangeSpec) : _root_.Go.OpenSpec := { _root_.Go.OpenSpec.ofChange s with cond := some uptoSmall }

/-- 'laws.FnExactIsRopeKind', WHERE WHAT IT READS IS OF BULK AT MOST 1048576: true; the input reads as it did. -/
def fnExactIsRopeKindUptoRow : OpenClaim := { program := "ytagplkdeallbmaa", sum := "80a43e4ceda3d107b3f4e8f2ed2c1088edb5a69bcdfe9b2a3b2694dc7ec85682", func := "loop.example/g00935/laws.FnExactIsRopeKind", spec := "fnExactIsRopeKind", apart := false, narrowed := true }
def FnExactIsRopeKindUptoSaid : Prop := fnExactIsRopeKindUptoRow.holds Try.pinned (OpenSpec.upto fnExactIsRopeKindSpec)

/-- 'laws.FnExactRopeWeight', WHERE WHAT IT READS IS OF BULK AT MOST 1048576: true; the input reads as it did. -/
def fnExactRopeWeightUptoRow : OpenClaim := { program := "ytagplkdeallbmaa", sum := "80a43e4ceda3d107b3f4e8f2ed2c1088edb5a69bcdfe9b2a3b2694dc7ec85682", func := "loop.example/g00935/laws.FnExactRopeWeight", spec := "fnExactRopeWeight", apart := false, narrowed := true }
def FnExactRopeWeightUptoSaid : Prop := fnExactRopeWeightUptoRow.holds Try.pinned (OpenSpec.upto fnExactRopeWeightSpec)

/-- 'laws.FnExactAreRopeKinds', WHERE WHAT IT READS IS OF BULK AT MOST 1048576: true; the input reads as it did. -/
def fnExactAreRopeKindsUptoRow : OpenClaim := { program := "ytagplkdeallbmaa", sum := "80a43e4ceda3d107b3f4e8f2ed2c1088edb5a69bcdfe9b2a3b2694dc7ec85682", func := "loop.example/g00935/laws.FnExactAreRopeKinds", spec := "fnExactAreRopeKinds", apart := false, narrowed := true }
def FnExactAreRopeKindsUptoSaid : Prop := fnExactAreRopeKindsUptoRow.holds Try.pinned (OpenSpec.upto fnExactAreRopeKindsSpec)

/-- 'laws.FnExactLightestKind', WHERE WHAT IT READS IS OF BULK AT MOST 1048576: true; the input reads as it did. -/
def fnExactLightestKindUptoRow : OpenClaim := { program := "ytagplkdeallbmaa", sum := "80a43e4ceda3d107b3f4e8f2ed2c1088edb5a69bcdfe9b2a3b2694dc7ec85682", func := "loop.example/g00935/laws.FnExactLightestKind", spec := "fnExactLightestKind", apart := false, narrowed := true }
def FnExactLightestKindUptoSaid : Prop := fnExactLightestKindUptoRow.holds Try.pinned (OpenSpec.upto fnExactLightestKindSpec)

/-- 'laws.FnExactAreDamages', WHERE WHAT IT READS IS OF BULK AT MOST 1048576: true; the input reads as it did. -/
def fnExactAreDamagesUptoRow : OpenClaim := { program := "ytagplkdeallbmaa", sum := "80a43e4ceda3d107b3f4e8f2ed2c1088edb5a69bcdfe9b2a3b2694dc7ec85682", func := "loop.example/g00935/laws.FnExactAreDamages", spec := "fnExactAreDamages", apart := false, narrowed := true }
def FnExactAreDamagesUptoSaid : Prop := fnExactAreDamagesUptoRow.holds Try.pinned (OpenSpec.upto fnExactAreDamagesSpec)

/-- 'laws.FnExactBrokenWires', WHERE WHAT IT READS IS OF BULK AT MOST 1048576: true; the input reads as it did. -/
def fnExactBrokenWiresUptoRow : OpenClaim := { program := "ytagplkdeallbmaa", sum := "80a43e4ceda3d107b3f4e8f2ed2c1088edb5a69bcdfe9b2a3b2694dc7ec85682", func := "loop.example/g00935/laws.FnExactBrokenWires", spec := "fnExactBrokenWires", apart := false, narrowed := true }
def FnExactBrokenWiresUptoSaid : Prop := fnExactBrokenWiresUptoRow.holds Try.pinned (OpenSpec.upto fnExactBrokenWiresSpec)

/-- 'laws.FnExactWorstWindow', WHERE WHAT IT READS IS OF BULK AT MOST 1048576: true; the input reads as it did. -/
def fnExactWorstWindowUptoRow : OpenClaim := { program := "ytagplkdeallbmaa", sum := "80a43e4ceda3d107b3f4e8f2ed2c1088edb5a69bcdfe9b2a3b2694dc7ec85682", func := "loop.example/g00935/laws.FnExactWorstWindow", spec := "fnExactWorstWindow", apart := false, narrowed := true }
def FnExactWorstWindowUptoSaid : Prop := fnExactWorstWindowUptoRow.holds Try.pinned (OpenSpec.upto fnExactWorstWindowSpec)

/-- 'laws.FnExactStrengthLeft', WHERE WHAT IT READS IS OF BULK AT MOST 1048576: true; the input reads as it did. -/
def fnExactStrengthLeftUptoRow : OpenClaim := { program := "ytagplkdeallbmaa", sum := "80a43e4ceda3d107b3f4e8f2ed2c1088edb5a69bcdfe9b2a3b2694dc7ec85682", func := "loop.example/g00935/laws.FnExactStrengthLeft", spec := "fnExactStrengthLeft", apart := false, narrowed := true }
def FnExactStrengthLeftUptoSaid : Prop := fnExactStrengthLeftUptoRow.holds Try.pinned (OpenSpec.upto fnExactStrengthLeftSpec)

/-- 'laws.FnExactRopeVerdict', WHERE WHAT IT READS IS OF BULK AT MOST 1048576: true; the input reads as it did. -/
def fnExactRopeVerdictUptoRow : OpenClaim := { program := "ytagplkdeallbmaa", sum := "80a43e4ceda3d107b3f4e8f2ed2c1088edb5a69bcdfe9b2a3b2694dc7ec85682", func := "loop.example/g00935/laws.FnExactRopeVerdict", spec := "fnExactRopeVerdict", unfollowed := true, recurses := true, apart := false, narrowed := true }
def FnExactRopeVerdictUptoSaid : Prop := fnExactRopeVerdictUptoRow.holds Try.pinned (OpenSpec.upto fnExactRopeVerdictSpec)

/-- 'laws.FnExactAddDamage', WHERE WHAT IT READS IS OF BULK AT MOST 1048576: true; the input reads as it did. -/
def fnExactAddDamageUptoRow : OpenClaim := { program := "ytagplkdeallbmaa", sum := "80a43e4ceda3d107b3f4e8f2ed2c1088edb5a69bcdfe9b2a3b2694dc7ec85682", func := "loop.example/g00935/laws.FnExactAddDamage", spec := "fnExactAddDamage", inPlace := ["slices.overlaps[loop.example/g00935/impl.Damage]"], unfollowed := true, recurses := true, apart := false, narrowed := true }
def FnExactAddDamageUptoSaid : Prop := fnExactAddDamageUptoRow.holds Try.pinned (OpenSpec.upto fnExactAddDamageSpec)

end Rows
end Go.Proofs.Ytagplkdeallbmaa
