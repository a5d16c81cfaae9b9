/-
  No cell of these rows narrows 'for every input' (looked for: loops, veiled, ifaces, maps, wideKeys, modest, calm, conditions, laid).
  DERIVED. THE GIVEN ROWS OF THIS SEAT. 5 by the template 'for every input the law returns true; each argument reads behind the call as it read before'; 0 by the template 'total and deterministic' (their statements: YtfchkhpllimkeaaTotals.lean).
  GIVEN WITH THE SEED: the statements are not yours to turn. If you find one false, say at which input.
  Laid BY PROGRAM, IN A SANDBOX (cutbox-rows.mjs): the forced cells as the released guide's own fill.sh prints them over the translation c66640a4af432abb… (all of the seat's roots in one cut). By AI agents, Wed Nov 11 2026. No macro, syntax, notation, axiom, sorry.
-/
import Derived.Test.YtfchkhpllimkeaaChecked
import GoSem.Claim
import GoSem.ClaimJoined
import GoSem.ClaimMapViews
import Derived.JoinedTies
import Derived.KernelRfl
namespace Go.Proofs.Ytfchkhpllimkeaa
/- THE CELL 'sum', in the pinned program and in every row, IS THE sha256 OF THE DUMP (.gsa) THAT YtfchkhpllimkeaaProg.lean LOADS. Nothing in Lean hashes anything: it is a label: what it is worth is what the hold of that sum in a sandbox is worth. -/
noncomputable def Try.pinned : Pinned := { name := "ytfchkhpllimkeaa", sum := "c66640a4af432abb7b85db388f47236325df9a29e01c5c64ea5985ffbfc2ff7c", checked := Try.checked }
namespace Rows
def none {H : Type} : Left H := { results := [], args := [] }

/-- 'laws.FnExactIsGrip': WHATEVER THE INPUT: true; the input reads as it did. -/
def fnExactIsGripSpec : ChangeSpec := { name := "fnExactIsGrip", fn := fun _ => fun
  | [d] => { results := [.lit (.bool true)], args := [d] }
  | _ => none }
def fnExactIsGripRow : OpenClaim := { program := "ytfchkhpllimkeaa", sum := "c66640a4af432abb7b85db388f47236325df9a29e01c5c64ea5985ffbfc2ff7c", func := "loop.example/g00935/laws.FnExactIsGrip", spec := "fnExactIsGrip", apart := false }
def FnExactIsGripSaid : Prop := fnExactIsGripRow.holds Try.pinned (OpenSpec.ofChange fnExactIsGripSpec)

/-- ITS FALSE NEIGHBOUR: 'it returns false'. Refute it at one input. -/
def fnExactIsGripWrong : ChangeSpec := { name := "fnExactIsGrip", fn := fun _ => fun
  | [d] => { results := [.lit (.bool false)], args := [d] }
  | _ => none }
def FnExactIsGripWrongFalsely : Prop := fnExactIsGripRow.holds Try.pinned (OpenSpec.ofChange fnExactIsGripWrong)

/-- 'laws.FnExactPullOf': WHATEVER THE INPUT: true; the input reads as it did. -/
def fnExactPullOfSpec : ChangeSpec := { name := "fnExactPullOf", fn := fun _ => fun
  | [d1, d2] => { results := [.lit (.bool true)], args := [d1, d2] }
  | _ => none }
def fnExactPullOfRow : OpenClaim := { program := "ytfchkhpllimkeaa", sum := "c66640a4af432abb7b85db388f47236325df9a29e01c5c64ea5985ffbfc2ff7c", func := "loop.example/g00935/laws.FnExactPullOf", spec := "fnExactPullOf", apart := false }
def FnExactPullOfSaid : Prop := fnExactPullOfRow.holds Try.pinned (OpenSpec.ofChange fnExactPullOfSpec)

/-- ITS FALSE NEIGHBOUR: 'it returns false'. Refute it at one input. -/
def fnExactPullOfWrong : ChangeSpec := { name := "fnExactPullOf", fn := fun _ => fun
  | [d1, d2] => { results := [.lit (.bool false)], args := [d1, d2] }
  | _ => none }
def FnExactPullOfWrongFalsely : Prop := fnExactPullOfRow.holds Try.pinned (OpenSpec.ofChange fnExactPullOfWrong)

/-- 'laws.FnExactDoesHold': WHATEVER THE INPUT: true; the input reads as it did. -/
def fnExactDoesHoldSpec : ChangeSpec := { name := "fnExactDoesHold", fn := fun _ => fun
  | [d1, d2, d3] => { results := [.lit (.bool true)], args := [d1, d2, d3] }
  | _ => none }
def fnExactDoesHoldRow : OpenClaim := { program := "ytfchkhpllimkeaa", sum := "c66640a4af432abb7b85db388f47236325df9a29e01c5c64ea5985ffbfc2ff7c", func := "loop.example/g00935/laws.FnExactDoesHold", spec := "fnExactDoesHold", apart := false }
def FnExactDoesHoldSaid : Prop := fnExactDoesHoldRow.holds Try.pinned (OpenSpec.ofChange fnExactDoesHoldSpec)

/-- ITS FALSE NEIGHBOUR: 'it returns false'. Refute it at one input. -/
def fnExactDoesHoldWrong : ChangeSpec := { name := "fnExactDoesHold", fn := fun _ => fun
  | [d1, d2, d3] => { results := [.lit (.bool false)], args := [d1, d2, d3] }
  | _ => none }
def FnExactDoesHoldWrongFalsely : Prop := fnExactDoesHoldRow.holds Try.pinned (OpenSpec.ofChange fnExactDoesHoldWrong)

/-- 'laws.FnExactSteepestHeld': WHATEVER THE INPUT: true; the input reads as it did. -/
def fnExactSteepestHeldSpec : ChangeSpec := { name := "fnExactSteepestHeld", fn := fun _ => fun
  | [d1, d2] => { results := [.lit (.bool true)], args := [d1, d2] }
  | _ => none }
def fnExactSteepestHeldRow : OpenClaim := { program := "ytfchkhpllimkeaa", sum := "c66640a4af432abb7b85db388f47236325df9a29e01c5c64ea5985ffbfc2ff7c", func := "loop.example/g00935/laws.FnExactSteepestHeld", spec := "fnExactSteepestHeld", apart := false }
def FnExactSteepestHeldSaid : Prop := fnExactSteepestHeldRow.holds Try.pinned (OpenSpec.ofChange fnExactSteepestHeldSpec)

/-- ITS FALSE NEIGHBOUR: 'it returns false'. Refute it at one input. -/
def fnExactSteepestHeldWrong : ChangeSpec := { name := "fnExactSteepestHeld", fn := fun _ => fun
  | [d1, d2] => { results := [.lit (.bool false)], args := [d1, d2] }
  | _ => none }
def FnExactSteepestHeldWrongFalsely : Prop := fnExactSteepestHeldRow.holds Try.pinned (OpenSpec.ofChange fnExactSteepestHeldWrong)

/-- 'laws.FnExactAreGrips': WHATEVER THE INPUT: true; the input reads as it did. -/
def fnExactAreGripsSpec : ChangeSpec := { name := "fnExactAreGrips", fn := fun _ => fun
  | [d] => { results := [.lit (.bool true)], args := [d] }
  | _ => none }
def fnExactAreGripsRow : OpenClaim := { program := "ytfchkhpllimkeaa", sum := "c66640a4af432abb7b85db388f47236325df9a29e01c5c64ea5985ffbfc2ff7c", func := "loop.example/g00935/laws.FnExactAreGrips", spec := "fnExactAreGrips", apart := false }
def FnExactAreGripsSaid : Prop := fnExactAreGripsRow.holds Try.pinned (OpenSpec.ofChange fnExactAreGripsSpec)

/-- ITS FALSE NEIGHBOUR: 'it returns false'. Refute it at one input. -/
def fnExactAreGripsWrong : ChangeSpec := { name := "fnExactAreGrips", fn := fun _ => fun
  | [d] => { results := [.lit (.bool false)], args := [d] }
  | _ => none }
def FnExactAreGripsWrongFalsely : Prop := fnExactAreGripsRow.holds Try.pinned (OpenSpec.ofChange fnExactAreGripsWrong)

/- THE SECOND FORM. 'bulk': how many values and letters a reading holds, each counted each time it is reached (what is shared counts as often as it is met; a slice's spare places count too). A statement '..UptoSaid' is the law's where the arguments, and the package variables that the reading takes, are together of bulk at most 1048576: NARROWER than '..Said'. Prove '..Said' where nothing that the law and all that it calls make is longer than what came in: it says more and counts as full. Else prove '..UptoSaid'. A law counts once. -/
mutual
def uptoBulk {H : Type} : DataW H → Nat
  | .lit (.string bytes) => bytes.length + 1
  | .lit _ => 1
  | .nil => 1
  | .ptr d => uptoBulk d + 1
  | .slice elems spare => uptoBulkAll elems + uptoBulkAll spare + 1
  | .agg parts => uptoBulkAll parts + 1
  | .iface _ d => uptoBulk d + 1
  | .map entries => uptoBulkEntries entries + 1
  | .held _ => 1
def uptoBulkAll {H : Type} : List (DataW H) → Nat
  | [] => 0
  | d :: r => uptoBulk d + uptoBulkAll r
def uptoBulkEntries {H : Type} : List (Lit × DataW H) → Nat
  | [] => 0
  | x :: r => uptoBulkEntry x + uptoBulkEntries r
def uptoBulkEntry {H : Type} : Lit × DataW H → Nat
  | (.string bytes, d) => bytes.length + uptoBulk d + 1
  | (_, d) => uptoBulk d + 1
 end
def uptoSmall : (H : Type) → List (DataW H) → Bool := fun _ ds => decide (uptoBulkAll ds ≤ 1048576)
def OpenSpec.upto (s : _root_.Go.ChangeSpec) : _root_.Go.OpenSpec := { _root_.Go.OpenSpec.ofChange s with cond := some uptoSmall }

/-- 'laws.FnExactIsGrip', WHERE WHAT IT READS IS OF BULK AT MOST 1048576: true; the input reads as it did. -/
def fnExactIsGripUptoRow : OpenClaim := { program := "ytfchkhpllimkeaa", sum := "c66640a4af432abb7b85db388f47236325df9a29e01c5c64ea5985ffbfc2ff7c", func := "loop.example/g00935/laws.FnExactIsGrip", spec := "fnExactIsGrip", apart := false, narrowed := true }
def FnExactIsGripUptoSaid : Prop := fnExactIsGripUptoRow.holds Try.pinned (OpenSpec.upto fnExactIsGripSpec)

/-- 'laws.FnExactPullOf', WHERE WHAT IT READS IS OF BULK AT MOST 1048576: true; the input reads as it did. -/
def fnExactPullOfUptoRow : OpenClaim := { program := "ytfchkhpllimkeaa", sum := "c66640a4af432abb7b85db388f47236325df9a29e01c5c64ea5985ffbfc2ff7c", func := "loop.example/g00935/laws.FnExactPullOf", spec := "fnExactPullOf", apart := false, narrowed := true }
def FnExactPullOfUptoSaid : Prop := fnExactPullOfUptoRow.holds Try.pinned (OpenSpec.upto fnExactPullOfSpec)

/-- 'laws.FnExactDoesHold', WHERE WHAT IT READS IS OF BULK AT MOST 1048576: true; the input reads as it did. -/
def fnExactDoesHoldUptoRow : OpenClaim := { program := "ytfchkhpllimkeaa", sum := "c66640a4af432abb7b85db388f47236325df9a29e01c5c64ea5985ffbfc2ff7c", func := "loop.example/g00935/laws.FnExactDoesHold", spec := "fnExactDoesHold", apart := false, narrowed := true }
def FnExactDoesHoldUptoSaid : Prop := fnExactDoesHoldUptoRow.holds Try.pinned (OpenSpec.upto fnExactDoesHoldSpec)

/-- 'laws.FnExactSteepestHeld', WHERE WHAT IT READS IS OF BULK AT MOST 1048576: true; the input reads as it did. -/
def fnExactSteepestHeldUptoRow : OpenClaim := { program := "ytfchkhpllimkeaa", sum := "c66640a4af432abb7b85db388f47236325df9a29e01c5c64ea5985ffbfc2ff7c", func := "loop.example/g00935/laws.FnExactSteepestHeld", spec := "fnExactSteepestHeld", apart := false, narrowed := true }
def FnExactSteepestHeldUptoSaid : Prop := fnExactSteepestHeldUptoRow.holds Try.pinned (OpenSpec.upto fnExactSteepestHeldSpec)

/-- 'laws.FnExactAreGrips', WHERE WHAT IT READS IS OF BULK AT MOST 1048576: true; the input reads as it did. -/
def fnExactAreGripsUptoRow : OpenClaim := { program := "ytfchkhpllimkeaa", sum := "c66640a4af432abb7b85db388f47236325df9a29e01c5c64ea5985ffbfc2ff7c", func := "loop.example/g00935/laws.FnExactAreGrips", spec := "fnExactAreGrips", apart := false, narrowed := true }
def FnExactAreGripsUptoSaid : Prop := fnExactAreGripsUptoRow.holds Try.pinned (OpenSpec.upto fnExactAreGripsSpec)

end Rows
end Go.Proofs.Ytfchkhpllimkeaa
