/-
  DERIVED. GIVEN WITH THE SEED: THE CARDS: each row of YteakffedlojcmaaDoorRows.lean that lists a variable, with what it lists TIED to the program's text (the seventh form; the later family's looks); each row that meets fmt, with fmt's text TOLD by the authors' own Lean function (tested against real Go, not proved from fmt's source: count such statements apart). THE CARD IS WHAT COUNTS. Prove the row's statement (the work); the ties are given (YteakffedlojcmaaDoorTie.lean); close each card by the builder's one call (the guide's Derived/Test/ToyasCard.lean, 'card_holds'). Laid BY PROGRAM, IN A SANDBOX (cutbox-door.mjs). By AI agents, Wed Nov 11 2026. No macro, syntax, notation, axiom, sorry.
-/
import Derived.Test.YteakffedlojcmaaDoorRows
import GoSem.ClaimSeven
namespace Go.Proofs.YteakffedlojcmaaDoor
namespace Rows

/-- THE TIED CARD OF 'laws.FnExactFormatInt'. -/
def fnExactFormatIntCard : Claim7 := { stood := { row := fnExactFormatIntRow, standIns := [], harness := (true, "83270702097e22c459182831c0d730c385422880fea170bb2b6ecc75dce46f39"), looks := true }, kinds := [], alts := [], laidByText := true, laidKinds := [.data, .data, .data], laidTests := true, laidLooks := .later }
def FnExactFormatIntCardSaid : Prop := Claim7.holds Tryd.pinned (.plain (OpenSpec.ofChange fnExactFormatIntSpec)) fnExactFormatIntCard

/-- THE TIED CARD OF 'laws.FnExactSplitString'. -/
def fnExactSplitStringCard : Claim7 := { stood := { row := fnExactSplitStringRow, standIns := [], harness := (true, "83270702097e22c459182831c0d730c385422880fea170bb2b6ecc75dce46f39"), looks := true }, kinds := [], alts := [], laidByText := true, laidKinds := [.data, .pinned], laidTests := true, laidLooks := .later }
def FnExactSplitStringCardSaid : Prop := Claim7.holds Tryd.pinned (.plain (OpenSpec.ofChange fnExactSplitStringSpec)) fnExactSplitStringCard

/-- THE TIED CARD OF 'laws.FnExactAppendChecksum'. -/
def fnExactAppendChecksumCard : Claim7 := { stood := { row := fnExactAppendChecksumRow, standIns := [], harness := (true, "83270702097e22c459182831c0d730c385422880fea170bb2b6ecc75dce46f39"), looks := true }, kinds := [], alts := [], laidByText := true, laidKinds := [.data, .data, .data], laidTests := true, laidLooks := .later }
def FnExactAppendChecksumCardSaid : Prop := Claim7.holds Tryd.pinned (.plain (OpenSpec.ofChange fnExactAppendChecksumSpec)) fnExactAppendChecksumCard

/-- THE TIED CARD OF 'laws.FnExactVerifyChecksum'. -/
def fnExactVerifyChecksumCard : Claim7 := { stood := { row := fnExactVerifyChecksumRow, standIns := [], harness := (true, "83270702097e22c459182831c0d730c385422880fea170bb2b6ecc75dce46f39"), looks := true }, kinds := [], alts := [], laidByText := true, laidKinds := [.data, .data, .data], laidTests := true, laidLooks := .later }
def FnExactVerifyChecksumCardSaid : Prop := Claim7.holds Tryd.pinned (.plain (OpenSpec.ofChange fnExactVerifyChecksumSpec)) fnExactVerifyChecksumCard

/-- THE TIED CARD OF 'laws.FnExactParseInt'. -/
def fnExactParseIntCard : Claim7 := { stood := { row := fnExactParseIntRow, standIns := [], harness := (true, "83270702097e22c459182831c0d730c385422880fea170bb2b6ecc75dce46f39"), looks := true }, kinds := [], alts := [], laidByText := true, laidKinds := [.data, .data, .data, .sentinel, .sentinel], laidTests := true, laidLooks := .later }
def FnExactParseIntCardSaid : Prop := Claim7.holds Tryd.pinned (.plain (OpenSpec.ofChange fnExactParseIntSpec)) fnExactParseIntCard

/-- THE TIED CARD OF 'laws.FnExactLineText'. -/
def fnExactLineTextCard : Claim7 := { stood := { row := fnExactLineTextRow, standIns := [], harness := (true, "83270702097e22c459182831c0d730c385422880fea170bb2b6ecc75dce46f39"), looks := true }, kinds := [], alts := [], laidByText := true, laidKinds := [.data, .data, .data], laidTests := true, laidLooks := .later }
def FnExactLineTextCardSaid : Prop := Claim7.holds Tryd.pinned (.plain (OpenSpec.ofChange fnExactLineTextSpec)) fnExactLineTextCard

/-- THE TIED CARD OF 'laws.FnExactParseLine'. -/
def fnExactParseLineCard : Claim7 := { stood := { row := fnExactParseLineRow, standIns := [], harness := (true, "83270702097e22c459182831c0d730c385422880fea170bb2b6ecc75dce46f39"), looks := true }, kinds := [], alts := [], laidByText := true, laidKinds := [.data, .data, .data, .data, .sentinel, .sentinel, .pinned], laidTests := true, laidLooks := .later }
def FnExactParseLineCardSaid : Prop := Claim7.holds Tryd.pinned (.plain (OpenSpec.ofChange fnExactParseLineSpec)) fnExactParseLineCard

/-- THE SECOND FORM's CARD OF 'laws.FnExactFormatInt'. -/
def fnExactFormatIntUptoCard : Claim7 := { stood := { row := fnExactFormatIntUptoRow, standIns := [], harness := (true, "83270702097e22c459182831c0d730c385422880fea170bb2b6ecc75dce46f39"), looks := true }, kinds := [], alts := [], laidByText := true, laidKinds := [.data, .data, .data], laidTests := true, laidLooks := .later }
def FnExactFormatIntUptoCardSaid : Prop := Claim7.holds Tryd.pinned (.plain (OpenSpec.upto fnExactFormatIntSpec)) fnExactFormatIntUptoCard

/-- THE SECOND FORM's CARD OF 'laws.FnExactSplitString'. -/
def fnExactSplitStringUptoCard : Claim7 := { stood := { row := fnExactSplitStringUptoRow, standIns := [], harness := (true, "83270702097e22c459182831c0d730c385422880fea170bb2b6ecc75dce46f39"), looks := true }, kinds := [], alts := [], laidByText := true, laidKinds := [.data, .pinned], laidTests := true, laidLooks := .later }
def FnExactSplitStringUptoCardSaid : Prop := Claim7.holds Tryd.pinned (.plain (OpenSpec.upto fnExactSplitStringSpec)) fnExactSplitStringUptoCard

/-- THE SECOND FORM's CARD OF 'laws.FnExactAppendChecksum'. -/
def fnExactAppendChecksumUptoCard : Claim7 := { stood := { row := fnExactAppendChecksumUptoRow, standIns := [], harness := (true, "83270702097e22c459182831c0d730c385422880fea170bb2b6ecc75dce46f39"), looks := true }, kinds := [], alts := [], laidByText := true, laidKinds := [.data, .data, .data], laidTests := true, laidLooks := .later }
def FnExactAppendChecksumUptoCardSaid : Prop := Claim7.holds Tryd.pinned (.plain (OpenSpec.upto fnExactAppendChecksumSpec)) fnExactAppendChecksumUptoCard

/-- THE SECOND FORM's CARD OF 'laws.FnExactVerifyChecksum'. -/
def fnExactVerifyChecksumUptoCard : Claim7 := { stood := { row := fnExactVerifyChecksumUptoRow, standIns := [], harness := (true, "83270702097e22c459182831c0d730c385422880fea170bb2b6ecc75dce46f39"), looks := true }, kinds := [], alts := [], laidByText := true, laidKinds := [.data, .data, .data], laidTests := true, laidLooks := .later }
def FnExactVerifyChecksumUptoCardSaid : Prop := Claim7.holds Tryd.pinned (.plain (OpenSpec.upto fnExactVerifyChecksumSpec)) fnExactVerifyChecksumUptoCard

/-- THE SECOND FORM's CARD OF 'laws.FnExactParseInt'. -/
def fnExactParseIntUptoCard : Claim7 := { stood := { row := fnExactParseIntUptoRow, standIns := [], harness := (true, "83270702097e22c459182831c0d730c385422880fea170bb2b6ecc75dce46f39"), looks := true }, kinds := [], alts := [], laidByText := true, laidKinds := [.data, .data, .data, .sentinel, .sentinel], laidTests := true, laidLooks := .later }
def FnExactParseIntUptoCardSaid : Prop := Claim7.holds Tryd.pinned (.plain (OpenSpec.upto fnExactParseIntSpec)) fnExactParseIntUptoCard

/-- THE SECOND FORM's CARD OF 'laws.FnExactLineText'. -/
def fnExactLineTextUptoCard : Claim7 := { stood := { row := fnExactLineTextUptoRow, standIns := [], harness := (true, "83270702097e22c459182831c0d730c385422880fea170bb2b6ecc75dce46f39"), looks := true }, kinds := [], alts := [], laidByText := true, laidKinds := [.data, .data, .data], laidTests := true, laidLooks := .later }
def FnExactLineTextUptoCardSaid : Prop := Claim7.holds Tryd.pinned (.plain (OpenSpec.upto fnExactLineTextSpec)) fnExactLineTextUptoCard

/-- THE SECOND FORM's CARD OF 'laws.FnExactParseLine'. -/
def fnExactParseLineUptoCard : Claim7 := { stood := { row := fnExactParseLineUptoRow, standIns := [], harness := (true, "83270702097e22c459182831c0d730c385422880fea170bb2b6ecc75dce46f39"), looks := true }, kinds := [], alts := [], laidByText := true, laidKinds := [.data, .data, .data, .data, .sentinel, .sentinel, .pinned], laidTests := true, laidLooks := .later }
def FnExactParseLineUptoCardSaid : Prop := Claim7.holds Tryd.pinned (.plain (OpenSpec.upto fnExactParseLineSpec)) fnExactParseLineUptoCard
end Rows
end Go.Proofs.YteakffedlojcmaaDoor
