/-
  DERIVED. GIVEN WITH THE SEED: THE CARDS: each row of YtnibhaabhjgmgaaDoorRows.lean that lists a variable, with what it lists TIED to the program's text (the seventh form; the later family's looks); each row that meets fmt, with fmt's text TOLD by the authors' own Lean function (tested against real Go, not proved from fmt's source: count such statements apart). THE CARD IS WHAT COUNTS. Prove the row's statement (the work); the ties are given (YtnibhaabhjgmgaaDoorTie.lean); close each card by the builder's one call (the guide's Derived/Test/ToyasCard.lean, 'card_holds'). Laid BY PROGRAM, IN A SANDBOX (cutbox-door.mjs). By AI agents, Wed Nov 11 2026. No macro, syntax, notation, axiom, sorry.
-/
import Derived.Test.YtnibhaabhjgmgaaDoorRows
import GoSem.ClaimSeven
namespace Go.Proofs.YtnibhaabhjgmgaaDoor
namespace Rows

/-- THE TIED CARD OF 'laws.FnExactCabinText'. -/
def fnExactCabinTextCard : Claim7 := { stood := { row := fnExactCabinTextRow, standIns := [], harness := (true, "519d6cea98b54b64572f013942b33966b2a10405ac0dc1a0e30dcf7c6c5cdb9c"), looks := true }, kinds := [], alts := [], laidByText := true, laidKinds := [.data, .data, .data, .widerDeep], laidTests := true, laidLooks := .later }
def FnExactCabinTextCardSaid : Prop := Claim7.holds Tryd.pinned (.plain (OpenSpec.ofChange fnExactCabinTextSpec)) fnExactCabinTextCard

/-- THE TIED CARD OF 'laws.FnExactParseCabin'. -/
def fnExactParseCabinCard : Claim7 := { stood := { row := fnExactParseCabinRow, standIns := [], harness := (true, "519d6cea98b54b64572f013942b33966b2a10405ac0dc1a0e30dcf7c6c5cdb9c"), looks := true }, kinds := [], alts := [], laidByText := true, laidKinds := [.data, .data, .data, .data, .sentinel, .sentinel, .widerDeep, .pinned], laidTests := true, laidLooks := .later }
def FnExactParseCabinCardSaid : Prop := Claim7.holds Tryd.pinned (.plain (OpenSpec.ofChange fnExactParseCabinSpec)) fnExactParseCabinCard

/-- THE SECOND FORM's CARD OF 'laws.FnExactCabinText'. -/
def fnExactCabinTextUptoCard : Claim7 := { stood := { row := fnExactCabinTextUptoRow, standIns := [], harness := (true, "519d6cea98b54b64572f013942b33966b2a10405ac0dc1a0e30dcf7c6c5cdb9c"), looks := true }, kinds := [], alts := [], laidByText := true, laidKinds := [.data, .data, .data, .widerDeep], laidTests := true, laidLooks := .later }
def FnExactCabinTextUptoCardSaid : Prop := Claim7.holds Tryd.pinned (.plain (OpenSpec.upto fnExactCabinTextSpec)) fnExactCabinTextUptoCard

/-- THE SECOND FORM's CARD OF 'laws.FnExactParseCabin'. -/
def fnExactParseCabinUptoCard : Claim7 := { stood := { row := fnExactParseCabinUptoRow, standIns := [], harness := (true, "519d6cea98b54b64572f013942b33966b2a10405ac0dc1a0e30dcf7c6c5cdb9c"), looks := true }, kinds := [], alts := [], laidByText := true, laidKinds := [.data, .data, .data, .data, .sentinel, .sentinel, .widerDeep, .pinned], laidTests := true, laidLooks := .later }
def FnExactParseCabinUptoCardSaid : Prop := Claim7.holds Tryd.pinned (.plain (OpenSpec.upto fnExactParseCabinSpec)) fnExactParseCabinUptoCard
end Rows
end Go.Proofs.YtnibhaabhjgmgaaDoor
