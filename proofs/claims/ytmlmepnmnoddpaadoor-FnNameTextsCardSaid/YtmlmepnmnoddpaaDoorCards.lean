/-
  DERIVED. GIVEN WITH THE SEED: THE CARDS: each row of YtmlmepnmnoddpaaDoorRows.lean that lists a variable, with what it lists TIED to the program's text (the seventh form; the later family's looks); each row that meets fmt, with fmt's text TOLD by the authors' own Lean function (tested against real Go, not proved from fmt's source: count such statements apart). THE CARD IS WHAT COUNTS. Prove the row's statement (the work); the ties are given (YtmlmepnmnoddpaaDoorTie.lean); close each card by the builder's one call (the guide's Derived/Test/ToyasCard.lean, 'card_holds'). Laid BY PROGRAM, IN A SANDBOX (cutbox-door.mjs). By AI agents, Wed Nov 11 2026. No macro, syntax, notation, axiom, sorry.
-/
import Derived.Test.YtmlmepnmnoddpaaDoorRows
import GoSem.ClaimSeven
namespace Go.Proofs.YtmlmepnmnoddpaaDoor
namespace Rows

/-- THE TIED CARD OF 'laws.FnExactNameRead'. -/
def fnExactNameReadCard : Claim7 := { stood := { row := fnExactNameReadRow, standIns := [], harness := (true, "c12c99a15e4680c8117d7dd063dba9f9a2e133299ba779965bbb003b7fb89b87"), looks := false }, kinds := [], alts := [], laidByText := true, laidKinds := [.data, .pinned], laidTests := true, laidLooks := .later }
def FnExactNameReadCardSaid : Prop := Claim7.holds Tryd.pinned (.plain (OpenSpec.ofChange fnExactNameReadSpec)) fnExactNameReadCard

/-- THE TIED CARD OF 'laws.FnNameTexts'. -/
def fnNameTextsCard : Claim7 := { stood := { row := fnNameTextsRow, standIns := [], harness := (true, "c12c99a15e4680c8117d7dd063dba9f9a2e133299ba779965bbb003b7fb89b87"), looks := false }, kinds := [], alts := [], laidByText := true, laidKinds := [.data, .pinned], laidTests := true, laidLooks := .later }
def FnNameTextsCardSaid : Prop := Claim7.holds Tryd.pinned (.plain (OpenSpec.ofChange fnNameTextsSpec)) fnNameTextsCard

/-- THE TIED CARD OF 'laws.FnNameWire'. -/
def fnNameWireCard : Claim7 := { stood := { row := fnNameWireRow, standIns := [], harness := (true, "c12c99a15e4680c8117d7dd063dba9f9a2e133299ba779965bbb003b7fb89b87"), looks := false }, kinds := [], alts := [], laidByText := true, laidKinds := [.data, .pinned], laidTests := true, laidLooks := .later }
def FnNameWireCardSaid : Prop := Claim7.holds Tryd.pinned (.plain (OpenSpec.ofChange fnNameWireSpec)) fnNameWireCard

/-- THE TIED CARD OF 'laws.FnReverse'. -/
def fnReverseCard : Claim7 := { stood := { row := fnReverseRow, standIns := [], harness := (true, "c12c99a15e4680c8117d7dd063dba9f9a2e133299ba779965bbb003b7fb89b87"), looks := false }, kinds := [], alts := [], laidByText := true, laidKinds := [.data, .data, .data, .data, .pinned], laidTests := true, laidLooks := .later }
def FnReverseCardSaid : Prop := Claim7.holds Tryd.pinned (.plain (OpenSpec.ofChange fnReverseSpec)) fnReverseCard

/-- THE SECOND FORM's CARD OF 'laws.FnExactNameRead'. -/
def fnExactNameReadUptoCard : Claim7 := { stood := { row := fnExactNameReadUptoRow, standIns := [], harness := (true, "c12c99a15e4680c8117d7dd063dba9f9a2e133299ba779965bbb003b7fb89b87"), looks := false }, kinds := [], alts := [], laidByText := true, laidKinds := [.data, .pinned], laidTests := true, laidLooks := .later }
def FnExactNameReadUptoCardSaid : Prop := Claim7.holds Tryd.pinned (.plain (OpenSpec.upto fnExactNameReadSpec)) fnExactNameReadUptoCard

/-- THE SECOND FORM's CARD OF 'laws.FnNameTexts'. -/
def fnNameTextsUptoCard : Claim7 := { stood := { row := fnNameTextsUptoRow, standIns := [], harness := (true, "c12c99a15e4680c8117d7dd063dba9f9a2e133299ba779965bbb003b7fb89b87"), looks := false }, kinds := [], alts := [], laidByText := true, laidKinds := [.data, .pinned], laidTests := true, laidLooks := .later }
def FnNameTextsUptoCardSaid : Prop := Claim7.holds Tryd.pinned (.plain (OpenSpec.upto fnNameTextsSpec)) fnNameTextsUptoCard

/-- THE SECOND FORM's CARD OF 'laws.FnNameWire'. -/
def fnNameWireUptoCard : Claim7 := { stood := { row := fnNameWireUptoRow, standIns := [], harness := (true, "c12c99a15e4680c8117d7dd063dba9f9a2e133299ba779965bbb003b7fb89b87"), looks := false }, kinds := [], alts := [], laidByText := true, laidKinds := [.data, .pinned], laidTests := true, laidLooks := .later }
def FnNameWireUptoCardSaid : Prop := Claim7.holds Tryd.pinned (.plain (OpenSpec.upto fnNameWireSpec)) fnNameWireUptoCard

/-- THE SECOND FORM's CARD OF 'laws.FnReverse'. -/
def fnReverseUptoCard : Claim7 := { stood := { row := fnReverseUptoRow, standIns := [], harness := (true, "c12c99a15e4680c8117d7dd063dba9f9a2e133299ba779965bbb003b7fb89b87"), looks := false }, kinds := [], alts := [], laidByText := true, laidKinds := [.data, .data, .data, .data, .pinned], laidTests := true, laidLooks := .later }
def FnReverseUptoCardSaid : Prop := Claim7.holds Tryd.pinned (.plain (OpenSpec.upto fnReverseSpec)) fnReverseUptoCard
end Rows
end Go.Proofs.YtmlmepnmnoddpaaDoor
