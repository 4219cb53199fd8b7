/-
  DERIVED. GIVEN WITH THE SEED: THE CARDS: each row of YtmdmlncdjdphdaaDoorRows.lean that lists a variable, with what it lists TIED to the program's text (the seventh form; the later family's looks); each row that meets fmt, with fmt's text TOLD by the authors' own Lean function (tested against real Go, not proved from fmt's source: count such statements apart). THE CARD IS WHAT COUNTS. Prove the row's statement (the work); the ties are given (YtmdmlncdjdphdaaDoorTie.lean); close each card by the builder's one call (the guide's Derived/Test/ToyasCard.lean, 'card_holds'). Laid BY PROGRAM, IN A SANDBOX (cutbox-door.mjs). By AI agents, Wed Nov 11 2026. No macro, syntax, notation, axiom, sorry.
-/
import Derived.Test.YtmdmlncdjdphdaaDoorRows
import GoSem.ClaimSeven
namespace Go.Proofs.YtmdmlncdjdphdaaDoor
namespace Rows

/-- THE TIED CARD OF 'laws.FnNameWire'. -/
def fnNameWireCard : Claim7 := { stood := { row := fnNameWireRow, standIns := [], harness := (true, "fcd93e040d019a7e7bd0e9e43c2c04e4baadcd5c42d823bb63d6cc961b39113f"), looks := false }, kinds := [], alts := [], laidByText := true, laidKinds := [.data, .pinned], laidTests := true, laidLooks := .later }
def FnNameWireCardSaid : Prop := Claim7.holds Tryd.pinned (.plain (OpenSpec.ofChange fnNameWireSpec)) fnNameWireCard

/-- THE TIED CARD OF 'laws.FnReverse'. -/
def fnReverseCard : Claim7 := { stood := { row := fnReverseRow, standIns := [], harness := (true, "fcd93e040d019a7e7bd0e9e43c2c04e4baadcd5c42d823bb63d6cc961b39113f"), looks := false }, kinds := [], alts := [], laidByText := true, laidKinds := [.data, .data, .data, .data, .pinned], laidTests := true, laidLooks := .later }
def FnReverseCardSaid : Prop := Claim7.holds Tryd.pinned (.plain (OpenSpec.ofChange fnReverseSpec)) fnReverseCard

/-- THE SECOND FORM's CARD OF 'laws.FnNameWire'. -/
def fnNameWireUptoCard : Claim7 := { stood := { row := fnNameWireUptoRow, standIns := [], harness := (true, "fcd93e040d019a7e7bd0e9e43c2c04e4baadcd5c42d823bb63d6cc961b39113f"), looks := false }, kinds := [], alts := [], laidByText := true, laidKinds := [.data, .pinned], laidTests := true, laidLooks := .later }
def FnNameWireUptoCardSaid : Prop := Claim7.holds Tryd.pinned (.plain (OpenSpec.upto fnNameWireSpec)) fnNameWireUptoCard

/-- THE SECOND FORM's CARD OF 'laws.FnReverse'. -/
def fnReverseUptoCard : Claim7 := { stood := { row := fnReverseUptoRow, standIns := [], harness := (true, "fcd93e040d019a7e7bd0e9e43c2c04e4baadcd5c42d823bb63d6cc961b39113f"), looks := false }, kinds := [], alts := [], laidByText := true, laidKinds := [.data, .data, .data, .data, .pinned], laidTests := true, laidLooks := .later }
def FnReverseUptoCardSaid : Prop := Claim7.holds Tryd.pinned (.plain (OpenSpec.upto fnReverseSpec)) fnReverseUptoCard
end Rows
end Go.Proofs.YtmdmlncdjdphdaaDoor
