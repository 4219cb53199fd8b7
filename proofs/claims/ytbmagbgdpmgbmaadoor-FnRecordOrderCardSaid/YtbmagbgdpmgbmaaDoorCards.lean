/-
  DERIVED. GIVEN WITH THE SEED: THE CARDS: each row of YtbmagbgdpmgbmaaDoorRows.lean that lists a variable, with what it lists TIED to the program's text (the seventh form; the later family's looks); each row that meets fmt, with fmt's text TOLD by the authors' own Lean function (tested against real Go, not proved from fmt's source: count such statements apart). THE CARD IS WHAT COUNTS. Prove the row's statement (the work); the ties are given (YtbmagbgdpmgbmaaDoorTie.lean); close each card by the builder's one call (the guide's Derived/Test/ToyasCard.lean, 'card_holds'). Laid BY PROGRAM, IN A SANDBOX (cutbox-door.mjs). By AI agents, Wed Nov 11 2026. No macro, syntax, notation, axiom, sorry.
-/
import Derived.Test.YtbmagbgdpmgbmaaDoorRows
import GoSem.ClaimSeven
namespace Go.Proofs.YtbmagbgdpmgbmaaDoor
namespace Rows

/-- THE TIED CARD OF 'laws.FnNameOrder'. -/
def fnNameOrderCard : Claim7 := { stood := { row := fnNameOrderRow, standIns := [], harness := (true, "207670185db95addcf98ac05307461f230883cca32bec6f7bf0c0e8eeee53ddd"), looks := false }, kinds := [], alts := [], laidByText := true, laidKinds := [.data, .pinned], laidTests := true, laidLooks := .later }
def FnNameOrderCardSaid : Prop := Claim7.holds Tryd.pinned (.plain (OpenSpec.ofChange fnNameOrderSpec)) fnNameOrderCard

/-- THE TIED CARD OF 'laws.FnRecordOrder'. -/
def fnRecordOrderCard : Claim7 := { stood := { row := fnRecordOrderRow, standIns := [], harness := (true, "207670185db95addcf98ac05307461f230883cca32bec6f7bf0c0e8eeee53ddd"), looks := false }, kinds := [], alts := [], laidByText := true, laidKinds := [.data, .pinned], laidTests := true, laidLooks := .later }
def FnRecordOrderCardSaid : Prop := Claim7.holds Tryd.pinned (.plain (OpenSpec.ofChange fnRecordOrderSpec)) fnRecordOrderCard

/-- THE SECOND FORM's CARD OF 'laws.FnNameOrder'. -/
def fnNameOrderUptoCard : Claim7 := { stood := { row := fnNameOrderUptoRow, standIns := [], harness := (true, "207670185db95addcf98ac05307461f230883cca32bec6f7bf0c0e8eeee53ddd"), looks := false }, kinds := [], alts := [], laidByText := true, laidKinds := [.data, .pinned], laidTests := true, laidLooks := .later }
def FnNameOrderUptoCardSaid : Prop := Claim7.holds Tryd.pinned (.plain (OpenSpec.upto fnNameOrderSpec)) fnNameOrderUptoCard

/-- THE SECOND FORM's CARD OF 'laws.FnRecordOrder'. -/
def fnRecordOrderUptoCard : Claim7 := { stood := { row := fnRecordOrderUptoRow, standIns := [], harness := (true, "207670185db95addcf98ac05307461f230883cca32bec6f7bf0c0e8eeee53ddd"), looks := false }, kinds := [], alts := [], laidByText := true, laidKinds := [.data, .pinned], laidTests := true, laidLooks := .later }
def FnRecordOrderUptoCardSaid : Prop := Claim7.holds Tryd.pinned (.plain (OpenSpec.upto fnRecordOrderSpec)) fnRecordOrderUptoCard
end Rows
end Go.Proofs.YtbmagbgdpmgbmaaDoor
