/-
  DERIVED. GIVEN WITH THE SEED: THE CARDS: each row of YtjidenkhgeoaiaaGreatDoorRows.lean that lists a variable, with what it lists TIED to the program's text (the seventh form; the later family's looks); each row that meets fmt, with fmt's text TOLD by the authors' own Lean function (tested against real Go, not proved from fmt's source: count such statements apart). THE CARD IS WHAT COUNTS. Prove the row's statement (the work); the ties are given (YtjidenkhgeoaiaaGreatDoorTie.lean); close each card by the builder's one call (the guide's Derived/Test/ToyasCard.lean, 'card_holds'). Laid BY PROGRAM, IN A SANDBOX (cutbox-door.mjs). By AI agents, Wed Nov 11 2026. No macro, syntax, notation, axiom, sorry.
-/
import Derived.Test.YtjidenkhgeoaiaaGreatDoorRows
import GoSem.ClaimSeven
namespace Go.Proofs.YtjidenkhgeoaiaaGreatDoor
namespace Rows

/-- THE TIED CARD OF 'thwartlaw08.MembTypes'. -/
def membTypesCard : Claim7 := { stood := { row := membTypesRow, standIns := [], harness := (true, "d91d5e1725961860c424d8fa74ebd0e3480b6cbf9bda71444830f17a3506859f"), looks := false }, kinds := [], alts := [], laidByText := true, laidKinds := [.data, .data, .data, .data, .pinned], laidTests := true, laidLooks := .later }
def MembTypesCardSaid : Prop := Claim7.holds Tryz.pinned (.plain (OpenSpec.ofChange membTypesSpec)) membTypesCard

/-- THE TIED CARD OF 'thwartlaw08.MembFrom'. -/
def membFromCard : Claim7 := { stood := { row := membFromRow, standIns := [], harness := (true, "d91d5e1725961860c424d8fa74ebd0e3480b6cbf9bda71444830f17a3506859f"), looks := false }, kinds := [], alts := [], laidByText := true, laidKinds := [.data, .data, .data, .data, .pinned], laidTests := true, laidLooks := .later }
def MembFromCardSaid : Prop := Claim7.holds Tryz.pinned (.plain (OpenSpec.ofChange membFromSpec)) membFromCard

/-- THE TIED CARD OF 'thwartlaw08.MembWhole'. -/
def membWholeCard : Claim7 := { stood := { row := membWholeRow, standIns := [], harness := (true, "d91d5e1725961860c424d8fa74ebd0e3480b6cbf9bda71444830f17a3506859f"), looks := false }, kinds := [], alts := [], laidByText := true, laidKinds := [.data, .data, .data, .data, .pinned], laidTests := true, laidLooks := .later }
def MembWholeCardSaid : Prop := Claim7.holds Tryz.pinned (.plain (OpenSpec.ofChange membWholeSpec)) membWholeCard

/-- THE SECOND FORM's CARD OF 'thwartlaw08.MembTypes'. -/
def membTypesUptoCard : Claim7 := { stood := { row := membTypesUptoRow, standIns := [], harness := (true, "d91d5e1725961860c424d8fa74ebd0e3480b6cbf9bda71444830f17a3506859f"), looks := false }, kinds := [], alts := [], laidByText := true, laidKinds := [.data, .data, .data, .data, .pinned], laidTests := true, laidLooks := .later }
def MembTypesUptoCardSaid : Prop := Claim7.holds Tryz.pinned (.plain (OpenSpec.upto membTypesSpec)) membTypesUptoCard

/-- THE SECOND FORM's CARD OF 'thwartlaw08.MembFrom'. -/
def membFromUptoCard : Claim7 := { stood := { row := membFromUptoRow, standIns := [], harness := (true, "d91d5e1725961860c424d8fa74ebd0e3480b6cbf9bda71444830f17a3506859f"), looks := false }, kinds := [], alts := [], laidByText := true, laidKinds := [.data, .data, .data, .data, .pinned], laidTests := true, laidLooks := .later }
def MembFromUptoCardSaid : Prop := Claim7.holds Tryz.pinned (.plain (OpenSpec.upto membFromSpec)) membFromUptoCard

/-- THE SECOND FORM's CARD OF 'thwartlaw08.MembWhole'. -/
def membWholeUptoCard : Claim7 := { stood := { row := membWholeUptoRow, standIns := [], harness := (true, "d91d5e1725961860c424d8fa74ebd0e3480b6cbf9bda71444830f17a3506859f"), looks := false }, kinds := [], alts := [], laidByText := true, laidKinds := [.data, .data, .data, .data, .pinned], laidTests := true, laidLooks := .later }
def MembWholeUptoCardSaid : Prop := Claim7.holds Tryz.pinned (.plain (OpenSpec.upto membWholeSpec)) membWholeUptoCard
end Rows
end Go.Proofs.YtjidenkhgeoaiaaGreatDoor
