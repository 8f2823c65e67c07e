/-
  DERIVED. GIVEN WITH THE SEED: THE CARDS: each row of YthjljkdiglpbaaaDoorRows.lean that lists a variable, with what it lists TIED to the program's text (the seventh form; the later family's looks); each row that meets fmt, with fmt's text TOLD by the authors' own Lean function (tested against real Go, not proved from fmt's source: count such statements apart). THE CARD IS WHAT COUNTS. Prove the row's statement (the work); the ties are given (YthjljkdiglpbaaaDoorTie.lean); close each card by the builder's one call (the guide's Derived/Test/ToyasCard.lean, 'card_holds'). Laid BY PROGRAM, IN A SANDBOX (cutbox-door.mjs). By AI agents, Wed Nov 11 2026. No macro, syntax, notation, axiom, sorry.
-/
import Derived.Test.YthjljkdiglpbaaaDoorRows
import GoSem.ClaimSeven
namespace Go.Proofs.YthjljkdiglpbaaaDoor
namespace Rows

/-- THE TIED CARD OF 'thwartlaw06.RecsParses'. -/
def recsParsesCard : Claim7 := { stood := { row := recsParsesRow, standIns := [], harness := (true, "4736eb45092c931fc3f01c3f33e8d27b2de14d841cfc6fc2c5de26f593404c56"), looks := false }, kinds := [], alts := [], laidByText := true, laidKinds := [.data, .data, .data], laidTests := true, laidLooks := .later }
def RecsParsesCardSaid : Prop := Claim7.holds Tryd.pinned (.plain (OpenSpec.ofChange recsParsesSpec)) recsParsesCard

/-- THE TIED CARD OF 'thwartlaw06.RecsLays'. -/
def recsLaysCard : Claim7 := { stood := { row := recsLaysRow, standIns := [], harness := (true, "4736eb45092c931fc3f01c3f33e8d27b2de14d841cfc6fc2c5de26f593404c56"), looks := false }, kinds := [], alts := [], laidByText := true, laidKinds := [.data, .data, .data], laidTests := true, laidLooks := .later }
def RecsLaysCardSaid : Prop := Claim7.holds Tryd.pinned (.plain (OpenSpec.ofChange recsLaysSpec)) recsLaysCard

/-- THE TIED CARD OF 'thwartlaw06.RecsBack'. -/
def recsBackCard : Claim7 := { stood := { row := recsBackRow, standIns := [], harness := (true, "4736eb45092c931fc3f01c3f33e8d27b2de14d841cfc6fc2c5de26f593404c56"), looks := false }, kinds := [], alts := [], laidByText := true, laidKinds := [.data, .data, .data], laidTests := true, laidLooks := .later }
def RecsBackCardSaid : Prop := Claim7.holds Tryd.pinned (.plain (OpenSpec.ofChange recsBackSpec)) recsBackCard

/-- THE TIED CARD OF 'thwartlaw05.HeadParses'. -/
def headParsesCard : Claim7 := { stood := { row := headParsesRow, standIns := [], harness := (true, "4736eb45092c931fc3f01c3f33e8d27b2de14d841cfc6fc2c5de26f593404c56"), looks := false }, kinds := [], alts := [], laidByText := true, laidKinds := [.data, .pinned], laidTests := true, laidLooks := .later }
def HeadParsesCardSaid : Prop := Claim7.holds Tryd.pinned (.plain (OpenSpec.ofChange headParsesSpec)) headParsesCard

/-- THE TIED CARD OF 'thwartlaw05.HeadBack'. -/
def headBackCard : Claim7 := { stood := { row := headBackRow, standIns := [], harness := (true, "4736eb45092c931fc3f01c3f33e8d27b2de14d841cfc6fc2c5de26f593404c56"), looks := false }, kinds := [], alts := [], laidByText := true, laidKinds := [.data, .pinned], laidTests := true, laidLooks := .later }
def HeadBackCardSaid : Prop := Claim7.holds Tryd.pinned (.plain (OpenSpec.ofChange headBackSpec)) headBackCard

/-- THE SECOND FORM's CARD OF 'thwartlaw06.RecsParses'. -/
def recsParsesUptoCard : Claim7 := { stood := { row := recsParsesUptoRow, standIns := [], harness := (true, "4736eb45092c931fc3f01c3f33e8d27b2de14d841cfc6fc2c5de26f593404c56"), looks := false }, kinds := [], alts := [], laidByText := true, laidKinds := [.data, .data, .data], laidTests := true, laidLooks := .later }
def RecsParsesUptoCardSaid : Prop := Claim7.holds Tryd.pinned (.plain (OpenSpec.upto recsParsesSpec)) recsParsesUptoCard

/-- THE SECOND FORM's CARD OF 'thwartlaw06.RecsLays'. -/
def recsLaysUptoCard : Claim7 := { stood := { row := recsLaysUptoRow, standIns := [], harness := (true, "4736eb45092c931fc3f01c3f33e8d27b2de14d841cfc6fc2c5de26f593404c56"), looks := false }, kinds := [], alts := [], laidByText := true, laidKinds := [.data, .data, .data], laidTests := true, laidLooks := .later }
def RecsLaysUptoCardSaid : Prop := Claim7.holds Tryd.pinned (.plain (OpenSpec.upto recsLaysSpec)) recsLaysUptoCard

/-- THE SECOND FORM's CARD OF 'thwartlaw06.RecsBack'. -/
def recsBackUptoCard : Claim7 := { stood := { row := recsBackUptoRow, standIns := [], harness := (true, "4736eb45092c931fc3f01c3f33e8d27b2de14d841cfc6fc2c5de26f593404c56"), looks := false }, kinds := [], alts := [], laidByText := true, laidKinds := [.data, .data, .data], laidTests := true, laidLooks := .later }
def RecsBackUptoCardSaid : Prop := Claim7.holds Tryd.pinned (.plain (OpenSpec.upto recsBackSpec)) recsBackUptoCard

/-- THE SECOND FORM's CARD OF 'thwartlaw05.HeadParses'. -/
def headParsesUptoCard : Claim7 := { stood := { row := headParsesUptoRow, standIns := [], harness := (true, "4736eb45092c931fc3f01c3f33e8d27b2de14d841cfc6fc2c5de26f593404c56"), looks := false }, kinds := [], alts := [], laidByText := true, laidKinds := [.data, .pinned], laidTests := true, laidLooks := .later }
def HeadParsesUptoCardSaid : Prop := Claim7.holds Tryd.pinned (.plain (OpenSpec.upto headParsesSpec)) headParsesUptoCard

/-- THE SECOND FORM's CARD OF 'thwartlaw05.HeadBack'. -/
def headBackUptoCard : Claim7 := { stood := { row := headBackUptoRow, standIns := [], harness := (true, "4736eb45092c931fc3f01c3f33e8d27b2de14d841cfc6fc2c5de26f593404c56"), looks := false }, kinds := [], alts := [], laidByText := true, laidKinds := [.data, .pinned], laidTests := true, laidLooks := .later }
def HeadBackUptoCardSaid : Prop := Claim7.holds Tryd.pinned (.plain (OpenSpec.upto headBackSpec)) headBackUptoCard
end Rows
end Go.Proofs.YthjljkdiglpbaaaDoor
