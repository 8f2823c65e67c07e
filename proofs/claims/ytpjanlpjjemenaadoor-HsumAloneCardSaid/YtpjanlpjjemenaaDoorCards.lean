/-
  DERIVED. GIVEN WITH THE SEED: THE CARDS: each row of YtpjanlpjjemenaaDoorRows.lean that lists a variable, with what it lists TIED to the program's text (the seventh form; the later family's looks); each row that meets fmt, with fmt's text TOLD by the authors' own Lean function (tested against real Go, not proved from fmt's source: count such statements apart). THE CARD IS WHAT COUNTS. Prove the row's statement (the work); the ties are given (YtpjanlpjjemenaaDoorTie.lean); close each card by the builder's one call (the guide's Derived/Test/ToyasCard.lean, 'card_holds'). Laid BY PROGRAM, IN A SANDBOX (cutbox-door.mjs). By AI agents, Wed Nov 11 2026. No macro, syntax, notation, axiom, sorry.
-/
import Derived.Test.YtpjanlpjjemenaaDoorRows
import GoSem.ClaimSeven
namespace Go.Proofs.YtpjanlpjjemenaaDoor
namespace Rows

/-- THE TIED CARD OF 'thwartlaw02.StrfLays'. -/
def strfLaysCard : Claim7 := { stood := { row := strfLaysRow, standIns := [], harness := (true, "9586ad4229cf304f817445bcc3f7c0c829154d5de364e8585e18b7e71aeb7e54"), looks := false }, kinds := [], alts := [], laidByText := true, laidKinds := [.data, .pinned], laidTests := true, laidLooks := .later }
def StrfLaysCardSaid : Prop := Claim7.holds Tryd.pinned (.plain (OpenSpec.ofChange strfLaysSpec)) strfLaysCard

/-- THE TIED CARD OF 'thwartlaw02.StrfBack'. -/
def strfBackCard : Claim7 := { stood := { row := strfBackRow, standIns := [], harness := (true, "9586ad4229cf304f817445bcc3f7c0c829154d5de364e8585e18b7e71aeb7e54"), looks := false }, kinds := [], alts := [], laidByText := true, laidKinds := [.data, .pinned], laidTests := true, laidLooks := .later }
def StrfBackCardSaid : Prop := Claim7.holds Tryd.pinned (.plain (OpenSpec.ofChange strfBackSpec)) strfBackCard

/-- THE TIED CARD OF 'thwartlaw03.HsumSums'. -/
def hsumSumsCard : Claim7 := { stood := { row := hsumSumsRow, standIns := [], harness := (true, "9586ad4229cf304f817445bcc3f7c0c829154d5de364e8585e18b7e71aeb7e54"), looks := false }, kinds := [], alts := [], laidByText := true, laidKinds := [.data, .pinned], laidTests := true, laidLooks := .later }
def HsumSumsCardSaid : Prop := Claim7.holds Tryd.pinned (.plain (OpenSpec.ofChange hsumSumsSpec)) hsumSumsCard

/-- THE TIED CARD OF 'thwartlaw03.HsumFinds'. -/
def hsumFindsCard : Claim7 := { stood := { row := hsumFindsRow, standIns := [], harness := (true, "9586ad4229cf304f817445bcc3f7c0c829154d5de364e8585e18b7e71aeb7e54"), looks := false }, kinds := [], alts := [], laidByText := true, laidKinds := [.data, .pinned], laidTests := true, laidLooks := .later }
def HsumFindsCardSaid : Prop := Claim7.holds Tryd.pinned (.plain (OpenSpec.ofChange hsumFindsSpec)) hsumFindsCard

/-- THE TIED CARD OF 'thwartlaw03.HsumAlone'. -/
def hsumAloneCard : Claim7 := { stood := { row := hsumAloneRow, standIns := [], harness := (true, "9586ad4229cf304f817445bcc3f7c0c829154d5de364e8585e18b7e71aeb7e54"), looks := false }, kinds := [], alts := [], laidByText := true, laidKinds := [.data, .pinned], laidTests := true, laidLooks := .later }
def HsumAloneCardSaid : Prop := Claim7.holds Tryd.pinned (.plain (OpenSpec.ofChange hsumAloneSpec)) hsumAloneCard

/-- THE TIED CARD OF 'thwartlaw04.PpathParts'. -/
def ppathPartsCard : Claim7 := { stood := { row := ppathPartsRow, standIns := [], harness := (true, "9586ad4229cf304f817445bcc3f7c0c829154d5de364e8585e18b7e71aeb7e54"), looks := false }, kinds := [], alts := [], laidByText := true, laidKinds := [.data, .pinned], laidTests := true, laidLooks := .later }
def PpathPartsCardSaid : Prop := Claim7.holds Tryd.pinned (.plain (OpenSpec.ofChange ppathPartsSpec)) ppathPartsCard

/-- THE TIED CARD OF 'thwartlaw04.PpathLess'. -/
def ppathLessCard : Claim7 := { stood := { row := ppathLessRow, standIns := [], harness := (true, "9586ad4229cf304f817445bcc3f7c0c829154d5de364e8585e18b7e71aeb7e54"), looks := false }, kinds := [], alts := [], laidByText := true, laidKinds := [.data, .pinned], laidTests := true, laidLooks := .later }
def PpathLessCardSaid : Prop := Claim7.holds Tryd.pinned (.plain (OpenSpec.ofChange ppathLessSpec)) ppathLessCard

/-- THE TIED CARD OF 'thwartlaw04.PpathJoins'. -/
def ppathJoinsCard : Claim7 := { stood := { row := ppathJoinsRow, standIns := [], harness := (true, "9586ad4229cf304f817445bcc3f7c0c829154d5de364e8585e18b7e71aeb7e54"), looks := false }, kinds := [], alts := [], laidByText := true, laidKinds := [.data, .pinned], laidTests := true, laidLooks := .later }
def PpathJoinsCardSaid : Prop := Claim7.holds Tryd.pinned (.plain (OpenSpec.ofChange ppathJoinsSpec)) ppathJoinsCard

/-- THE TIED CARD OF 'thwartlaw04.PpathWhole'. -/
def ppathWholeCard : Claim7 := { stood := { row := ppathWholeRow, standIns := [], harness := (true, "9586ad4229cf304f817445bcc3f7c0c829154d5de364e8585e18b7e71aeb7e54"), looks := false }, kinds := [], alts := [], laidByText := true, laidKinds := [.data, .pinned], laidTests := true, laidLooks := .later }
def PpathWholeCardSaid : Prop := Claim7.holds Tryd.pinned (.plain (OpenSpec.ofChange ppathWholeSpec)) ppathWholeCard

/-- THE TIED CARD OF 'thwartlaw34.GlobsQuoted'. -/
def globsQuotedCard : Claim7 := { stood := { row := globsQuotedRow, standIns := [], harness := (true, "9586ad4229cf304f817445bcc3f7c0c829154d5de364e8585e18b7e71aeb7e54"), looks := false }, kinds := [], alts := [], laidByText := true, laidKinds := [.data, .pinned], laidTests := true, laidLooks := .later }
def GlobsQuotedCardSaid : Prop := Claim7.holds Tryd.pinned (.plain (OpenSpec.ofChange globsQuotedSpec)) globsQuotedCard

/-- THE TIED CARD OF 'thwartlaw34.GlobsAny'. -/
def globsAnyCard : Claim7 := { stood := { row := globsAnyRow, standIns := [], harness := (true, "9586ad4229cf304f817445bcc3f7c0c829154d5de364e8585e18b7e71aeb7e54"), looks := false }, kinds := [], alts := [], laidByText := true, laidKinds := [.data, .pinned], laidTests := true, laidLooks := .later }
def GlobsAnyCardSaid : Prop := Claim7.holds Tryd.pinned (.plain (OpenSpec.ofChange globsAnySpec)) globsAnyCard

/-- THE SECOND FORM's CARD OF 'thwartlaw02.StrfLays'. -/
def strfLaysUptoCard : Claim7 := { stood := { row := strfLaysUptoRow, standIns := [], harness := (true, "9586ad4229cf304f817445bcc3f7c0c829154d5de364e8585e18b7e71aeb7e54"), looks := false }, kinds := [], alts := [], laidByText := true, laidKinds := [.data, .pinned], laidTests := true, laidLooks := .later }
def StrfLaysUptoCardSaid : Prop := Claim7.holds Tryd.pinned (.plain (OpenSpec.upto strfLaysSpec)) strfLaysUptoCard

/-- THE SECOND FORM's CARD OF 'thwartlaw02.StrfBack'. -/
def strfBackUptoCard : Claim7 := { stood := { row := strfBackUptoRow, standIns := [], harness := (true, "9586ad4229cf304f817445bcc3f7c0c829154d5de364e8585e18b7e71aeb7e54"), looks := false }, kinds := [], alts := [], laidByText := true, laidKinds := [.data, .pinned], laidTests := true, laidLooks := .later }
def StrfBackUptoCardSaid : Prop := Claim7.holds Tryd.pinned (.plain (OpenSpec.upto strfBackSpec)) strfBackUptoCard

/-- THE SECOND FORM's CARD OF 'thwartlaw03.HsumSums'. -/
def hsumSumsUptoCard : Claim7 := { stood := { row := hsumSumsUptoRow, standIns := [], harness := (true, "9586ad4229cf304f817445bcc3f7c0c829154d5de364e8585e18b7e71aeb7e54"), looks := false }, kinds := [], alts := [], laidByText := true, laidKinds := [.data, .pinned], laidTests := true, laidLooks := .later }
def HsumSumsUptoCardSaid : Prop := Claim7.holds Tryd.pinned (.plain (OpenSpec.upto hsumSumsSpec)) hsumSumsUptoCard

/-- THE SECOND FORM's CARD OF 'thwartlaw03.HsumFinds'. -/
def hsumFindsUptoCard : Claim7 := { stood := { row := hsumFindsUptoRow, standIns := [], harness := (true, "9586ad4229cf304f817445bcc3f7c0c829154d5de364e8585e18b7e71aeb7e54"), looks := false }, kinds := [], alts := [], laidByText := true, laidKinds := [.data, .pinned], laidTests := true, laidLooks := .later }
def HsumFindsUptoCardSaid : Prop := Claim7.holds Tryd.pinned (.plain (OpenSpec.upto hsumFindsSpec)) hsumFindsUptoCard

/-- THE SECOND FORM's CARD OF 'thwartlaw03.HsumAlone'. -/
def hsumAloneUptoCard : Claim7 := { stood := { row := hsumAloneUptoRow, standIns := [], harness := (true, "9586ad4229cf304f817445bcc3f7c0c829154d5de364e8585e18b7e71aeb7e54"), looks := false }, kinds := [], alts := [], laidByText := true, laidKinds := [.data, .pinned], laidTests := true, laidLooks := .later }
def HsumAloneUptoCardSaid : Prop := Claim7.holds Tryd.pinned (.plain (OpenSpec.upto hsumAloneSpec)) hsumAloneUptoCard

/-- THE SECOND FORM's CARD OF 'thwartlaw04.PpathParts'. -/
def ppathPartsUptoCard : Claim7 := { stood := { row := ppathPartsUptoRow, standIns := [], harness := (true, "9586ad4229cf304f817445bcc3f7c0c829154d5de364e8585e18b7e71aeb7e54"), looks := false }, kinds := [], alts := [], laidByText := true, laidKinds := [.data, .pinned], laidTests := true, laidLooks := .later }
def PpathPartsUptoCardSaid : Prop := Claim7.holds Tryd.pinned (.plain (OpenSpec.upto ppathPartsSpec)) ppathPartsUptoCard

/-- THE SECOND FORM's CARD OF 'thwartlaw04.PpathLess'. -/
def ppathLessUptoCard : Claim7 := { stood := { row := ppathLessUptoRow, standIns := [], harness := (true, "9586ad4229cf304f817445bcc3f7c0c829154d5de364e8585e18b7e71aeb7e54"), looks := false }, kinds := [], alts := [], laidByText := true, laidKinds := [.data, .pinned], laidTests := true, laidLooks := .later }
def PpathLessUptoCardSaid : Prop := Claim7.holds Tryd.pinned (.plain (OpenSpec.upto ppathLessSpec)) ppathLessUptoCard

/-- THE SECOND FORM's CARD OF 'thwartlaw04.PpathJoins'. -/
def ppathJoinsUptoCard : Claim7 := { stood := { row := ppathJoinsUptoRow, standIns := [], harness := (true, "9586ad4229cf304f817445bcc3f7c0c829154d5de364e8585e18b7e71aeb7e54"), looks := false }, kinds := [], alts := [], laidByText := true, laidKinds := [.data, .pinned], laidTests := true, laidLooks := .later }
def PpathJoinsUptoCardSaid : Prop := Claim7.holds Tryd.pinned (.plain (OpenSpec.upto ppathJoinsSpec)) ppathJoinsUptoCard

/-- THE SECOND FORM's CARD OF 'thwartlaw04.PpathWhole'. -/
def ppathWholeUptoCard : Claim7 := { stood := { row := ppathWholeUptoRow, standIns := [], harness := (true, "9586ad4229cf304f817445bcc3f7c0c829154d5de364e8585e18b7e71aeb7e54"), looks := false }, kinds := [], alts := [], laidByText := true, laidKinds := [.data, .pinned], laidTests := true, laidLooks := .later }
def PpathWholeUptoCardSaid : Prop := Claim7.holds Tryd.pinned (.plain (OpenSpec.upto ppathWholeSpec)) ppathWholeUptoCard

/-- THE SECOND FORM's CARD OF 'thwartlaw34.GlobsQuoted'. -/
def globsQuotedUptoCard : Claim7 := { stood := { row := globsQuotedUptoRow, standIns := [], harness := (true, "9586ad4229cf304f817445bcc3f7c0c829154d5de364e8585e18b7e71aeb7e54"), looks := false }, kinds := [], alts := [], laidByText := true, laidKinds := [.data, .pinned], laidTests := true, laidLooks := .later }
def GlobsQuotedUptoCardSaid : Prop := Claim7.holds Tryd.pinned (.plain (OpenSpec.upto globsQuotedSpec)) globsQuotedUptoCard

/-- THE SECOND FORM's CARD OF 'thwartlaw34.GlobsAny'. -/
def globsAnyUptoCard : Claim7 := { stood := { row := globsAnyUptoRow, standIns := [], harness := (true, "9586ad4229cf304f817445bcc3f7c0c829154d5de364e8585e18b7e71aeb7e54"), looks := false }, kinds := [], alts := [], laidByText := true, laidKinds := [.data, .pinned], laidTests := true, laidLooks := .later }
def GlobsAnyUptoCardSaid : Prop := Claim7.holds Tryd.pinned (.plain (OpenSpec.upto globsAnySpec)) globsAnyUptoCard
end Rows
end Go.Proofs.YtpjanlpjjemenaaDoor
