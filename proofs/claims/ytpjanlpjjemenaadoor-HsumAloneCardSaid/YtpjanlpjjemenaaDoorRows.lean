/-
  NARROWER THAN 'FOR EVERY INPUT', by the rows' own cells (each row's printed sentence says how): StrfLays: laid · StrfBack: laid · HsumSums: laid · HsumFinds: laid · HsumAlone: laid · PpathParts: laid · PpathLess: laid · PpathJoins: laid · PpathWhole: laid · GlobsQuoted: laid · GlobsAny: laid.
  DERIVED. THE GIVEN ROWS OF THIS SEAT. 11 by the template 'for every input the law returns true; each argument reads behind the call as it read before'; 0 by the template 'total and deterministic' (their statements: YtpjanlpjjemenaaDoorTotals.lean).
  GIVEN WITH THE SEED: the statements are not yours to turn. If you find one false, say at which input.
  Laid BY PROGRAM, IN A SANDBOX (cutbox-rows.mjs): the forced cells as the released guide's own fill.sh prints them over the translation b047ef7ab2f8862b… (all of the seat's roots in one cut). By AI agents, Wed Nov 11 2026. No macro, syntax, notation, axiom, sorry.
-/
import Derived.Test.YtpjanlpjjemenaaDoorChecked
import GoSem.PinnedTables
import GoSem.Claim
import GoSem.ClaimJoined
import GoSem.ClaimMapViews
import Derived.JoinedTies
import Derived.KernelRfl
namespace Go.Proofs.YtpjanlpjjemenaaDoor
/- THE CELL 'sum', in the pinned program and in every row, IS THE sha256 OF THE DUMP (.gsa) THAT YtpjanlpjjemenaaDoorProg.lean LOADS. Nothing in Lean hashes anything: it is a label: what it is worth is what the hold of that sum in a sandbox is worth. -/
noncomputable def Tryd.pinned : Pinned := { name := "ytpjanlpjjemenaadoor", sum := "b047ef7ab2f8862b2886d338ca43ba55ecc1e2d986ee6c07839a6a59c0c2be7b", checked := Tryd.checked }
namespace Rows
def none {H : Type} : Left H := { results := [], args := [] }

/- WHAT THE LISTED PACKAGE-LEVEL VARIABLES READ AS WHEN THE CALL BEGINS. Each datum BY PROGRAM (the guide's laid-datum.mjs) off the statement by which the dump's own 'gosem.cut.vars' lays the variable. In a bare row this is a premise. The card (YtpjanlpjjemenaaDoorCards.lean) ties it to the program's text. -/
def laid_unicode_utf8_acceptRanges {H : Type} : DataW H := .agg [.agg [.lit (.int .u8 128), .lit (.int .u8 191)], .agg [.lit (.int .u8 160), .lit (.int .u8 191)], .agg [.lit (.int .u8 128), .lit (.int .u8 159)], .agg [.lit (.int .u8 144), .lit (.int .u8 191)], .agg [.lit (.int .u8 128), .lit (.int .u8 143)], .agg [.lit (.int .u8 0), .lit (.int .u8 0)], .agg [.lit (.int .u8 0), .lit (.int .u8 0)], .agg [.lit (.int .u8 0), .lit (.int .u8 0)], .agg [.lit (.int .u8 0), .lit (.int .u8 0)], .agg [.lit (.int .u8 0), .lit (.int .u8 0)], .agg [.lit (.int .u8 0), .lit (.int .u8 0)], .agg [.lit (.int .u8 0), .lit (.int .u8 0)], .agg [.lit (.int .u8 0), .lit (.int .u8 0)], .agg [.lit (.int .u8 0), .lit (.int .u8 0)], .agg [.lit (.int .u8 0), .lit (.int .u8 0)], .agg [.lit (.int .u8 0), .lit (.int .u8 0)]]
/-- One of Go's own tables, pinned by name: the form's constant. -/
def laid_unicode_utf8_first : DataW Unit := Go.Pinned.utf8First

/-- 'thwartlaw02.StrfLays': WHATEVER THE INPUT: true; the input reads as it did. -/
def strfLaysSpec : ChangeSpec := { name := "strfLays", fn := fun _ => fun
  | [d1, d2, d3] => { results := [.lit (.bool true)], args := [d1, d2, d3] }
  | _ => none }
def strfLaysRow : OpenClaim := { program := "ytpjanlpjjemenaadoor", sum := "b047ef7ab2f8862b2886d338ca43ba55ecc1e2d986ee6c07839a6a59c0c2be7b", func := "thwart/thwartlaw02.StrfLays", spec := "strfLays", inPlace := ["internal/bytealg.IndexByteString", "internal/bytealg.IndexString", "internal/bytealg.IndexByte", "internal/bytealg.Index"], named := ["internal/bytealg.MaxLen", "unicode/utf8.first", "unicode/utf8.acceptRanges"], apart := false, laid := [("unicode/utf8.acceptRanges", laid_unicode_utf8_acceptRanges), ("unicode/utf8.first", laid_unicode_utf8_first)] }
def StrfLaysSaid : Prop := strfLaysRow.holds Tryd.pinned (OpenSpec.ofChange strfLaysSpec)

/-- ITS FALSE NEIGHBOUR: 'it returns false'. Refute it at one input. -/
def strfLaysWrong : ChangeSpec := { name := "strfLays", fn := fun _ => fun
  | [d1, d2, d3] => { results := [.lit (.bool false)], args := [d1, d2, d3] }
  | _ => none }
def StrfLaysWrongFalsely : Prop := strfLaysRow.holds Tryd.pinned (OpenSpec.ofChange strfLaysWrong)

/-- 'thwartlaw02.StrfBack': WHATEVER THE INPUT: true; the input reads as it did. -/
def strfBackSpec : ChangeSpec := { name := "strfBack", fn := fun _ => fun
  | [d1, d2] => { results := [.lit (.bool true)], args := [d1, d2] }
  | _ => none }
def strfBackRow : OpenClaim := { program := "ytpjanlpjjemenaadoor", sum := "b047ef7ab2f8862b2886d338ca43ba55ecc1e2d986ee6c07839a6a59c0c2be7b", func := "thwart/thwartlaw02.StrfBack", spec := "strfBack", inPlace := ["internal/bytealg.IndexByteString", "internal/bytealg.IndexString", "internal/bytealg.IndexByte", "internal/bytealg.Index"], named := ["internal/bytealg.MaxLen", "unicode/utf8.first", "unicode/utf8.acceptRanges"], apart := false, laid := [("unicode/utf8.acceptRanges", laid_unicode_utf8_acceptRanges), ("unicode/utf8.first", laid_unicode_utf8_first)] }
def StrfBackSaid : Prop := strfBackRow.holds Tryd.pinned (OpenSpec.ofChange strfBackSpec)

/-- ITS FALSE NEIGHBOUR: 'it returns false'. Refute it at one input. -/
def strfBackWrong : ChangeSpec := { name := "strfBack", fn := fun _ => fun
  | [d1, d2] => { results := [.lit (.bool false)], args := [d1, d2] }
  | _ => none }
def StrfBackWrongFalsely : Prop := strfBackRow.holds Tryd.pinned (OpenSpec.ofChange strfBackWrong)

/-- 'thwartlaw03.HsumSums': WHATEVER THE INPUT: true; the input reads as it did. -/
def hsumSumsSpec : ChangeSpec := { name := "hsumSums", fn := fun _ => fun
  | [d1, d2] => { results := [.lit (.bool true)], args := [d1, d2] }
  | _ => none }
def hsumSumsRow : OpenClaim := { program := "ytpjanlpjjemenaadoor", sum := "b047ef7ab2f8862b2886d338ca43ba55ecc1e2d986ee6c07839a6a59c0c2be7b", func := "thwart/thwartlaw03.HsumSums", spec := "hsumSums", inPlace := ["internal/bytealg.Count", "internal/bytealg.IndexByte", "internal/bytealg.Index"], named := ["unicode/utf8.first", "unicode/utf8.acceptRanges", "internal/bytealg.MaxLen"], apart := false, laid := [("unicode/utf8.acceptRanges", laid_unicode_utf8_acceptRanges), ("unicode/utf8.first", laid_unicode_utf8_first)] }
def HsumSumsSaid : Prop := hsumSumsRow.holds Tryd.pinned (OpenSpec.ofChange hsumSumsSpec)

/-- ITS FALSE NEIGHBOUR: 'it returns false'. Refute it at one input. -/
def hsumSumsWrong : ChangeSpec := { name := "hsumSums", fn := fun _ => fun
  | [d1, d2] => { results := [.lit (.bool false)], args := [d1, d2] }
  | _ => none }
def HsumSumsWrongFalsely : Prop := hsumSumsRow.holds Tryd.pinned (OpenSpec.ofChange hsumSumsWrong)

/-- 'thwartlaw03.HsumFinds': WHATEVER THE INPUT: true; the input reads as it did. -/
def hsumFindsSpec : ChangeSpec := { name := "hsumFinds", fn := fun _ => fun
  | [d1, d2, d3] => { results := [.lit (.bool true)], args := [d1, d2, d3] }
  | _ => none }
def hsumFindsRow : OpenClaim := { program := "ytpjanlpjjemenaadoor", sum := "b047ef7ab2f8862b2886d338ca43ba55ecc1e2d986ee6c07839a6a59c0c2be7b", func := "thwart/thwartlaw03.HsumFinds", spec := "hsumFinds", inPlace := ["internal/bytealg.Count", "internal/bytealg.IndexByte", "internal/bytealg.Index"], named := ["unicode/utf8.first", "unicode/utf8.acceptRanges", "internal/bytealg.MaxLen"], apart := false, laid := [("unicode/utf8.acceptRanges", laid_unicode_utf8_acceptRanges), ("unicode/utf8.first", laid_unicode_utf8_first)] }
def HsumFindsSaid : Prop := hsumFindsRow.holds Tryd.pinned (OpenSpec.ofChange hsumFindsSpec)

/-- ITS FALSE NEIGHBOUR: 'it returns false'. Refute it at one input. -/
def hsumFindsWrong : ChangeSpec := { name := "hsumFinds", fn := fun _ => fun
  | [d1, d2, d3] => { results := [.lit (.bool false)], args := [d1, d2, d3] }
  | _ => none }
def HsumFindsWrongFalsely : Prop := hsumFindsRow.holds Tryd.pinned (OpenSpec.ofChange hsumFindsWrong)

/-- 'thwartlaw03.HsumAlone': WHATEVER THE INPUT: true; the input reads as it did. -/
def hsumAloneSpec : ChangeSpec := { name := "hsumAlone", fn := fun _ => fun
  | [d1, d2, d3] => { results := [.lit (.bool true)], args := [d1, d2, d3] }
  | _ => none }
def hsumAloneRow : OpenClaim := { program := "ytpjanlpjjemenaadoor", sum := "b047ef7ab2f8862b2886d338ca43ba55ecc1e2d986ee6c07839a6a59c0c2be7b", func := "thwart/thwartlaw03.HsumAlone", spec := "hsumAlone", inPlace := ["internal/bytealg.Count", "internal/bytealg.IndexByte", "internal/bytealg.Index"], named := ["unicode/utf8.first", "unicode/utf8.acceptRanges", "internal/bytealg.MaxLen"], apart := false, laid := [("unicode/utf8.acceptRanges", laid_unicode_utf8_acceptRanges), ("unicode/utf8.first", laid_unicode_utf8_first)] }
def HsumAloneSaid : Prop := hsumAloneRow.holds Tryd.pinned (OpenSpec.ofChange hsumAloneSpec)

/-- ITS FALSE NEIGHBOUR: 'it returns false'. Refute it at one input. -/
def hsumAloneWrong : ChangeSpec := { name := "hsumAlone", fn := fun _ => fun
  | [d1, d2, d3] => { results := [.lit (.bool false)], args := [d1, d2, d3] }
  | _ => none }
def HsumAloneWrongFalsely : Prop := hsumAloneRow.holds Tryd.pinned (OpenSpec.ofChange hsumAloneWrong)

/-- 'thwartlaw04.PpathParts': WHATEVER THE INPUT: true; the input reads as it did. -/
def ppathPartsSpec : ChangeSpec := { name := "ppathParts", fn := fun _ => fun
  | [d] => { results := [.lit (.bool true)], args := [d] }
  | _ => none }
def ppathPartsRow : OpenClaim := { program := "ytpjanlpjjemenaadoor", sum := "b047ef7ab2f8862b2886d338ca43ba55ecc1e2d986ee6c07839a6a59c0c2be7b", func := "thwart/thwartlaw04.PpathParts", spec := "ppathParts", inPlace := ["internal/bytealg.IndexByteString", "internal/bytealg.IndexString", "internal/bytealg.CountString"], unfollowed := true, recurses := true, named := ["unicode/utf8.first", "unicode/utf8.acceptRanges", "internal/bytealg.MaxLen"], apart := false, laid := [("unicode/utf8.acceptRanges", laid_unicode_utf8_acceptRanges), ("unicode/utf8.first", laid_unicode_utf8_first)] }
def PpathPartsSaid : Prop := ppathPartsRow.holds Tryd.pinned (OpenSpec.ofChange ppathPartsSpec)

/-- ITS FALSE NEIGHBOUR: 'it returns false'. Refute it at one input. -/
def ppathPartsWrong : ChangeSpec := { name := "ppathParts", fn := fun _ => fun
  | [d] => { results := [.lit (.bool false)], args := [d] }
  | _ => none }
def PpathPartsWrongFalsely : Prop := ppathPartsRow.holds Tryd.pinned (OpenSpec.ofChange ppathPartsWrong)

/-- 'thwartlaw04.PpathLess': WHATEVER THE INPUT: true; the input reads as it did. -/
def ppathLessSpec : ChangeSpec := { name := "ppathLess", fn := fun _ => fun
  | [d1, d2, d3] => { results := [.lit (.bool true)], args := [d1, d2, d3] }
  | _ => none }
def ppathLessRow : OpenClaim := { program := "ytpjanlpjjemenaadoor", sum := "b047ef7ab2f8862b2886d338ca43ba55ecc1e2d986ee6c07839a6a59c0c2be7b", func := "thwart/thwartlaw04.PpathLess", spec := "ppathLess", inPlace := ["internal/bytealg.IndexByteString", "internal/bytealg.IndexString", "internal/bytealg.CountString"], unfollowed := true, recurses := true, named := ["unicode/utf8.first", "unicode/utf8.acceptRanges", "internal/bytealg.MaxLen"], apart := false, laid := [("unicode/utf8.acceptRanges", laid_unicode_utf8_acceptRanges), ("unicode/utf8.first", laid_unicode_utf8_first)] }
def PpathLessSaid : Prop := ppathLessRow.holds Tryd.pinned (OpenSpec.ofChange ppathLessSpec)

/-- ITS FALSE NEIGHBOUR: 'it returns false'. Refute it at one input. -/
def ppathLessWrong : ChangeSpec := { name := "ppathLess", fn := fun _ => fun
  | [d1, d2, d3] => { results := [.lit (.bool false)], args := [d1, d2, d3] }
  | _ => none }
def PpathLessWrongFalsely : Prop := ppathLessRow.holds Tryd.pinned (OpenSpec.ofChange ppathLessWrong)

/-- 'thwartlaw04.PpathJoins': WHATEVER THE INPUT: true; the input reads as it did. -/
def ppathJoinsSpec : ChangeSpec := { name := "ppathJoins", fn := fun _ => fun
  | [d1, d2] => { results := [.lit (.bool true)], args := [d1, d2] }
  | _ => none }
def ppathJoinsRow : OpenClaim := { program := "ytpjanlpjjemenaadoor", sum := "b047ef7ab2f8862b2886d338ca43ba55ecc1e2d986ee6c07839a6a59c0c2be7b", func := "thwart/thwartlaw04.PpathJoins", spec := "ppathJoins", inPlace := ["internal/bytealg.IndexByteString", "internal/bytealg.IndexString", "internal/bytealg.CountString"], unfollowed := true, recurses := true, named := ["unicode/utf8.first", "unicode/utf8.acceptRanges", "internal/bytealg.MaxLen"], apart := false, laid := [("unicode/utf8.acceptRanges", laid_unicode_utf8_acceptRanges), ("unicode/utf8.first", laid_unicode_utf8_first)] }
def PpathJoinsSaid : Prop := ppathJoinsRow.holds Tryd.pinned (OpenSpec.ofChange ppathJoinsSpec)

/-- ITS FALSE NEIGHBOUR: 'it returns false'. Refute it at one input. -/
def ppathJoinsWrong : ChangeSpec := { name := "ppathJoins", fn := fun _ => fun
  | [d1, d2] => { results := [.lit (.bool false)], args := [d1, d2] }
  | _ => none }
def PpathJoinsWrongFalsely : Prop := ppathJoinsRow.holds Tryd.pinned (OpenSpec.ofChange ppathJoinsWrong)

/-- 'thwartlaw04.PpathWhole': WHATEVER THE INPUT: true; the input reads as it did. -/
def ppathWholeSpec : ChangeSpec := { name := "ppathWhole", fn := fun _ => fun
  | [d1, d2] => { results := [.lit (.bool true)], args := [d1, d2] }
  | _ => none }
def ppathWholeRow : OpenClaim := { program := "ytpjanlpjjemenaadoor", sum := "b047ef7ab2f8862b2886d338ca43ba55ecc1e2d986ee6c07839a6a59c0c2be7b", func := "thwart/thwartlaw04.PpathWhole", spec := "ppathWhole", inPlace := ["internal/bytealg.IndexByteString", "internal/bytealg.IndexString", "internal/bytealg.CountString"], unfollowed := true, recurses := true, named := ["unicode/utf8.first", "unicode/utf8.acceptRanges", "internal/bytealg.MaxLen"], apart := false, laid := [("unicode/utf8.acceptRanges", laid_unicode_utf8_acceptRanges), ("unicode/utf8.first", laid_unicode_utf8_first)] }
def PpathWholeSaid : Prop := ppathWholeRow.holds Tryd.pinned (OpenSpec.ofChange ppathWholeSpec)

/-- ITS FALSE NEIGHBOUR: 'it returns false'. Refute it at one input. -/
def ppathWholeWrong : ChangeSpec := { name := "ppathWhole", fn := fun _ => fun
  | [d1, d2] => { results := [.lit (.bool false)], args := [d1, d2] }
  | _ => none }
def PpathWholeWrongFalsely : Prop := ppathWholeRow.holds Tryd.pinned (OpenSpec.ofChange ppathWholeWrong)

/-- 'thwartlaw34.GlobsQuoted': WHATEVER THE INPUT: true; the input reads as it did. -/
def globsQuotedSpec : ChangeSpec := { name := "globsQuoted", fn := fun _ => fun
  | [d1, d2, d3] => { results := [.lit (.bool true)], args := [d1, d2, d3] }
  | _ => none }
def globsQuotedRow : OpenClaim := { program := "ytpjanlpjjemenaadoor", sum := "b047ef7ab2f8862b2886d338ca43ba55ecc1e2d986ee6c07839a6a59c0c2be7b", func := "thwart/thwartlaw34.GlobsQuoted", spec := "globsQuoted", inPlace := ["internal/bytealg.IndexByteString", "internal/bytealg.IndexString", "internal/bytealg.CountString"], unfollowed := true, recurses := true, named := ["unicode/utf8.first", "unicode/utf8.acceptRanges", "internal/bytealg.MaxLen"], apart := false, laid := [("unicode/utf8.acceptRanges", laid_unicode_utf8_acceptRanges), ("unicode/utf8.first", laid_unicode_utf8_first)] }
def GlobsQuotedSaid : Prop := globsQuotedRow.holds Tryd.pinned (OpenSpec.ofChange globsQuotedSpec)

/-- ITS FALSE NEIGHBOUR: 'it returns false'. Refute it at one input. -/
def globsQuotedWrong : ChangeSpec := { name := "globsQuoted", fn := fun _ => fun
  | [d1, d2, d3] => { results := [.lit (.bool false)], args := [d1, d2, d3] }
  | _ => none }
def GlobsQuotedWrongFalsely : Prop := globsQuotedRow.holds Tryd.pinned (OpenSpec.ofChange globsQuotedWrong)

/-- 'thwartlaw34.GlobsAny': WHATEVER THE INPUT: true; the input reads as it did. -/
def globsAnySpec : ChangeSpec := { name := "globsAny", fn := fun _ => fun
  | [d1, d2, d3] => { results := [.lit (.bool true)], args := [d1, d2, d3] }
  | _ => none }
def globsAnyRow : OpenClaim := { program := "ytpjanlpjjemenaadoor", sum := "b047ef7ab2f8862b2886d338ca43ba55ecc1e2d986ee6c07839a6a59c0c2be7b", func := "thwart/thwartlaw34.GlobsAny", spec := "globsAny", inPlace := ["internal/bytealg.IndexByteString", "internal/bytealg.IndexString", "internal/bytealg.CountString"], unfollowed := true, recurses := true, named := ["unicode/utf8.first", "unicode/utf8.acceptRanges", "internal/bytealg.MaxLen"], apart := false, laid := [("unicode/utf8.acceptRanges", laid_unicode_utf8_acceptRanges), ("unicode/utf8.first", laid_unicode_utf8_first)] }
def GlobsAnySaid : Prop := globsAnyRow.holds Tryd.pinned (OpenSpec.ofChange globsAnySpec)

/-- ITS FALSE NEIGHBOUR: 'it returns false'. Refute it at one input. -/
def globsAnyWrong : ChangeSpec := { name := "globsAny", fn := fun _ => fun
  | [d1, d2, d3] => { results := [.lit (.bool false)], args := [d1, d2, d3] }
  | _ => none }
def GlobsAnyWrongFalsely : Prop := globsAnyRow.holds Tryd.pinned (OpenSpec.ofChange globsAnyWrong)

/- THE SECOND FORM. 'bulk': how many values and letters a reading holds, each counted each time it is reached (what is shared counts as often as it is met; a slice's spare places count too). A statement '..UptoSaid' is the law's where the arguments, and the package variables that the reading takes, are together of bulk at most 1048576: NARROWER than '..Said'. Prove '..Said' where nothing that the law and all that it calls make is longer than what came in: it says more and counts as full. Else prove '..UptoSaid'. A law counts once. -/
mutual
def uptoBulk {H : Type} : DataW H → Nat
  | .lit (.string bytes) => bytes.length + 1
  | .lit _ => 1
  | .nil => 1
  | .ptr d => uptoBulk d + 1
  | .slice elems spare => uptoBulkAll elems + uptoBulkAll spare + 1
  | .agg parts => uptoBulkAll parts + 1
  | .iface _ d => uptoBulk d + 1
  | .map entries => uptoBulkEntries entries + 1
  | .held _ => 1
def uptoBulkAll {H : Type} : List (DataW H) → Nat
  | [] => 0
  | d :: r => uptoBulk d + uptoBulkAll r
def uptoBulkEntries {H : Type} : List (Lit × DataW H) → Nat
  | [] => 0
  | x :: r => uptoBulkEntry x + uptoBulkEntries r
def uptoBulkEntry {H : Type} : Lit × DataW H → Nat
  | (.string bytes, d) => bytes.length + uptoBulk d + 1
  | (_, d) => uptoBulk d + 1
 end
def uptoSmall : (H : Type) → List (DataW H) → Bool := fun _ ds => decide (uptoBulkAll ds ≤ 1048576)
def OpenSpec.upto (s : _root_.Go.ChangeSpec) : _root_.Go.OpenSpec := { _root_.Go.OpenSpec.ofChange s with cond := some uptoSmall }

/-- 'thwartlaw02.StrfLays', WHERE WHAT IT READS IS OF BULK AT MOST 1048576: true; the input reads as it did. -/
def strfLaysUptoRow : OpenClaim := { program := "ytpjanlpjjemenaadoor", sum := "b047ef7ab2f8862b2886d338ca43ba55ecc1e2d986ee6c07839a6a59c0c2be7b", func := "thwart/thwartlaw02.StrfLays", spec := "strfLays", inPlace := ["internal/bytealg.IndexByteString", "internal/bytealg.IndexString", "internal/bytealg.IndexByte", "internal/bytealg.Index"], named := ["internal/bytealg.MaxLen", "unicode/utf8.first", "unicode/utf8.acceptRanges"], apart := false, laid := [("unicode/utf8.acceptRanges", laid_unicode_utf8_acceptRanges), ("unicode/utf8.first", laid_unicode_utf8_first)], narrowed := true }
def StrfLaysUptoSaid : Prop := strfLaysUptoRow.holds Tryd.pinned (OpenSpec.upto strfLaysSpec)

/-- 'thwartlaw02.StrfBack', WHERE WHAT IT READS IS OF BULK AT MOST 1048576: true; the input reads as it did. -/
def strfBackUptoRow : OpenClaim := { program := "ytpjanlpjjemenaadoor", sum := "b047ef7ab2f8862b2886d338ca43ba55ecc1e2d986ee6c07839a6a59c0c2be7b", func := "thwart/thwartlaw02.StrfBack", spec := "strfBack", inPlace := ["internal/bytealg.IndexByteString", "internal/bytealg.IndexString", "internal/bytealg.IndexByte", "internal/bytealg.Index"], named := ["internal/bytealg.MaxLen", "unicode/utf8.first", "unicode/utf8.acceptRanges"], apart := false, laid := [("unicode/utf8.acceptRanges", laid_unicode_utf8_acceptRanges), ("unicode/utf8.first", laid_unicode_utf8_first)], narrowed := true }
def StrfBackUptoSaid : Prop := strfBackUptoRow.holds Tryd.pinned (OpenSpec.upto strfBackSpec)

/-- 'thwartlaw03.HsumSums', WHERE WHAT IT READS IS OF BULK AT MOST 1048576: true; the input reads as it did. -/
def hsumSumsUptoRow : OpenClaim := { program := "ytpjanlpjjemenaadoor", sum := "b047ef7ab2f8862b2886d338ca43ba55ecc1e2d986ee6c07839a6a59c0c2be7b", func := "thwart/thwartlaw03.HsumSums", spec := "hsumSums", inPlace := ["internal/bytealg.Count", "internal/bytealg.IndexByte", "internal/bytealg.Index"], named := ["unicode/utf8.first", "unicode/utf8.acceptRanges", "internal/bytealg.MaxLen"], apart := false, laid := [("unicode/utf8.acceptRanges", laid_unicode_utf8_acceptRanges), ("unicode/utf8.first", laid_unicode_utf8_first)], narrowed := true }
def HsumSumsUptoSaid : Prop := hsumSumsUptoRow.holds Tryd.pinned (OpenSpec.upto hsumSumsSpec)

/-- 'thwartlaw03.HsumFinds', WHERE WHAT IT READS IS OF BULK AT MOST 1048576: true; the input reads as it did. -/
def hsumFindsUptoRow : OpenClaim := { program := "ytpjanlpjjemenaadoor", sum := "b047ef7ab2f8862b2886d338ca43ba55ecc1e2d986ee6c07839a6a59c0c2be7b", func := "thwart/thwartlaw03.HsumFinds", spec := "hsumFinds", inPlace := ["internal/bytealg.Count", "internal/bytealg.IndexByte", "internal/bytealg.Index"], named := ["unicode/utf8.first", "unicode/utf8.acceptRanges", "internal/bytealg.MaxLen"], apart := false, laid := [("unicode/utf8.acceptRanges", laid_unicode_utf8_acceptRanges), ("unicode/utf8.first", laid_unicode_utf8_first)], narrowed := true }
def HsumFindsUptoSaid : Prop := hsumFindsUptoRow.holds Tryd.pinned (OpenSpec.upto hsumFindsSpec)

/-- 'thwartlaw03.HsumAlone', WHERE WHAT IT READS IS OF BULK AT MOST 1048576: true; the input reads as it did. -/
def hsumAloneUptoRow : OpenClaim := { program := "ytpjanlpjjemenaadoor", sum := "b047ef7ab2f8862b2886d338ca43ba55ecc1e2d986ee6c07839a6a59c0c2be7b", func := "thwart/thwartlaw03.HsumAlone", spec := "hsumAlone", inPlace := ["internal/bytealg.Count", "internal/bytealg.IndexByte", "internal/bytealg.Index"], named := ["unicode/utf8.first", "unicode/utf8.acceptRanges", "internal/bytealg.MaxLen"], apart := false, laid := [("unicode/utf8.acceptRanges", laid_unicode_utf8_acceptRanges), ("unicode/utf8.first", laid_unicode_utf8_first)], narrowed := true }
def HsumAloneUptoSaid : Prop := hsumAloneUptoRow.holds Tryd.pinned (OpenSpec.upto hsumAloneSpec)

/-- 'thwartlaw04.PpathParts', WHERE WHAT IT READS IS OF BULK AT MOST 1048576: true; the input reads as it did. -/
def ppathPartsUptoRow : OpenClaim := { program := "ytpjanlpjjemenaadoor", sum := "b047ef7ab2f8862b2886d338ca43ba55ecc1e2d986ee6c07839a6a59c0c2be7b", func := "thwart/thwartlaw04.PpathParts", spec := "ppathParts", inPlace := ["internal/bytealg.IndexByteString", "internal/bytealg.IndexString", "internal/bytealg.CountString"], unfollowed := true, recurses := true, named := ["unicode/utf8.first", "unicode/utf8.acceptRanges", "internal/bytealg.MaxLen"], apart := false, laid := [("unicode/utf8.acceptRanges", laid_unicode_utf8_acceptRanges), ("unicode/utf8.first", laid_unicode_utf8_first)], narrowed := true }
def PpathPartsUptoSaid : Prop := ppathPartsUptoRow.holds Tryd.pinned (OpenSpec.upto ppathPartsSpec)

/-- 'thwartlaw04.PpathLess', WHERE WHAT IT READS IS OF BULK AT MOST 1048576: true; the input reads as it did. -/
def ppathLessUptoRow : OpenClaim := { program := "ytpjanlpjjemenaadoor", sum := "b047ef7ab2f8862b2886d338ca43ba55ecc1e2d986ee6c07839a6a59c0c2be7b", func := "thwart/thwartlaw04.PpathLess", spec := "ppathLess", inPlace := ["internal/bytealg.IndexByteString", "internal/bytealg.IndexString", "internal/bytealg.CountString"], unfollowed := true, recurses := true, named := ["unicode/utf8.first", "unicode/utf8.acceptRanges", "internal/bytealg.MaxLen"], apart := false, laid := [("unicode/utf8.acceptRanges", laid_unicode_utf8_acceptRanges), ("unicode/utf8.first", laid_unicode_utf8_first)], narrowed := true }
def PpathLessUptoSaid : Prop := ppathLessUptoRow.holds Tryd.pinned (OpenSpec.upto ppathLessSpec)

/-- 'thwartlaw04.PpathJoins', WHERE WHAT IT READS IS OF BULK AT MOST 1048576: true; the input reads as it did. -/
def ppathJoinsUptoRow : OpenClaim := { program := "ytpjanlpjjemenaadoor", sum := "b047ef7ab2f8862b2886d338ca43ba55ecc1e2d986ee6c07839a6a59c0c2be7b", func := "thwart/thwartlaw04.PpathJoins", spec := "ppathJoins", inPlace := ["internal/bytealg.IndexByteString", "internal/bytealg.IndexString", "internal/bytealg.CountString"], unfollowed := true, recurses := true, named := ["unicode/utf8.first", "unicode/utf8.acceptRanges", "internal/bytealg.MaxLen"], apart := false, laid := [("unicode/utf8.acceptRanges", laid_unicode_utf8_acceptRanges), ("unicode/utf8.first", laid_unicode_utf8_first)], narrowed := true }
def PpathJoinsUptoSaid : Prop := ppathJoinsUptoRow.holds Tryd.pinned (OpenSpec.upto ppathJoinsSpec)

/-- 'thwartlaw04.PpathWhole', WHERE WHAT IT READS IS OF BULK AT MOST 1048576: true; the input reads as it did. -/
def ppathWholeUptoRow : OpenClaim := { program := "ytpjanlpjjemenaadoor", sum := "b047ef7ab2f8862b2886d338ca43ba55ecc1e2d986ee6c07839a6a59c0c2be7b", func := "thwart/thwartlaw04.PpathWhole", spec := "ppathWhole", inPlace := ["internal/bytealg.IndexByteString", "internal/bytealg.IndexString", "internal/bytealg.CountString"], unfollowed := true, recurses := true, named := ["unicode/utf8.first", "unicode/utf8.acceptRanges", "internal/bytealg.MaxLen"], apart := false, laid := [("unicode/utf8.acceptRanges", laid_unicode_utf8_acceptRanges), ("unicode/utf8.first", laid_unicode_utf8_first)], narrowed := true }
def PpathWholeUptoSaid : Prop := ppathWholeUptoRow.holds Tryd.pinned (OpenSpec.upto ppathWholeSpec)

/-- 'thwartlaw34.GlobsQuoted', WHERE WHAT IT READS IS OF BULK AT MOST 1048576: true; the input reads as it did. -/
def globsQuotedUptoRow : OpenClaim := { program := "ytpjanlpjjemenaadoor", sum := "b047ef7ab2f8862b2886d338ca43ba55ecc1e2d986ee6c07839a6a59c0c2be7b", func := "thwart/thwartlaw34.GlobsQuoted", spec := "globsQuoted", inPlace := ["internal/bytealg.IndexByteString", "internal/bytealg.IndexString", "internal/bytealg.CountString"], unfollowed := true, recurses := true, named := ["unicode/utf8.first", "unicode/utf8.acceptRanges", "internal/bytealg.MaxLen"], apart := false, laid := [("unicode/utf8.acceptRanges", laid_unicode_utf8_acceptRanges), ("unicode/utf8.first", laid_unicode_utf8_first)], narrowed := true }
def GlobsQuotedUptoSaid : Prop := globsQuotedUptoRow.holds Tryd.pinned (OpenSpec.upto globsQuotedSpec)

/-- 'thwartlaw34.GlobsAny', WHERE WHAT IT READS IS OF BULK AT MOST 1048576: true; the input reads as it did. -/
def globsAnyUptoRow : OpenClaim := { program := "ytpjanlpjjemenaadoor", sum := "b047ef7ab2f8862b2886d338ca43ba55ecc1e2d986ee6c07839a6a59c0c2be7b", func := "thwart/thwartlaw34.GlobsAny", spec := "globsAny", inPlace := ["internal/bytealg.IndexByteString", "internal/bytealg.IndexString", "internal/bytealg.CountString"], unfollowed := true, recurses := true, named := ["unicode/utf8.first", "unicode/utf8.acceptRanges", "internal/bytealg.MaxLen"], apart := false, laid := [("unicode/utf8.acceptRanges", laid_unicode_utf8_acceptRanges), ("unicode/utf8.first", laid_unicode_utf8_first)], narrowed := true }
def GlobsAnyUptoSaid : Prop := globsAnyUptoRow.holds Tryd.pinned (OpenSpec.upto globsAnySpec)

end Rows
end Go.Proofs.YtpjanlpjjemenaaDoor
