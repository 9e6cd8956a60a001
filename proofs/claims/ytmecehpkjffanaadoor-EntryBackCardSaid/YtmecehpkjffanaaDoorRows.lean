/-
  NARROWER THAN 'FOR EVERY INPUT', by the rows' own cells (each row's printed sentence says how): ReconeChecks: laid · EntryLists: laid · EntryChecks: laid · ReconeEncodes: laid · ReconeDecodes: laid · HardOf: laid · HardApplies: laid · RectwoRewrites: laid · RectwoGets: laid · RectwoPuts: laid · EntryBack: laid · HardBack: laid.
  DERIVED. THE GIVEN ROWS OF THIS SEAT. 12 by the template 'for every input the law returns true; each argument reads behind the call as it read before'; 0 by the template 'total and deterministic' (their statements: YtmecehpkjffanaaDoorTotals.lean).
  GIVEN WITH THE SEED: the statements are not yours to turn. If you find one false, say at which input.
  Laid BY PROGRAM, IN A SANDBOX (cutbox-rows.mjs): the forced cells as the released guide's own fill.sh prints them over the translation 653d9cdefc7ccfa3… (all of the seat's roots in one cut). By AI agents, Wed Nov 11 2026. No macro, syntax, notation, axiom, sorry.
-/
import Derived.Test.YtmecehpkjffanaaDoorChecked
import GoSem.PinnedTables
import GoSem.Claim
import GoSem.ClaimJoined
import GoSem.ClaimMapViews
import Derived.JoinedTies
import Derived.KernelRfl
namespace Go.Proofs.YtmecehpkjffanaaDoor
/- THE CELL 'sum', in the pinned program and in every row, IS THE sha256 OF THE DUMP (.gsa) THAT YtmecehpkjffanaaDoorProg.lean LOADS. Nothing in Lean hashes anything: it is a label: what it is worth is what the hold of that sum in a sandbox is worth. -/
noncomputable def Tryd.pinned : Pinned := { name := "ytmecehpkjffanaadoor", sum := "653d9cdefc7ccfa32c8bbdb541eb3937497cd2023db2b4932221c381c94960b7", checked := Tryd.checked }
namespace Rows
def none {H : Type} : Left H := { results := [], args := [] }

/- WHAT THE LISTED PACKAGE-LEVEL VARIABLES READ AS WHEN THE CALL BEGINS. Each datum BY PROGRAM (the guide's laid-datum.mjs) off the statement by which the dump's own 'gosem.cut.vars' lays the variable. In a bare row this is a premise. The card (YtmecehpkjffanaaDoorCards.lean) ties it to the program's text. -/
def laid_unicode_utf8_acceptRanges {H : Type} : DataW H := .agg [.agg [.lit (.int .u8 128), .lit (.int .u8 191)], .agg [.lit (.int .u8 160), .lit (.int .u8 191)], .agg [.lit (.int .u8 128), .lit (.int .u8 159)], .agg [.lit (.int .u8 144), .lit (.int .u8 191)], .agg [.lit (.int .u8 128), .lit (.int .u8 143)], .agg [.lit (.int .u8 0), .lit (.int .u8 0)], .agg [.lit (.int .u8 0), .lit (.int .u8 0)], .agg [.lit (.int .u8 0), .lit (.int .u8 0)], .agg [.lit (.int .u8 0), .lit (.int .u8 0)], .agg [.lit (.int .u8 0), .lit (.int .u8 0)], .agg [.lit (.int .u8 0), .lit (.int .u8 0)], .agg [.lit (.int .u8 0), .lit (.int .u8 0)], .agg [.lit (.int .u8 0), .lit (.int .u8 0)], .agg [.lit (.int .u8 0), .lit (.int .u8 0)], .agg [.lit (.int .u8 0), .lit (.int .u8 0)], .agg [.lit (.int .u8 0), .lit (.int .u8 0)]]
/-- One of Go's own tables, pinned by name: the form's constant. -/
def laid_unicode_utf8_first : DataW Unit := Go.Pinned.utf8First

/-- 'changeoverlaw16.ReconeChecks': WHATEVER THE INPUT: true; the input reads as it did. -/
def reconeChecksSpec : ChangeSpec := { name := "reconeChecks", fn := fun _ => fun
  | [d1, d2] => { results := [.lit (.bool true)], args := [d1, d2] }
  | _ => none }
def reconeChecksRow : OpenClaim := { program := "ytmecehpkjffanaadoor", sum := "653d9cdefc7ccfa32c8bbdb541eb3937497cd2023db2b4932221c381c94960b7", func := "changeover/changeoverlaw16.ReconeChecks", spec := "reconeChecks", unfollowed := true, recurses := true, named := ["unicode/utf8.first", "unicode/utf8.acceptRanges"], apart := false, laid := [("unicode/utf8.acceptRanges", laid_unicode_utf8_acceptRanges), ("unicode/utf8.first", laid_unicode_utf8_first)] }
def ReconeChecksSaid : Prop := reconeChecksRow.holds Tryd.pinned (OpenSpec.ofChange reconeChecksSpec)

/-- ITS FALSE NEIGHBOUR: 'it returns false'. Refute it at one input. -/
def reconeChecksWrong : ChangeSpec := { name := "reconeChecks", fn := fun _ => fun
  | [d1, d2] => { results := [.lit (.bool false)], args := [d1, d2] }
  | _ => none }
def ReconeChecksWrongFalsely : Prop := reconeChecksRow.holds Tryd.pinned (OpenSpec.ofChange reconeChecksWrong)

/-- 'changeoverlaw12.EntryLists': WHATEVER THE INPUT: true; the input reads as it did. -/
def entryListsSpec : ChangeSpec := { name := "entryLists", fn := fun _ => fun
  | [d1, d2, d3] => { results := [.lit (.bool true)], args := [d1, d2, d3] }
  | _ => none }
def entryListsRow : OpenClaim := { program := "ytmecehpkjffanaadoor", sum := "653d9cdefc7ccfa32c8bbdb541eb3937497cd2023db2b4932221c381c94960b7", func := "changeover/changeoverlaw12.EntryLists", spec := "entryLists", inPlace := ["slices.overlaps[changeover/api.Entry]"], unfollowed := true, recurses := true, named := ["unicode/utf8.first", "unicode/utf8.acceptRanges"], apart := false, laid := [("unicode/utf8.acceptRanges", laid_unicode_utf8_acceptRanges), ("unicode/utf8.first", laid_unicode_utf8_first)] }
def EntryListsSaid : Prop := entryListsRow.holds Tryd.pinned (OpenSpec.ofChange entryListsSpec)

/-- ITS FALSE NEIGHBOUR: 'it returns false'. Refute it at one input. -/
def entryListsWrong : ChangeSpec := { name := "entryLists", fn := fun _ => fun
  | [d1, d2, d3] => { results := [.lit (.bool false)], args := [d1, d2, d3] }
  | _ => none }
def EntryListsWrongFalsely : Prop := entryListsRow.holds Tryd.pinned (OpenSpec.ofChange entryListsWrong)

/-- 'changeoverlaw12.EntryChecks': WHATEVER THE INPUT: true; the input reads as it did. -/
def entryChecksSpec : ChangeSpec := { name := "entryChecks", fn := fun _ => fun
  | [d1, d2] => { results := [.lit (.bool true)], args := [d1, d2] }
  | _ => none }
def entryChecksRow : OpenClaim := { program := "ytmecehpkjffanaadoor", sum := "653d9cdefc7ccfa32c8bbdb541eb3937497cd2023db2b4932221c381c94960b7", func := "changeover/changeoverlaw12.EntryChecks", spec := "entryChecks", inPlace := ["slices.overlaps[changeover/api.Entry]"], unfollowed := true, recurses := true, named := ["unicode/utf8.first", "unicode/utf8.acceptRanges"], apart := false, laid := [("unicode/utf8.acceptRanges", laid_unicode_utf8_acceptRanges), ("unicode/utf8.first", laid_unicode_utf8_first)] }
def EntryChecksSaid : Prop := entryChecksRow.holds Tryd.pinned (OpenSpec.ofChange entryChecksSpec)

/-- ITS FALSE NEIGHBOUR: 'it returns false'. Refute it at one input. -/
def entryChecksWrong : ChangeSpec := { name := "entryChecks", fn := fun _ => fun
  | [d1, d2] => { results := [.lit (.bool false)], args := [d1, d2] }
  | _ => none }
def EntryChecksWrongFalsely : Prop := entryChecksRow.holds Tryd.pinned (OpenSpec.ofChange entryChecksWrong)

/-- 'changeoverlaw16.ReconeEncodes': WHATEVER THE INPUT: true; the input reads as it did. -/
def reconeEncodesSpec : ChangeSpec := { name := "reconeEncodes", fn := fun _ => fun
  | [d] => { results := [.lit (.bool true)], args := [d] }
  | _ => none }
def reconeEncodesRow : OpenClaim := { program := "ytmecehpkjffanaadoor", sum := "653d9cdefc7ccfa32c8bbdb541eb3937497cd2023db2b4932221c381c94960b7", func := "changeover/changeoverlaw16.ReconeEncodes", spec := "reconeEncodes", unfollowed := true, recurses := true, named := ["unicode/utf8.first", "unicode/utf8.acceptRanges"], apart := false, laid := [("unicode/utf8.acceptRanges", laid_unicode_utf8_acceptRanges), ("unicode/utf8.first", laid_unicode_utf8_first)] }
def ReconeEncodesSaid : Prop := reconeEncodesRow.holds Tryd.pinned (OpenSpec.ofChange reconeEncodesSpec)

/-- ITS FALSE NEIGHBOUR: 'it returns false'. Refute it at one input. -/
def reconeEncodesWrong : ChangeSpec := { name := "reconeEncodes", fn := fun _ => fun
  | [d] => { results := [.lit (.bool false)], args := [d] }
  | _ => none }
def ReconeEncodesWrongFalsely : Prop := reconeEncodesRow.holds Tryd.pinned (OpenSpec.ofChange reconeEncodesWrong)

/-- 'changeoverlaw16.ReconeDecodes': WHATEVER THE INPUT: true; the input reads as it did. -/
def reconeDecodesSpec : ChangeSpec := { name := "reconeDecodes", fn := fun _ => fun
  | [d] => { results := [.lit (.bool true)], args := [d] }
  | _ => none }
def reconeDecodesRow : OpenClaim := { program := "ytmecehpkjffanaadoor", sum := "653d9cdefc7ccfa32c8bbdb541eb3937497cd2023db2b4932221c381c94960b7", func := "changeover/changeoverlaw16.ReconeDecodes", spec := "reconeDecodes", unfollowed := true, recurses := true, named := ["unicode/utf8.first", "unicode/utf8.acceptRanges"], apart := false, laid := [("unicode/utf8.acceptRanges", laid_unicode_utf8_acceptRanges), ("unicode/utf8.first", laid_unicode_utf8_first)] }
def ReconeDecodesSaid : Prop := reconeDecodesRow.holds Tryd.pinned (OpenSpec.ofChange reconeDecodesSpec)

/-- ITS FALSE NEIGHBOUR: 'it returns false'. Refute it at one input. -/
def reconeDecodesWrong : ChangeSpec := { name := "reconeDecodes", fn := fun _ => fun
  | [d] => { results := [.lit (.bool false)], args := [d] }
  | _ => none }
def ReconeDecodesWrongFalsely : Prop := reconeDecodesRow.holds Tryd.pinned (OpenSpec.ofChange reconeDecodesWrong)

/-- 'changeoverlaw19.HardOf': WHATEVER THE INPUT: true; the input reads as it did. -/
def hardOfSpec : ChangeSpec := { name := "hardOf", fn := fun _ => fun
  | [d] => { results := [.lit (.bool true)], args := [d] }
  | _ => none }
def hardOfRow : OpenClaim := { program := "ytmecehpkjffanaadoor", sum := "653d9cdefc7ccfa32c8bbdb541eb3937497cd2023db2b4932221c381c94960b7", func := "changeover/changeoverlaw19.HardOf", spec := "hardOf", inPlace := ["slices.overlaps[changeover/api.Entry]"], unfollowed := true, recurses := true, named := ["unicode/utf8.first", "unicode/utf8.acceptRanges"], apart := false, laid := [("unicode/utf8.acceptRanges", laid_unicode_utf8_acceptRanges), ("unicode/utf8.first", laid_unicode_utf8_first)] }
def HardOfSaid : Prop := hardOfRow.holds Tryd.pinned (OpenSpec.ofChange hardOfSpec)

/-- ITS FALSE NEIGHBOUR: 'it returns false'. Refute it at one input. -/
def hardOfWrong : ChangeSpec := { name := "hardOf", fn := fun _ => fun
  | [d] => { results := [.lit (.bool false)], args := [d] }
  | _ => none }
def HardOfWrongFalsely : Prop := hardOfRow.holds Tryd.pinned (OpenSpec.ofChange hardOfWrong)

/-- 'changeoverlaw19.HardApplies': WHATEVER THE INPUT: true; the input reads as it did. -/
def hardAppliesSpec : ChangeSpec := { name := "hardApplies", fn := fun _ => fun
  | [d1, d2] => { results := [.lit (.bool true)], args := [d1, d2] }
  | _ => none }
def hardAppliesRow : OpenClaim := { program := "ytmecehpkjffanaadoor", sum := "653d9cdefc7ccfa32c8bbdb541eb3937497cd2023db2b4932221c381c94960b7", func := "changeover/changeoverlaw19.HardApplies", spec := "hardApplies", inPlace := ["slices.overlaps[changeover/api.Entry]"], unfollowed := true, recurses := true, named := ["unicode/utf8.first", "unicode/utf8.acceptRanges"], apart := false, laid := [("unicode/utf8.acceptRanges", laid_unicode_utf8_acceptRanges), ("unicode/utf8.first", laid_unicode_utf8_first)] }
def HardAppliesSaid : Prop := hardAppliesRow.holds Tryd.pinned (OpenSpec.ofChange hardAppliesSpec)

/-- ITS FALSE NEIGHBOUR: 'it returns false'. Refute it at one input. -/
def hardAppliesWrong : ChangeSpec := { name := "hardApplies", fn := fun _ => fun
  | [d1, d2] => { results := [.lit (.bool false)], args := [d1, d2] }
  | _ => none }
def HardAppliesWrongFalsely : Prop := hardAppliesRow.holds Tryd.pinned (OpenSpec.ofChange hardAppliesWrong)

/-- 'changeoverlaw17.RectwoRewrites': WHATEVER THE INPUT: true; the input reads as it did. -/
def rectwoRewritesSpec : ChangeSpec := { name := "rectwoRewrites", fn := fun _ => fun
  | [d] => { results := [.lit (.bool true)], args := [d] }
  | _ => none }
def rectwoRewritesRow : OpenClaim := { program := "ytmecehpkjffanaadoor", sum := "653d9cdefc7ccfa32c8bbdb541eb3937497cd2023db2b4932221c381c94960b7", func := "changeover/changeoverlaw17.RectwoRewrites", spec := "rectwoRewrites", unfollowed := true, recurses := true, named := ["unicode/utf8.first", "unicode/utf8.acceptRanges"], apart := false, laid := [("unicode/utf8.acceptRanges", laid_unicode_utf8_acceptRanges), ("unicode/utf8.first", laid_unicode_utf8_first)] }
def RectwoRewritesSaid : Prop := rectwoRewritesRow.holds Tryd.pinned (OpenSpec.ofChange rectwoRewritesSpec)

/-- ITS FALSE NEIGHBOUR: 'it returns false'. Refute it at one input. -/
def rectwoRewritesWrong : ChangeSpec := { name := "rectwoRewrites", fn := fun _ => fun
  | [d] => { results := [.lit (.bool false)], args := [d] }
  | _ => none }
def RectwoRewritesWrongFalsely : Prop := rectwoRewritesRow.holds Tryd.pinned (OpenSpec.ofChange rectwoRewritesWrong)

/-- 'changeoverlaw17.RectwoGets': WHATEVER THE INPUT: true; the input reads as it did. -/
def rectwoGetsSpec : ChangeSpec := { name := "rectwoGets", fn := fun _ => fun
  | [d1, d2] => { results := [.lit (.bool true)], args := [d1, d2] }
  | _ => none }
def rectwoGetsRow : OpenClaim := { program := "ytmecehpkjffanaadoor", sum := "653d9cdefc7ccfa32c8bbdb541eb3937497cd2023db2b4932221c381c94960b7", func := "changeover/changeoverlaw17.RectwoGets", spec := "rectwoGets", unfollowed := true, recurses := true, named := ["unicode/utf8.first", "unicode/utf8.acceptRanges"], apart := false, laid := [("unicode/utf8.acceptRanges", laid_unicode_utf8_acceptRanges), ("unicode/utf8.first", laid_unicode_utf8_first)] }
def RectwoGetsSaid : Prop := rectwoGetsRow.holds Tryd.pinned (OpenSpec.ofChange rectwoGetsSpec)

/-- ITS FALSE NEIGHBOUR: 'it returns false'. Refute it at one input. -/
def rectwoGetsWrong : ChangeSpec := { name := "rectwoGets", fn := fun _ => fun
  | [d1, d2] => { results := [.lit (.bool false)], args := [d1, d2] }
  | _ => none }
def RectwoGetsWrongFalsely : Prop := rectwoGetsRow.holds Tryd.pinned (OpenSpec.ofChange rectwoGetsWrong)

/-- 'changeoverlaw17.RectwoPuts': WHATEVER THE INPUT: true; the input reads as it did. -/
def rectwoPutsSpec : ChangeSpec := { name := "rectwoPuts", fn := fun _ => fun
  | [d1, d2] => { results := [.lit (.bool true)], args := [d1, d2] }
  | _ => none }
def rectwoPutsRow : OpenClaim := { program := "ytmecehpkjffanaadoor", sum := "653d9cdefc7ccfa32c8bbdb541eb3937497cd2023db2b4932221c381c94960b7", func := "changeover/changeoverlaw17.RectwoPuts", spec := "rectwoPuts", unfollowed := true, recurses := true, named := ["unicode/utf8.first", "unicode/utf8.acceptRanges"], apart := false, laid := [("unicode/utf8.acceptRanges", laid_unicode_utf8_acceptRanges), ("unicode/utf8.first", laid_unicode_utf8_first)] }
def RectwoPutsSaid : Prop := rectwoPutsRow.holds Tryd.pinned (OpenSpec.ofChange rectwoPutsSpec)

/-- ITS FALSE NEIGHBOUR: 'it returns false'. Refute it at one input. -/
def rectwoPutsWrong : ChangeSpec := { name := "rectwoPuts", fn := fun _ => fun
  | [d1, d2] => { results := [.lit (.bool false)], args := [d1, d2] }
  | _ => none }
def RectwoPutsWrongFalsely : Prop := rectwoPutsRow.holds Tryd.pinned (OpenSpec.ofChange rectwoPutsWrong)

/-- 'changeoverlaw12.EntryBack': WHATEVER THE INPUT: true; the input reads as it did. -/
def entryBackSpec : ChangeSpec := { name := "entryBack", fn := fun _ => fun
  | [d1, d2] => { results := [.lit (.bool true)], args := [d1, d2] }
  | _ => none }
def entryBackRow : OpenClaim := { program := "ytmecehpkjffanaadoor", sum := "653d9cdefc7ccfa32c8bbdb541eb3937497cd2023db2b4932221c381c94960b7", func := "changeover/changeoverlaw12.EntryBack", spec := "entryBack", inPlace := ["slices.overlaps[changeover/api.Entry]"], unfollowed := true, recurses := true, named := ["unicode/utf8.first", "unicode/utf8.acceptRanges"], apart := false, laid := [("unicode/utf8.acceptRanges", laid_unicode_utf8_acceptRanges), ("unicode/utf8.first", laid_unicode_utf8_first)] }
def EntryBackSaid : Prop := entryBackRow.holds Tryd.pinned (OpenSpec.ofChange entryBackSpec)

/-- ITS FALSE NEIGHBOUR: 'it returns false'. Refute it at one input. -/
def entryBackWrong : ChangeSpec := { name := "entryBack", fn := fun _ => fun
  | [d1, d2] => { results := [.lit (.bool false)], args := [d1, d2] }
  | _ => none }
def EntryBackWrongFalsely : Prop := entryBackRow.holds Tryd.pinned (OpenSpec.ofChange entryBackWrong)

/-- 'changeoverlaw19.HardBack': WHATEVER THE INPUT: true; the input reads as it did. -/
def hardBackSpec : ChangeSpec := { name := "hardBack", fn := fun _ => fun
  | [d] => { results := [.lit (.bool true)], args := [d] }
  | _ => none }
def hardBackRow : OpenClaim := { program := "ytmecehpkjffanaadoor", sum := "653d9cdefc7ccfa32c8bbdb541eb3937497cd2023db2b4932221c381c94960b7", func := "changeover/changeoverlaw19.HardBack", spec := "hardBack", inPlace := ["slices.overlaps[changeover/api.Entry]"], unfollowed := true, recurses := true, named := ["unicode/utf8.first", "unicode/utf8.acceptRanges"], apart := false, laid := [("unicode/utf8.acceptRanges", laid_unicode_utf8_acceptRanges), ("unicode/utf8.first", laid_unicode_utf8_first)] }
def HardBackSaid : Prop := hardBackRow.holds Tryd.pinned (OpenSpec.ofChange hardBackSpec)

/-- ITS FALSE NEIGHBOUR: 'it returns false'. Refute it at one input. -/
def hardBackWrong : ChangeSpec := { name := "hardBack", fn := fun _ => fun
  | [d] => { results := [.lit (.bool false)], args := [d] }
  | _ => none }
def HardBackWrongFalsely : Prop := hardBackRow.holds Tryd.pinned (OpenSpec.ofChange hardBackWrong)

/- THE SECOND FORM. 'bulk': how many values and letters a reading holds, each counted each time it is reached (what is shared counts as often as it is met; a slice's spare places count too). A statement '..UptoSaid' is the law's where the arguments, and the package variables that the reading takes, are together of bulk at most 1048576: NARROWER than '..Said'. Prove '..Said' where nothing that the law and all that it calls make is longer than what came in: it says more and counts as full. Else prove '..UptoSaid'. A law counts once. -/
mutual
def uptoBulk {H : Type} : DataW H → Nat
  | .lit (.string bytes) => bytes.length + 1
  | .lit _ => 1
  | .nil => 1
  | .ptr d => uptoBulk d + 1
  | .slice elems spare => uptoBulkAll elems + uptoBulkAll spare + 1
  | .agg parts => uptoBulkAll parts + 1
  | .iface _ d => uptoBulk d + 1
  | .map entries => uptoBulkEntries entries + 1
  | .held _ => 1
def uptoBulkAll {H : Type} : List (DataW H) → Nat
  | [] => 0
  | d :: r => uptoBulk d + uptoBulkAll r
def uptoBulkEntries {H : Type} : List (Lit × DataW H) → Nat
  | [] => 0
  | x :: r => uptoBulkEntry x + uptoBulkEntries r
def uptoBulkEntry {H : Type} : Lit × DataW H → Nat
  | (.string bytes, d) => bytes.length + uptoBulk d + 1
  | (_, d) => uptoBulk d + 1
 end
def uptoSmall : (H : Type) → List (DataW H) → Bool := fun _ ds => decide (uptoBulkAll ds ≤ 1048576)
def OpenSpec.upto (s : _root_.Go.ChangeSpec) : _root_.Go.OpenSpec := { _root_.Go.OpenSpec.ofChange s with cond := some uptoSmall }

/-- 'changeoverlaw16.ReconeChecks', WHERE WHAT IT READS IS OF BULK AT MOST 1048576: true; the input reads as it did. -/
def reconeChecksUptoRow : OpenClaim := { program := "ytmecehpkjffanaadoor", sum := "653d9cdefc7ccfa32c8bbdb541eb3937497cd2023db2b4932221c381c94960b7", func := "changeover/changeoverlaw16.ReconeChecks", spec := "reconeChecks", unfollowed := true, recurses := true, named := ["unicode/utf8.first", "unicode/utf8.acceptRanges"], apart := false, laid := [("unicode/utf8.acceptRanges", laid_unicode_utf8_acceptRanges), ("unicode/utf8.first", laid_unicode_utf8_first)], narrowed := true }
def ReconeChecksUptoSaid : Prop := reconeChecksUptoRow.holds Tryd.pinned (OpenSpec.upto reconeChecksSpec)

/-- 'changeoverlaw12.EntryLists', WHERE WHAT IT READS IS OF BULK AT MOST 1048576: true; the input reads as it did. -/
def entryListsUptoRow : OpenClaim := { program := "ytmecehpkjffanaadoor", sum := "653d9cdefc7ccfa32c8bbdb541eb3937497cd2023db2b4932221c381c94960b7", func := "changeover/changeoverlaw12.EntryLists", spec := "entryLists", inPlace := ["slices.overlaps[changeover/api.Entry]"], unfollowed := true, recurses := true, named := ["unicode/utf8.first", "unicode/utf8.acceptRanges"], apart := false, laid := [("unicode/utf8.acceptRanges", laid_unicode_utf8_acceptRanges), ("unicode/utf8.first", laid_unicode_utf8_first)], narrowed := true }
def EntryListsUptoSaid : Prop := entryListsUptoRow.holds Tryd.pinned (OpenSpec.upto entryListsSpec)

/-- 'changeoverlaw12.EntryChecks', WHERE WHAT IT READS IS OF BULK AT MOST 1048576: true; the input reads as it did. -/
def entryChecksUptoRow : OpenClaim := { program := "ytmecehpkjffanaadoor", sum := "653d9cdefc7ccfa32c8bbdb541eb3937497cd2023db2b4932221c381c94960b7", func := "changeover/changeoverlaw12.EntryChecks", spec := "entryChecks", inPlace := ["slices.overlaps[changeover/api.Entry]"], unfollowed := true, recurses := true, named := ["unicode/utf8.first", "unicode/utf8.acceptRanges"], apart := false, laid := [("unicode/utf8.acceptRanges", laid_unicode_utf8_acceptRanges), ("unicode/utf8.first", laid_unicode_utf8_first)], narrowed := true }
def EntryChecksUptoSaid : Prop := entryChecksUptoRow.holds Tryd.pinned (OpenSpec.upto entryChecksSpec)

/-- 'changeoverlaw16.ReconeEncodes', WHERE WHAT IT READS IS OF BULK AT MOST 1048576: true; the input reads as it did. -/
def reconeEncodesUptoRow : OpenClaim := { program := "ytmecehpkjffanaadoor", sum := "653d9cdefc7ccfa32c8bbdb541eb3937497cd2023db2b4932221c381c94960b7", func := "changeover/changeoverlaw16.ReconeEncodes", spec := "reconeEncodes", unfollowed := true, recurses := true, named := ["unicode/utf8.first", "unicode/utf8.acceptRanges"], apart := false, laid := [("unicode/utf8.acceptRanges", laid_unicode_utf8_acceptRanges), ("unicode/utf8.first", laid_unicode_utf8_first)], narrowed := true }
def ReconeEncodesUptoSaid : Prop := reconeEncodesUptoRow.holds Tryd.pinned (OpenSpec.upto reconeEncodesSpec)

/-- 'changeoverlaw16.ReconeDecodes', WHERE WHAT IT READS IS OF BULK AT MOST 1048576: true; the input reads as it did. -/
def reconeDecodesUptoRow : OpenClaim := { program := "ytmecehpkjffanaadoor", sum := "653d9cdefc7ccfa32c8bbdb541eb3937497cd2023db2b4932221c381c94960b7", func := "changeover/changeoverlaw16.ReconeDecodes", spec := "reconeDecodes", unfollowed := true, recurses := true, named := ["unicode/utf8.first", "unicode/utf8.acceptRanges"], apart := false, laid := [("unicode/utf8.acceptRanges", laid_unicode_utf8_acceptRanges), ("unicode/utf8.first", laid_unicode_utf8_first)], narrowed := true }
def ReconeDecodesUptoSaid : Prop := reconeDecodesUptoRow.holds Tryd.pinned (OpenSpec.upto reconeDecodesSpec)

/-- 'changeoverlaw19.HardOf', WHERE WHAT IT READS IS OF BULK AT MOST 1048576: true; the input reads as it did. -/
def hardOfUptoRow : OpenClaim := { program := "ytmecehpkjffanaadoor", sum := "653d9cdefc7ccfa32c8bbdb541eb3937497cd2023db2b4932221c381c94960b7", func := "changeover/changeoverlaw19.HardOf", spec := "hardOf", inPlace := ["slices.overlaps[changeover/api.Entry]"], unfollowed := true, recurses := true, named := ["unicode/utf8.first", "unicode/utf8.acceptRanges"], apart := false, laid := [("unicode/utf8.acceptRanges", laid_unicode_utf8_acceptRanges), ("unicode/utf8.first", laid_unicode_utf8_first)], narrowed := true }
def HardOfUptoSaid : Prop := hardOfUptoRow.holds Tryd.pinned (OpenSpec.upto hardOfSpec)

/-- 'changeoverlaw19.HardApplies', WHERE WHAT IT READS IS OF BULK AT MOST 1048576: true; the input reads as it did. -/
def hardAppliesUptoRow : OpenClaim := { program := "ytmecehpkjffanaadoor", sum := "653d9cdefc7ccfa32c8bbdb541eb3937497cd2023db2b4932221c381c94960b7", func := "changeover/changeoverlaw19.HardApplies", spec := "hardApplies", inPlace := ["slices.overlaps[changeover/api.Entry]"], unfollowed := true, recurses := true, named := ["unicode/utf8.first", "unicode/utf8.acceptRanges"], apart := false, laid := [("unicode/utf8.acceptRanges", laid_unicode_utf8_acceptRanges), ("unicode/utf8.first", laid_unicode_utf8_first)], narrowed := true }
def HardAppliesUptoSaid : Prop := hardAppliesUptoRow.holds Tryd.pinned (OpenSpec.upto hardAppliesSpec)

/-- 'changeoverlaw17.RectwoRewrites', WHERE WHAT IT READS IS OF BULK AT MOST 1048576: true; the input reads as it did. -/
def rectwoRewritesUptoRow : OpenClaim := { program := "ytmecehpkjffanaadoor", sum := "653d9cdefc7ccfa32c8bbdb541eb3937497cd2023db2b4932221c381c94960b7", func := "changeover/changeoverlaw17.RectwoRewrites", spec := "rectwoRewrites", unfollowed := true, recurses := true, named := ["unicode/utf8.first", "unicode/utf8.acceptRanges"], apart := false, laid := [("unicode/utf8.acceptRanges", laid_unicode_utf8_acceptRanges), ("unicode/utf8.first", laid_unicode_utf8_first)], narrowed := true }
def RectwoRewritesUptoSaid : Prop := rectwoRewritesUptoRow.holds Tryd.pinned (OpenSpec.upto rectwoRewritesSpec)

/-- 'changeoverlaw17.RectwoGets', WHERE WHAT IT READS IS OF BULK AT MOST 1048576: true; the input reads as it did. -/
def rectwoGetsUptoRow : OpenClaim := { program := "ytmecehpkjffanaadoor", sum := "653d9cdefc7ccfa32c8bbdb541eb3937497cd2023db2b4932221c381c94960b7", func := "changeover/changeoverlaw17.RectwoGets", spec := "rectwoGets", unfollowed := true, recurses := true, named := ["unicode/utf8.first", "unicode/utf8.acceptRanges"], apart := false, laid := [("unicode/utf8.acceptRanges", laid_unicode_utf8_acceptRanges), ("unicode/utf8.first", laid_unicode_utf8_first)], narrowed := true }
def RectwoGetsUptoSaid : Prop := rectwoGetsUptoRow.holds Tryd.pinned (OpenSpec.upto rectwoGetsSpec)

/-- 'changeoverlaw17.RectwoPuts', WHERE WHAT IT READS IS OF BULK AT MOST 1048576: true; the input reads as it did. -/
def rectwoPutsUptoRow : OpenClaim := { program := "ytmecehpkjffanaadoor", sum := "653d9cdefc7ccfa32c8bbdb541eb3937497cd2023db2b4932221c381c94960b7", func := "changeover/changeoverlaw17.RectwoPuts", spec := "rectwoPuts", unfollowed := true, recurses := true, named := ["unicode/utf8.first", "unicode/utf8.acceptRanges"], apart := false, laid := [("unicode/utf8.acceptRanges", laid_unicode_utf8_acceptRanges), ("unicode/utf8.first", laid_unicode_utf8_first)], narrowed := true }
def RectwoPutsUptoSaid : Prop := rectwoPutsUptoRow.holds Tryd.pinned (OpenSpec.upto rectwoPutsSpec)

/-- 'changeoverlaw12.EntryBack', WHERE WHAT IT READS IS OF BULK AT MOST 1048576: true; the input reads as it did. -/
def entryBackUptoRow : OpenClaim := { program := "ytmecehpkjffanaadoor", sum := "653d9cdefc7ccfa32c8bbdb541eb3937497cd2023db2b4932221c381c94960b7", func := "changeover/changeoverlaw12.EntryBack", spec := "entryBack", inPlace := ["slices.overlaps[changeover/api.Entry]"], unfollowed := true, recurses := true, named := ["unicode/utf8.first", "unicode/utf8.acceptRanges"], apart := false, laid := [("unicode/utf8.acceptRanges", laid_unicode_utf8_acceptRanges), ("unicode/utf8.first", laid_unicode_utf8_first)], narrowed := true }
def EntryBackUptoSaid : Prop := entryBackUptoRow.holds Tryd.pinned (OpenSpec.upto entryBackSpec)

/-- 'changeoverlaw19.HardBack', WHERE WHAT IT READS IS OF BULK AT MOST 1048576: true; the input reads as it did. -/
def hardBackUptoRow : OpenClaim := { program := "ytmecehpkjffanaadoor", sum := "653d9cdefc7ccfa32c8bbdb541eb3937497cd2023db2b4932221c381c94960b7", func := "changeover/changeoverlaw19.HardBack", spec := "hardBack", inPlace := ["slices.overlaps[changeover/api.Entry]"], unfollowed := true, recurses := true, named := ["unicode/utf8.first", "unicode/utf8.acceptRanges"], apart := false, laid := [("unicode/utf8.acceptRanges", laid_unicode_utf8_acceptRanges), ("unicode/utf8.first", laid_unicode_utf8_first)], narrowed := true }
def HardBackUptoSaid : Prop := hardBackUptoRow.holds Tryd.pinned (OpenSpec.upto hardBackSpec)

end Rows
end Go.Proofs.YtmecehpkjffanaaDoor
