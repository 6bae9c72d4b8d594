/-
  NARROWER THAN 'FOR EVERY INPUT', by the rows' own cells (each row's printed sentence says how): NameLetters: laid · NamePuts: laid · NameBack: laid · NameJoins: laid · NameOne: laid · NamePutRow: laid · NameRows: laid · NameFresh: laid.
  DERIVED. THE GIVEN ROWS OF THIS SEAT. 8 by the template 'for every input the law returns true; each argument reads behind the call as it read before'; 0 by the template 'total and deterministic' (their statements: YtcnmpciohpcpiaaDoorTotals.lean).
  GIVEN WITH THE SEED: the statements are not yours to turn. If you find one false, say at which input.
  Laid BY PROGRAM, IN A SANDBOX (cutbox-rows.mjs): the forced cells as the released guide's own fill.sh prints them over the translation a56322a1601202db… (all of the seat's roots in one cut). By AI agents, Wed Nov 11 2026. No macro, syntax, notation, axiom, sorry.
-/
import Derived.Test.YtcnmpciohpcpiaaDoorChecked
import GoSem.PinnedTables
import GoSem.Claim
import GoSem.ClaimJoined
import GoSem.ClaimMapViews
import Derived.JoinedTies
import Derived.KernelRfl
namespace Go.Proofs.YtcnmpciohpcpiaaDoor
/- THE CELL 'sum', in the pinned program and in every row, IS THE sha256 OF THE DUMP (.gsa) THAT YtcnmpciohpcpiaaDoorProg.lean LOADS. Nothing in Lean hashes anything: it is a label: what it is worth is what the hold of that sum in a sandbox is worth. -/
noncomputable def Tryd.pinned : Pinned := { name := "ytcnmpciohpcpiaadoor", sum := "a56322a1601202dbd0b88db43c1e152fc492b490f5962b674aac4fdbcd3ea9df", checked := Tryd.checked }
namespace Rows
def none {H : Type} : Left H := { results := [], args := [] }

/- WHAT THE LISTED PACKAGE-LEVEL VARIABLES READ AS WHEN THE CALL BEGINS. Each datum BY PROGRAM (the guide's laid-datum.mjs) off the statement by which the dump's own 'gosem.cut.vars' lays the variable. In a bare row this is a premise. The card (YtcnmpciohpcpiaaDoorCards.lean) ties it to the program's text. -/
def laid_unicode_utf8_acceptRanges {H : Type} : DataW H := .agg [.agg [.lit (.int .u8 128), .lit (.int .u8 191)], .agg [.lit (.int .u8 160), .lit (.int .u8 191)], .agg [.lit (.int .u8 128), .lit (.int .u8 159)], .agg [.lit (.int .u8 144), .lit (.int .u8 191)], .agg [.lit (.int .u8 128), .lit (.int .u8 143)], .agg [.lit (.int .u8 0), .lit (.int .u8 0)], .agg [.lit (.int .u8 0), .lit (.int .u8 0)], .agg [.lit (.int .u8 0), .lit (.int .u8 0)], .agg [.lit (.int .u8 0), .lit (.int .u8 0)], .agg [.lit (.int .u8 0), .lit (.int .u8 0)], .agg [.lit (.int .u8 0), .lit (.int .u8 0)], .agg [.lit (.int .u8 0), .lit (.int .u8 0)], .agg [.lit (.int .u8 0), .lit (.int .u8 0)], .agg [.lit (.int .u8 0), .lit (.int .u8 0)], .agg [.lit (.int .u8 0), .lit (.int .u8 0)], .agg [.lit (.int .u8 0), .lit (.int .u8 0)]]
/-- One of Go's own tables, pinned by name: the form's constant. -/
def laid_unicode_utf8_first : DataW Unit := Go.Pinned.utf8First

/-- 'jacquardlaw02.NameLetters': WHATEVER THE INPUT: true; the input reads as it did. -/
def nameLettersSpec : ChangeSpec := { name := "nameLetters", fn := fun _ => fun
  | [d] => { results := [.lit (.bool true)], args := [d] }
  | _ => none }
def nameLettersRow : OpenClaim := { program := "ytcnmpciohpcpiaadoor", sum := "a56322a1601202dbd0b88db43c1e152fc492b490f5962b674aac4fdbcd3ea9df", func := "jacquard/jacquardlaw02.NameLetters", spec := "nameLetters", named := ["unicode/utf8.first", "unicode/utf8.acceptRanges"], apart := false, laid := [("unicode/utf8.acceptRanges", laid_unicode_utf8_acceptRanges), ("unicode/utf8.first", laid_unicode_utf8_first)] }
def NameLettersSaid : Prop := nameLettersRow.holds Tryd.pinned (OpenSpec.ofChange nameLettersSpec)

/-- ITS FALSE NEIGHBOUR: 'it returns false'. Refute it at one input. -/
def nameLettersWrong : ChangeSpec := { name := "nameLetters", fn := fun _ => fun
  | [d] => { results := [.lit (.bool false)], args := [d] }
  | _ => none }
def NameLettersWrongFalsely : Prop := nameLettersRow.holds Tryd.pinned (OpenSpec.ofChange nameLettersWrong)

/-- 'jacquardlaw02.NamePuts': WHATEVER THE INPUT: true; the input reads as it did. -/
def namePutsSpec : ChangeSpec := { name := "namePuts", fn := fun _ => fun
  | [d] => { results := [.lit (.bool true)], args := [d] }
  | _ => none }
def namePutsRow : OpenClaim := { program := "ytcnmpciohpcpiaadoor", sum := "a56322a1601202dbd0b88db43c1e152fc492b490f5962b674aac4fdbcd3ea9df", func := "jacquard/jacquardlaw02.NamePuts", spec := "namePuts", named := ["unicode/utf8.first", "unicode/utf8.acceptRanges"], apart := false, laid := [("unicode/utf8.acceptRanges", laid_unicode_utf8_acceptRanges), ("unicode/utf8.first", laid_unicode_utf8_first)] }
def NamePutsSaid : Prop := namePutsRow.holds Tryd.pinned (OpenSpec.ofChange namePutsSpec)

/-- ITS FALSE NEIGHBOUR: 'it returns false'. Refute it at one input. -/
def namePutsWrong : ChangeSpec := { name := "namePuts", fn := fun _ => fun
  | [d] => { results := [.lit (.bool false)], args := [d] }
  | _ => none }
def NamePutsWrongFalsely : Prop := namePutsRow.holds Tryd.pinned (OpenSpec.ofChange namePutsWrong)

/-- 'jacquardlaw02.NameBack': WHATEVER THE INPUT: true; the input reads as it did. -/
def nameBackSpec : ChangeSpec := { name := "nameBack", fn := fun _ => fun
  | [d1, d2] => { results := [.lit (.bool true)], args := [d1, d2] }
  | _ => none }
def nameBackRow : OpenClaim := { program := "ytcnmpciohpcpiaadoor", sum := "a56322a1601202dbd0b88db43c1e152fc492b490f5962b674aac4fdbcd3ea9df", func := "jacquard/jacquardlaw02.NameBack", spec := "nameBack", named := ["unicode/utf8.first", "unicode/utf8.acceptRanges"], apart := false, laid := [("unicode/utf8.acceptRanges", laid_unicode_utf8_acceptRanges), ("unicode/utf8.first", laid_unicode_utf8_first)] }
def NameBackSaid : Prop := nameBackRow.holds Tryd.pinned (OpenSpec.ofChange nameBackSpec)

/-- ITS FALSE NEIGHBOUR: 'it returns false'. Refute it at one input. -/
def nameBackWrong : ChangeSpec := { name := "nameBack", fn := fun _ => fun
  | [d1, d2] => { results := [.lit (.bool false)], args := [d1, d2] }
  | _ => none }
def NameBackWrongFalsely : Prop := nameBackRow.holds Tryd.pinned (OpenSpec.ofChange nameBackWrong)

/-- 'jacquardlaw02.NameJoins': WHATEVER THE INPUT: true; the input reads as it did. -/
def nameJoinsSpec : ChangeSpec := { name := "nameJoins", fn := fun _ => fun
  | [d1, d2, d3] => { results := [.lit (.bool true)], args := [d1, d2, d3] }
  | _ => none }
def nameJoinsRow : OpenClaim := { program := "ytcnmpciohpcpiaadoor", sum := "a56322a1601202dbd0b88db43c1e152fc492b490f5962b674aac4fdbcd3ea9df", func := "jacquard/jacquardlaw02.NameJoins", spec := "nameJoins", named := ["unicode/utf8.first", "unicode/utf8.acceptRanges"], apart := false, laid := [("unicode/utf8.acceptRanges", laid_unicode_utf8_acceptRanges), ("unicode/utf8.first", laid_unicode_utf8_first)] }
def NameJoinsSaid : Prop := nameJoinsRow.holds Tryd.pinned (OpenSpec.ofChange nameJoinsSpec)

/-- ITS FALSE NEIGHBOUR: 'it returns false'. Refute it at one input. -/
def nameJoinsWrong : ChangeSpec := { name := "nameJoins", fn := fun _ => fun
  | [d1, d2, d3] => { results := [.lit (.bool false)], args := [d1, d2, d3] }
  | _ => none }
def NameJoinsWrongFalsely : Prop := nameJoinsRow.holds Tryd.pinned (OpenSpec.ofChange nameJoinsWrong)

/-- 'jacquardlaw02.NameOne': WHATEVER THE INPUT: true; the input reads as it did. -/
def nameOneSpec : ChangeSpec := { name := "nameOne", fn := fun _ => fun
  | [d1, d2] => { results := [.lit (.bool true)], args := [d1, d2] }
  | _ => none }
def nameOneRow : OpenClaim := { program := "ytcnmpciohpcpiaadoor", sum := "a56322a1601202dbd0b88db43c1e152fc492b490f5962b674aac4fdbcd3ea9df", func := "jacquard/jacquardlaw02.NameOne", spec := "nameOne", named := ["unicode/utf8.first", "unicode/utf8.acceptRanges"], apart := false, laid := [("unicode/utf8.acceptRanges", laid_unicode_utf8_acceptRanges), ("unicode/utf8.first", laid_unicode_utf8_first)] }
def NameOneSaid : Prop := nameOneRow.holds Tryd.pinned (OpenSpec.ofChange nameOneSpec)

/-- ITS FALSE NEIGHBOUR: 'it returns false'. Refute it at one input. -/
def nameOneWrong : ChangeSpec := { name := "nameOne", fn := fun _ => fun
  | [d1, d2] => { results := [.lit (.bool false)], args := [d1, d2] }
  | _ => none }
def NameOneWrongFalsely : Prop := nameOneRow.holds Tryd.pinned (OpenSpec.ofChange nameOneWrong)

/-- 'jacquardlaw02.NamePutRow': WHATEVER THE INPUT: true; the input reads as it did. -/
def namePutRowSpec : ChangeSpec := { name := "namePutRow", fn := fun _ => fun
  | [d1, d2, d3] => { results := [.lit (.bool true)], args := [d1, d2, d3] }
  | _ => none }
def namePutRowRow : OpenClaim := { program := "ytcnmpciohpcpiaadoor", sum := "a56322a1601202dbd0b88db43c1e152fc492b490f5962b674aac4fdbcd3ea9df", func := "jacquard/jacquardlaw02.NamePutRow", spec := "namePutRow", recurses := true, named := ["unicode/utf8.first", "unicode/utf8.acceptRanges"], apart := false, laid := [("unicode/utf8.acceptRanges", laid_unicode_utf8_acceptRanges), ("unicode/utf8.first", laid_unicode_utf8_first)] }
def NamePutRowSaid : Prop := namePutRowRow.holds Tryd.pinned (OpenSpec.ofChange namePutRowSpec)

/-- ITS FALSE NEIGHBOUR: 'it returns false'. Refute it at one input. -/
def namePutRowWrong : ChangeSpec := { name := "namePutRow", fn := fun _ => fun
  | [d1, d2, d3] => { results := [.lit (.bool false)], args := [d1, d2, d3] }
  | _ => none }
def NamePutRowWrongFalsely : Prop := namePutRowRow.holds Tryd.pinned (OpenSpec.ofChange namePutRowWrong)

/-- 'jacquardlaw02.NameRows': WHATEVER THE INPUT: true; the input reads as it did. -/
def nameRowsSpec : ChangeSpec := { name := "nameRows", fn := fun _ => fun
  | [d1, d2] => { results := [.lit (.bool true)], args := [d1, d2] }
  | _ => none }
def nameRowsRow : OpenClaim := { program := "ytcnmpciohpcpiaadoor", sum := "a56322a1601202dbd0b88db43c1e152fc492b490f5962b674aac4fdbcd3ea9df", func := "jacquard/jacquardlaw02.NameRows", spec := "nameRows", named := ["unicode/utf8.first", "unicode/utf8.acceptRanges"], apart := false, laid := [("unicode/utf8.acceptRanges", laid_unicode_utf8_acceptRanges), ("unicode/utf8.first", laid_unicode_utf8_first)] }
def NameRowsSaid : Prop := nameRowsRow.holds Tryd.pinned (OpenSpec.ofChange nameRowsSpec)

/-- ITS FALSE NEIGHBOUR: 'it returns false'. Refute it at one input. -/
def nameRowsWrong : ChangeSpec := { name := "nameRows", fn := fun _ => fun
  | [d1, d2] => { results := [.lit (.bool false)], args := [d1, d2] }
  | _ => none }
def NameRowsWrongFalsely : Prop := nameRowsRow.holds Tryd.pinned (OpenSpec.ofChange nameRowsWrong)

/-- 'jacquardlaw02.NameFresh': WHATEVER THE INPUT: true; the input reads as it did. -/
def nameFreshSpec : ChangeSpec := { name := "nameFresh", fn := fun _ => fun
  | [d1, d2] => { results := [.lit (.bool true)], args := [d1, d2] }
  | _ => none }
def nameFreshRow : OpenClaim := { program := "ytcnmpciohpcpiaadoor", sum := "a56322a1601202dbd0b88db43c1e152fc492b490f5962b674aac4fdbcd3ea9df", func := "jacquard/jacquardlaw02.NameFresh", spec := "nameFresh", named := ["unicode/utf8.first", "unicode/utf8.acceptRanges"], apart := false, laid := [("unicode/utf8.acceptRanges", laid_unicode_utf8_acceptRanges), ("unicode/utf8.first", laid_unicode_utf8_first)] }
def NameFreshSaid : Prop := nameFreshRow.holds Tryd.pinned (OpenSpec.ofChange nameFreshSpec)

/-- ITS FALSE NEIGHBOUR: 'it returns false'. Refute it at one input. -/
def nameFreshWrong : ChangeSpec := { name := "nameFresh", fn := fun _ => fun
  | [d1, d2] => { results := [.lit (.bool false)], args := [d1, d2] }
  | _ => none }
def NameFreshWrongFalsely : Prop := nameFreshRow.holds Tryd.pinned (OpenSpec.ofChange nameFreshWrong)

/- THE SECOND FORM. 'bulk': how many values and letters a reading holds, each counted each time it is reached (what is shared counts as often as it is met; a slice's spare places count too). A statement '..UptoSaid' is the law's where the arguments, and the package variables that the reading takes, are together of bulk at most 1048576: NARROWER than '..Said'. Prove '..Said' where nothing that the law and all that it calls make is longer than what came in: it says more and counts as full. Else prove '..UptoSaid'. A law counts once. -/
mutual
def uptoBulk {H : Type} : DataW H → Nat
  | .lit (.string bytes) => bytes.length + 1
  | .lit _ => 1
  | .nil => 1
  | .ptr d => uptoBulk d + 1
  | .slice elems spare => uptoBulkAll elems + uptoBulkAll spare + 1
  | .agg parts => uptoBulkAll parts + 1
  | .iface _ d => uptoBulk d + 1
  | .map entries => uptoBulkEntries entries + 1
  | .held _ => 1
def uptoBulkAll {H : Type} : List (DataW H) → Nat
  | [] => 0
  | d :: r => uptoBulk d + uptoBulkAll r
def uptoBulkEntries {H : Type} : List (Lit × DataW H) → Nat
  | [] => 0
  | x :: r => uptoBulkEntry x + uptoBulkEntries r
def uptoBulkEntry {H : Type} : Lit × DataW H → Nat
  | (.string bytes, d) => bytes.length + uptoBulk d + 1
  | (_, d) => uptoBulk d + 1
 end
def uptoSmall : (H : Type) → List (DataW H) → Bool := fun _ ds => decide (uptoBulkAll ds ≤ 1048576)
def OpenSpec.upto (s : _root_.Go.ChangeSpec) : _root_.Go.OpenSpec := { _root_.Go.OpenSpec.ofChange s with cond := some uptoSmall }

/-- 'jacquardlaw02.NameLetters', WHERE WHAT IT READS IS OF BULK AT MOST 1048576: true; the input reads as it did. -/
def nameLettersUptoRow : OpenClaim := { program := "ytcnmpciohpcpiaadoor", sum := "a56322a1601202dbd0b88db43c1e152fc492b490f5962b674aac4fdbcd3ea9df", func := "jacquard/jacquardlaw02.NameLetters", spec := "nameLetters", named := ["unicode/utf8.first", "unicode/utf8.acceptRanges"], apart := false, laid := [("unicode/utf8.acceptRanges", laid_unicode_utf8_acceptRanges), ("unicode/utf8.first", laid_unicode_utf8_first)], narrowed := true }
def NameLettersUptoSaid : Prop := nameLettersUptoRow.holds Tryd.pinned (OpenSpec.upto nameLettersSpec)

/-- 'jacquardlaw02.NamePuts', WHERE WHAT IT READS IS OF BULK AT MOST 1048576: true; the input reads as it did. -/
def namePutsUptoRow : OpenClaim := { program := "ytcnmpciohpcpiaadoor", sum := "a56322a1601202dbd0b88db43c1e152fc492b490f5962b674aac4fdbcd3ea9df", func := "jacquard/jacquardlaw02.NamePuts", spec := "namePuts", named := ["unicode/utf8.first", "unicode/utf8.acceptRanges"], apart := false, laid := [("unicode/utf8.acceptRanges", laid_unicode_utf8_acceptRanges), ("unicode/utf8.first", laid_unicode_utf8_first)], narrowed := true }
def NamePutsUptoSaid : Prop := namePutsUptoRow.holds Tryd.pinned (OpenSpec.upto namePutsSpec)

/-- 'jacquardlaw02.NameBack', WHERE WHAT IT READS IS OF BULK AT MOST 1048576: true; the input reads as it did. -/
def nameBackUptoRow : OpenClaim := { program := "ytcnmpciohpcpiaadoor", sum := "a56322a1601202dbd0b88db43c1e152fc492b490f5962b674aac4fdbcd3ea9df", func := "jacquard/jacquardlaw02.NameBack", spec := "nameBack", named := ["unicode/utf8.first", "unicode/utf8.acceptRanges"], apart := false, laid := [("unicode/utf8.acceptRanges", laid_unicode_utf8_acceptRanges), ("unicode/utf8.first", laid_unicode_utf8_first)], narrowed := true }
def NameBackUptoSaid : Prop := nameBackUptoRow.holds Tryd.pinned (OpenSpec.upto nameBackSpec)

/-- 'jacquardlaw02.NameJoins', WHERE WHAT IT READS IS OF BULK AT MOST 1048576: true; the input reads as it did. -/
def nameJoinsUptoRow : OpenClaim := { program := "ytcnmpciohpcpiaadoor", sum := "a56322a1601202dbd0b88db43c1e152fc492b490f5962b674aac4fdbcd3ea9df", func := "jacquard/jacquardlaw02.NameJoins", spec := "nameJoins", named := ["unicode/utf8.first", "unicode/utf8.acceptRanges"], apart := false, laid := [("unicode/utf8.acceptRanges", laid_unicode_utf8_acceptRanges), ("unicode/utf8.first", laid_unicode_utf8_first)], narrowed := true }
def NameJoinsUptoSaid : Prop := nameJoinsUptoRow.holds Tryd.pinned (OpenSpec.upto nameJoinsSpec)

/-- 'jacquardlaw02.NameOne', WHERE WHAT IT READS IS OF BULK AT MOST 1048576: true; the input reads as it did. -/
def nameOneUptoRow : OpenClaim := { program := "ytcnmpciohpcpiaadoor", sum := "a56322a1601202dbd0b88db43c1e152fc492b490f5962b674aac4fdbcd3ea9df", func := "jacquard/jacquardlaw02.NameOne", spec := "nameOne", named := ["unicode/utf8.first", "unicode/utf8.acceptRanges"], apart := false, laid := [("unicode/utf8.acceptRanges", laid_unicode_utf8_acceptRanges), ("unicode/utf8.first", laid_unicode_utf8_first)], narrowed := true }
def NameOneUptoSaid : Prop := nameOneUptoRow.holds Tryd.pinned (OpenSpec.upto nameOneSpec)

/-- 'jacquardlaw02.NamePutRow', WHERE WHAT IT READS IS OF BULK AT MOST 1048576: true; the input reads as it did. -/
def namePutRowUptoRow : OpenClaim := { program := "ytcnmpciohpcpiaadoor", sum := "a56322a1601202dbd0b88db43c1e152fc492b490f5962b674aac4fdbcd3ea9df", func := "jacquard/jacquardlaw02.NamePutRow", spec := "namePutRow", recurses := true, named := ["unicode/utf8.first", "unicode/utf8.acceptRanges"], apart := false, laid := [("unicode/utf8.acceptRanges", laid_unicode_utf8_acceptRanges), ("unicode/utf8.first", laid_unicode_utf8_first)], narrowed := true }
def NamePutRowUptoSaid : Prop := namePutRowUptoRow.holds Tryd.pinned (OpenSpec.upto namePutRowSpec)

/-- 'jacquardlaw02.NameRows', WHERE WHAT IT READS IS OF BULK AT MOST 1048576: true; the input reads as it did. -/
def nameRowsUptoRow : OpenClaim := { program := "ytcnmpciohpcpiaadoor", sum := "a56322a1601202dbd0b88db43c1e152fc492b490f5962b674aac4fdbcd3ea9df", func := "jacquard/jacquardlaw02.NameRows", spec := "nameRows", named := ["unicode/utf8.first", "unicode/utf8.acceptRanges"], apart := false, laid := [("unicode/utf8.acceptRanges", laid_unicode_utf8_acceptRanges), ("unicode/utf8.first", laid_unicode_utf8_first)], narrowed := true }
def NameRowsUptoSaid : Prop := nameRowsUptoRow.holds Tryd.pinned (OpenSpec.upto nameRowsSpec)

/-- 'jacquardlaw02.NameFresh', WHERE WHAT IT READS IS OF BULK AT MOST 1048576: true; the input reads as it did. -/
def nameFreshUptoRow : OpenClaim := { program := "ytcnmpciohpcpiaadoor", sum := "a56322a1601202dbd0b88db43c1e152fc492b490f5962b674aac4fdbcd3ea9df", func := "jacquard/jacquardlaw02.NameFresh", spec := "nameFresh", named := ["unicode/utf8.first", "unicode/utf8.acceptRanges"], apart := false, laid := [("unicode/utf8.acceptRanges", laid_unicode_utf8_acceptRanges), ("unicode/utf8.first", laid_unicode_utf8_first)], narrowed := true }
def NameFreshUptoSaid : Prop := nameFreshUptoRow.holds Tryd.pinned (OpenSpec.upto nameFreshSpec)

end Rows
end Go.Proofs.YtcnmpciohpcpiaaDoor
