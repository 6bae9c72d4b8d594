/-
  No cell of these rows narrows 'for every input' (looked for: loops, veiled, ifaces, maps, wideKeys, modest, calm, conditions, laid).
  DERIVED. THE GIVEN ROWS OF THIS SEAT. 9 by the template 'for every input the law returns true; each argument reads behind the call as it read before'; 0 by the template 'total and deterministic' (their statements: YthillgpbenjldaaTotals.lean).
  GIVEN WITH THE SEED: the statements are not yours to turn. If you find one false, say at which input.
  Laid BY PROGRAM, IN A SANDBOX (cutbox-rows.mjs): the forced cells as the released guide's own fill.sh prints them over the translation 38ca0d9e7c67435d… (all of the seat's roots in one cut). By AI agents, Wed Nov 11 2026. No macro, syntax, notation, axiom, sorry.
-/
import Derived.Test.YthillgpbenjldaaChecked
import GoSem.Claim
import GoSem.ClaimJoined
import GoSem.ClaimMapViews
import Derived.JoinedTies
import Derived.KernelRfl
namespace Go.Proofs.Ythillgpbenjldaa
/- THE CELL 'sum', in the pinned program and in every row, IS THE sha256 OF THE DUMP (.gsa) THAT YthillgpbenjldaaProg.lean LOADS. Nothing in Lean hashes anything: it is a label: what it is worth is what the hold of that sum in a sandbox is worth. -/
noncomputable def Try.pinned : Pinned := { name := "ythillgpbenjldaa", sum := "38ca0d9e7c67435d82f5a4f366a3c28fed24fb92ad4666f5dda07d881069384a", checked := Try.checked }
namespace Rows
def none {H : Type} : Left H := { results := [], args := [] }

/-- 'jacquardlaw09.TypesFuncs': WHATEVER THE INPUT: true; the input reads as it did. -/
def typesFuncsSpec : ChangeSpec := { name := "typesFuncs", fn := fun _ => fun
  | [d1, d2] => { results := [.lit (.bool true)], args := [d1, d2] }
  | _ => none }
def typesFuncsRow : OpenClaim := { program := "ythillgpbenjldaa", sum := "38ca0d9e7c67435d82f5a4f366a3c28fed24fb92ad4666f5dda07d881069384a", func := "jacquard/jacquardlaw09.TypesFuncs", spec := "typesFuncs", apart := false }
def TypesFuncsSaid : Prop := typesFuncsRow.holds Try.pinned (OpenSpec.ofChange typesFuncsSpec)

/-- ITS FALSE NEIGHBOUR: 'it returns false'. Refute it at one input. -/
def typesFuncsWrong : ChangeSpec := { name := "typesFuncs", fn := fun _ => fun
  | [d1, d2] => { results := [.lit (.bool false)], args := [d1, d2] }
  | _ => none }
def TypesFuncsWrongFalsely : Prop := typesFuncsRow.holds Try.pinned (OpenSpec.ofChange typesFuncsWrong)

/-- 'jacquardlaw09.TypesValues': WHATEVER THE INPUT: true; the input reads as it did. -/
def typesValuesSpec : ChangeSpec := { name := "typesValues", fn := fun _ => fun
  | [d1, d2] => { results := [.lit (.bool true)], args := [d1, d2] }
  | _ => none }
def typesValuesRow : OpenClaim := { program := "ythillgpbenjldaa", sum := "38ca0d9e7c67435d82f5a4f366a3c28fed24fb92ad4666f5dda07d881069384a", func := "jacquard/jacquardlaw09.TypesValues", spec := "typesValues", apart := false }
def TypesValuesSaid : Prop := typesValuesRow.holds Try.pinned (OpenSpec.ofChange typesValuesSpec)

/-- ITS FALSE NEIGHBOUR: 'it returns false'. Refute it at one input. -/
def typesValuesWrong : ChangeSpec := { name := "typesValues", fn := fun _ => fun
  | [d1, d2] => { results := [.lit (.bool false)], args := [d1, d2] }
  | _ => none }
def TypesValuesWrongFalsely : Prop := typesValuesRow.holds Try.pinned (OpenSpec.ofChange typesValuesWrong)

/-- 'jacquardlaw09.TypesZeros': WHATEVER THE INPUT: true; the input reads as it did. -/
def typesZerosSpec : ChangeSpec := { name := "typesZeros", fn := fun _ => fun
  | [d1, d2, d3] => { results := [.lit (.bool true)], args := [d1, d2, d3] }
  | _ => none }
def typesZerosRow : OpenClaim := { program := "ythillgpbenjldaa", sum := "38ca0d9e7c67435d82f5a4f366a3c28fed24fb92ad4666f5dda07d881069384a", func := "jacquard/jacquardlaw09.TypesZeros", spec := "typesZeros", apart := false }
def TypesZerosSaid : Prop := typesZerosRow.holds Try.pinned (OpenSpec.ofChange typesZerosSpec)

/-- ITS FALSE NEIGHBOUR: 'it returns false'. Refute it at one input. -/
def typesZerosWrong : ChangeSpec := { name := "typesZeros", fn := fun _ => fun
  | [d1, d2, d3] => { results := [.lit (.bool false)], args := [d1, d2, d3] }
  | _ => none }
def TypesZerosWrongFalsely : Prop := typesZerosRow.holds Try.pinned (OpenSpec.ofChange typesZerosWrong)

/-- 'jacquardlaw09.TypesFit': WHATEVER THE INPUT: true; the input reads as it did. -/
def typesFitSpec : ChangeSpec := { name := "typesFit", fn := fun _ => fun
  | [d1, d2, d3] => { results := [.lit (.bool true)], args := [d1, d2, d3] }
  | _ => none }
def typesFitRow : OpenClaim := { program := "ythillgpbenjldaa", sum := "38ca0d9e7c67435d82f5a4f366a3c28fed24fb92ad4666f5dda07d881069384a", func := "jacquard/jacquardlaw09.TypesFit", spec := "typesFit", apart := false }
def TypesFitSaid : Prop := typesFitRow.holds Try.pinned (OpenSpec.ofChange typesFitSpec)

/-- ITS FALSE NEIGHBOUR: 'it returns false'. Refute it at one input. -/
def typesFitWrong : ChangeSpec := { name := "typesFit", fn := fun _ => fun
  | [d1, d2, d3] => { results := [.lit (.bool false)], args := [d1, d2, d3] }
  | _ => none }
def TypesFitWrongFalsely : Prop := typesFitRow.holds Try.pinned (OpenSpec.ofChange typesFitWrong)

/-- 'jacquardlaw09.TypesLimits': WHATEVER THE INPUT: true; the input reads as it did. -/
def typesLimitsSpec : ChangeSpec := { name := "typesLimits", fn := fun _ => fun
  | [d1, d2, d3, d4, d5] => { results := [.lit (.bool true)], args := [d1, d2, d3, d4, d5] }
  | _ => none }
def typesLimitsRow : OpenClaim := { program := "ythillgpbenjldaa", sum := "38ca0d9e7c67435d82f5a4f366a3c28fed24fb92ad4666f5dda07d881069384a", func := "jacquard/jacquardlaw09.TypesLimits", spec := "typesLimits", apart := false }
def TypesLimitsSaid : Prop := typesLimitsRow.holds Try.pinned (OpenSpec.ofChange typesLimitsSpec)

/-- ITS FALSE NEIGHBOUR: 'it returns false'. Refute it at one input. -/
def typesLimitsWrong : ChangeSpec := { name := "typesLimits", fn := fun _ => fun
  | [d1, d2, d3, d4, d5] => { results := [.lit (.bool false)], args := [d1, d2, d3, d4, d5] }
  | _ => none }
def TypesLimitsWrongFalsely : Prop := typesLimitsRow.holds Try.pinned (OpenSpec.ofChange typesLimitsWrong)

/-- 'jacquardlaw09.TypesFresh': WHATEVER THE INPUT: true; the input reads as it did. -/
def typesFreshSpec : ChangeSpec := { name := "typesFresh", fn := fun _ => fun
  | [d1, d2] => { results := [.lit (.bool true)], args := [d1, d2] }
  | _ => none }
def typesFreshRow : OpenClaim := { program := "ythillgpbenjldaa", sum := "38ca0d9e7c67435d82f5a4f366a3c28fed24fb92ad4666f5dda07d881069384a", func := "jacquard/jacquardlaw09.TypesFresh", spec := "typesFresh", recurses := true, apart := false }
def TypesFreshSaid : Prop := typesFreshRow.holds Try.pinned (OpenSpec.ofChange typesFreshSpec)

/-- ITS FALSE NEIGHBOUR: 'it returns false'. Refute it at one input. -/
def typesFreshWrong : ChangeSpec := { name := "typesFresh", fn := fun _ => fun
  | [d1, d2] => { results := [.lit (.bool false)], args := [d1, d2] }
  | _ => none }
def TypesFreshWrongFalsely : Prop := typesFreshRow.holds Try.pinned (OpenSpec.ofChange typesFreshWrong)

/-- 'jacquardlaw09.TypesOthers': WHATEVER THE INPUT: true; the input reads as it did. -/
def typesOthersSpec : ChangeSpec := { name := "typesOthers", fn := fun _ => fun
  | [d1, d2] => { results := [.lit (.bool true)], args := [d1, d2] }
  | _ => none }
def typesOthersRow : OpenClaim := { program := "ythillgpbenjldaa", sum := "38ca0d9e7c67435d82f5a4f366a3c28fed24fb92ad4666f5dda07d881069384a", func := "jacquard/jacquardlaw09.TypesOthers", spec := "typesOthers", apart := false }
def TypesOthersSaid : Prop := typesOthersRow.holds Try.pinned (OpenSpec.ofChange typesOthersSpec)

/-- ITS FALSE NEIGHBOUR: 'it returns false'. Refute it at one input. -/
def typesOthersWrong : ChangeSpec := { name := "typesOthers", fn := fun _ => fun
  | [d1, d2] => { results := [.lit (.bool false)], args := [d1, d2] }
  | _ => none }
def TypesOthersWrongFalsely : Prop := typesOthersRow.holds Try.pinned (OpenSpec.ofChange typesOthersWrong)

/-- 'jacquardlaw09.TypesPuts': WHATEVER THE INPUT: true; the input reads as it did. -/
def typesPutsSpec : ChangeSpec := { name := "typesPuts", fn := fun _ => fun
  | [d1, d2] => { results := [.lit (.bool true)], args := [d1, d2] }
  | _ => none }
def typesPutsRow : OpenClaim := { program := "ythillgpbenjldaa", sum := "38ca0d9e7c67435d82f5a4f366a3c28fed24fb92ad4666f5dda07d881069384a", func := "jacquard/jacquardlaw09.TypesPuts", spec := "typesPuts", recurses := true, apart := false }
def TypesPutsSaid : Prop := typesPutsRow.holds Try.pinned (OpenSpec.ofChange typesPutsSpec)

/-- ITS FALSE NEIGHBOUR: 'it returns false'. Refute it at one input. -/
def typesPutsWrong : ChangeSpec := { name := "typesPuts", fn := fun _ => fun
  | [d1, d2] => { results := [.lit (.bool false)], args := [d1, d2] }
  | _ => none }
def TypesPutsWrongFalsely : Prop := typesPutsRow.holds Try.pinned (OpenSpec.ofChange typesPutsWrong)

/-- 'jacquardlaw09.TypesBack': WHATEVER THE INPUT: true; the input reads as it did. -/
def typesBackSpec : ChangeSpec := { name := "typesBack", fn := fun _ => fun
  | [d1, d2, d3, d4] => { results := [.lit (.bool true)], args := [d1, d2, d3, d4] }
  | _ => none }
def typesBackRow : OpenClaim := { program := "ythillgpbenjldaa", sum := "38ca0d9e7c67435d82f5a4f366a3c28fed24fb92ad4666f5dda07d881069384a", func := "jacquard/jacquardlaw09.TypesBack", spec := "typesBack", apart := false }
def TypesBackSaid : Prop := typesBackRow.holds Try.pinned (OpenSpec.ofChange typesBackSpec)

/-- ITS FALSE NEIGHBOUR: 'it returns false'. Refute it at one input. -/
def typesBackWrong : ChangeSpec := { name := "typesBack", fn := fun _ => fun
  | [d1, d2, d3, d4] => { results := [.lit (.bool false)], args := [d1, d2, d3, d4] }
  | _ => none }
def TypesBackWrongFalsely : Prop := typesBackRow.holds Try.pinned (OpenSpec.ofChange typesBackWrong)

/- THE SECOND FORM. 'bulk': how many values and letters a reading holds, each counted each time it is reached (what is shared counts as often as it is met; a slice's spare places count too). A statement '..UptoSaid' is the law's where the arguments, and the package variables that the reading takes, are together of bulk at most 1048576: NARROWER than '..Said'. Prove '..Said' where nothing that the law and all that it calls make is longer than what came in: it says more and counts as full. Else prove '..UptoSaid'. A law counts once. -/
mutual
def uptoBulk {H : Type} : DataW H → Nat
  | .lit (.string bytes) => bytes.length + 1
  | .lit _ => 1
  | .nil => 1
  | .ptr d => uptoBulk d + 1
  | .slice elems spare => uptoBulkAll elems + uptoBulkAll spare + 1
  | .agg parts => uptoBulkAll parts + 1
  | .iface _ d => uptoBulk d + 1
  | .map entries => uptoBulkEntries entries + 1
  | .held _ => 1
def uptoBulkAll {H : Type} : List (DataW H) → Nat
  | [] => 0
  | d :: r => uptoBulk d + uptoBulkAll r
def uptoBulkEntries {H : Type} : List (Lit × DataW H) → Nat
  | [] => 0
  | x :: r => uptoBulkEntry x + uptoBulkEntries r
def uptoBulkEntry {H : Type} : Lit × DataW H → Nat
  | (.string bytes, d) => bytes.length + uptoBulk d + 1
  | (_, d) => uptoBulk d + 1
 end
def uptoSmall : (H : Type) → List (DataW H) → Bool := fun _ ds => decide (uptoBulkAll ds ≤ 1048576)
def OpenSpec.upto (s : _root_.Go.ChangeSpec) : _root_.Go.OpenSpec := { _root_.Go.OpenSpec.ofChange s with cond := some uptoSmall }

/-- 'jacquardlaw09.TypesFuncs', WHERE WHAT IT READS IS OF BULK AT MOST 1048576: true; the input reads as it did. -/
def typesFuncsUptoRow : OpenClaim := { program := "ythillgpbenjldaa", sum := "38ca0d9e7c67435d82f5a4f366a3c28fed24fb92ad4666f5dda07d881069384a", func := "jacquard/jacquardlaw09.TypesFuncs", spec := "typesFuncs", apart := false, narrowed := true }
def TypesFuncsUptoSaid : Prop := typesFuncsUptoRow.holds Try.pinned (OpenSpec.upto typesFuncsSpec)

/-- 'jacquardlaw09.TypesValues', WHERE WHAT IT READS IS OF BULK AT MOST 1048576: true; the input reads as it did. -/
def typesValuesUptoRow : OpenClaim := { program := "ythillgpbenjldaa", sum := "38ca0d9e7c67435d82f5a4f366a3c28fed24fb92ad4666f5dda07d881069384a", func := "jacquard/jacquardlaw09.TypesValues", spec := "typesValues", apart := false, narrowed := true }
def TypesValuesUptoSaid : Prop := typesValuesUptoRow.holds Try.pinned (OpenSpec.upto typesValuesSpec)

/-- 'jacquardlaw09.TypesZeros', WHERE WHAT IT READS IS OF BULK AT MOST 1048576: true; the input reads as it did. -/
def typesZerosUptoRow : OpenClaim := { program := "ythillgpbenjldaa", sum := "38ca0d9e7c67435d82f5a4f366a3c28fed24fb92ad4666f5dda07d881069384a", func := "jacquard/jacquardlaw09.TypesZeros", spec := "typesZeros", apart := false, narrowed := true }
def TypesZerosUptoSaid : Prop := typesZerosUptoRow.holds Try.pinned (OpenSpec.upto typesZerosSpec)

/-- 'jacquardlaw09.TypesFit', WHERE WHAT IT READS IS OF BULK AT MOST 1048576: true; the input reads as it did. -/
def typesFitUptoRow : OpenClaim := { program := "ythillgpbenjldaa", sum := "38ca0d9e7c67435d82f5a4f366a3c28fed24fb92ad4666f5dda07d881069384a", func := "jacquard/jacquardlaw09.TypesFit", spec := "typesFit", apart := false, narrowed := true }
def TypesFitUptoSaid : Prop := typesFitUptoRow.holds Try.pinned (OpenSpec.upto typesFitSpec)

/-- 'jacquardlaw09.TypesLimits', WHERE WHAT IT READS IS OF BULK AT MOST 1048576: true; the input reads as it did. -/
def typesLimitsUptoRow : OpenClaim := { program := "ythillgpbenjldaa", sum := "38ca0d9e7c67435d82f5a4f366a3c28fed24fb92ad4666f5dda07d881069384a", func := "jacquard/jacquardlaw09.TypesLimits", spec := "typesLimits", apart := false, narrowed := true }
def TypesLimitsUptoSaid : Prop := typesLimitsUptoRow.holds Try.pinned (OpenSpec.upto typesLimitsSpec)

/-- 'jacquardlaw09.TypesFresh', WHERE WHAT IT READS IS OF BULK AT MOST 1048576: true; the input reads as it did. -/
def typesFreshUptoRow : OpenClaim := { program := "ythillgpbenjldaa", sum := "38ca0d9e7c67435d82f5a4f366a3c28fed24fb92ad4666f5dda07d881069384a", func := "jacquard/jacquardlaw09.TypesFresh", spec := "typesFresh", recurses := true, apart := false, narrowed := true }
def TypesFreshUptoSaid : Prop := typesFreshUptoRow.holds Try.pinned (OpenSpec.upto typesFreshSpec)

/-- 'jacquardlaw09.TypesOthers', WHERE WHAT IT READS IS OF BULK AT MOST 1048576: true; the input reads as it did. -/
def typesOthersUptoRow : OpenClaim := { program := "ythillgpbenjldaa", sum := "38ca0d9e7c67435d82f5a4f366a3c28fed24fb92ad4666f5dda07d881069384a", func := "jacquard/jacquardlaw09.TypesOthers", spec := "typesOthers", apart := false, narrowed := true }
def TypesOthersUptoSaid : Prop := typesOthersUptoRow.holds Try.pinned (OpenSpec.upto typesOthersSpec)

/-- 'jacquardlaw09.TypesPuts', WHERE WHAT IT READS IS OF BULK AT MOST 1048576: true; the input reads as it did. -/
def typesPutsUptoRow : OpenClaim := { program := "ythillgpbenjldaa", sum := "38ca0d9e7c67435d82f5a4f366a3c28fed24fb92ad4666f5dda07d881069384a", func := "jacquard/jacquardlaw09.TypesPuts", spec := "typesPuts", recurses := true, apart := false, narrowed := true }
def TypesPutsUptoSaid : Prop := typesPutsUptoRow.holds Try.pinned (OpenSpec.upto typesPutsSpec)

/-- 'jacquardlaw09.TypesBack', WHERE WHAT IT READS IS OF BULK AT MOST 1048576: true; the input reads as it did. -/
def typesBackUptoRow : OpenClaim := { program := "ythillgpbenjldaa", sum := "38ca0d9e7c67435d82f5a4f366a3c28fed24fb92ad4666f5dda07d881069384a", func := "jacquard/jacquardlaw09.TypesBack", spec := "typesBack", apart := false, narrowed := true }
def TypesBackUptoSaid : Prop := typesBackUptoRow.holds Try.pinned (OpenSpec.upto typesBackSpec)

end Rows
end Go.Proofs.Ythillgpbenjldaa
