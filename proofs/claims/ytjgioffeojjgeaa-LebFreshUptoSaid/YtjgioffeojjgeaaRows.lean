/-
  No cell of these rows narrows 'for every input' (looked for: loops, veiled, ifaces, maps, wideKeys, modest, calm, conditions, laid).
  DERIVED. THE GIVEN ROWS OF THIS SEAT. 9 by the template 'for every input the law returns true; each argument reads behind the call as it read before'; 0 by the template 'total and deterministic' (their statements: YtjgioffeojjgeaaTotals.lean).
  GIVEN WITH THE SEED: the statements are not yours to turn. If you find one false, say at which input.
  Laid BY PROGRAM, IN A SANDBOX (cutbox-rows.mjs): the forced cells as the released guide's own fill.sh prints them over the translation 3ff2b0700ee4e998… (all of the seat's roots in one cut). By AI agents, Wed Nov 11 2026. No macro, syntax, notation, axiom, sorry.
-/
import Derived.Test.YtjgioffeojjgeaaChecked
import GoSem.Claim
import GoSem.ClaimJoined
import GoSem.ClaimMapViews
import Derived.JoinedTies
import Derived.KernelRfl
namespace Go.Proofs.Ytjgioffeojjgeaa
/- THE CELL 'sum', in the pinned program and in every row, IS THE sha256 OF THE DUMP (.gsa) THAT YtjgioffeojjgeaaProg.lean LOADS. Nothing in Lean hashes anything: it is a label: what it is worth is what the hold of that sum in a sandbox is worth. -/
noncomputable def Try.pinned : Pinned := { name := "ytjgioffeojjgeaa", sum := "3ff2b0700ee4e998d76261cfa766b172c11a328063ef8b00e579598f792857bc", checked := Try.checked }
namespace Rows
def none {H : Type} : Left H := { results := [], args := [] }

/-- 'jacquardlaw01.LebUnsigned': WHATEVER THE INPUT: true; the input reads as it did. -/
def lebUnsignedSpec : ChangeSpec := { name := "lebUnsigned", fn := fun _ => fun
  | [d1, d2, d3] => { results := [.lit (.bool true)], args := [d1, d2, d3] }
  | _ => none }
def lebUnsignedRow : OpenClaim := { program := "ytjgioffeojjgeaa", sum := "3ff2b0700ee4e998d76261cfa766b172c11a328063ef8b00e579598f792857bc", func := "jacquard/jacquardlaw01.LebUnsigned", spec := "lebUnsigned", apart := false }
def LebUnsignedSaid : Prop := lebUnsignedRow.holds Try.pinned (OpenSpec.ofChange lebUnsignedSpec)

/-- ITS FALSE NEIGHBOUR: 'it returns false'. Refute it at one input. -/
def lebUnsignedWrong : ChangeSpec := { name := "lebUnsigned", fn := fun _ => fun
  | [d1, d2, d3] => { results := [.lit (.bool false)], args := [d1, d2, d3] }
  | _ => none }
def LebUnsignedWrongFalsely : Prop := lebUnsignedRow.holds Try.pinned (OpenSpec.ofChange lebUnsignedWrong)

/-- 'jacquardlaw01.LebSigned': WHATEVER THE INPUT: true; the input reads as it did. -/
def lebSignedSpec : ChangeSpec := { name := "lebSigned", fn := fun _ => fun
  | [d1, d2, d3] => { results := [.lit (.bool true)], args := [d1, d2, d3] }
  | _ => none }
def lebSignedRow : OpenClaim := { program := "ytjgioffeojjgeaa", sum := "3ff2b0700ee4e998d76261cfa766b172c11a328063ef8b00e579598f792857bc", func := "jacquard/jacquardlaw01.LebSigned", spec := "lebSigned", apart := false }
def LebSignedSaid : Prop := lebSignedRow.holds Try.pinned (OpenSpec.ofChange lebSignedSpec)

/-- ITS FALSE NEIGHBOUR: 'it returns false'. Refute it at one input. -/
def lebSignedWrong : ChangeSpec := { name := "lebSigned", fn := fun _ => fun
  | [d1, d2, d3] => { results := [.lit (.bool false)], args := [d1, d2, d3] }
  | _ => none }
def LebSignedWrongFalsely : Prop := lebSignedRow.holds Try.pinned (OpenSpec.ofChange lebSignedWrong)

/-- 'jacquardlaw01.LebSame': WHATEVER THE INPUT: true; the input reads as it did. -/
def lebSameSpec : ChangeSpec := { name := "lebSame", fn := fun _ => fun
  | [d1, d2, d3] => { results := [.lit (.bool true)], args := [d1, d2, d3] }
  | _ => none }
def lebSameRow : OpenClaim := { program := "ytjgioffeojjgeaa", sum := "3ff2b0700ee4e998d76261cfa766b172c11a328063ef8b00e579598f792857bc", func := "jacquard/jacquardlaw01.LebSame", spec := "lebSame", apart := false }
def LebSameSaid : Prop := lebSameRow.holds Try.pinned (OpenSpec.ofChange lebSameSpec)

/-- ITS FALSE NEIGHBOUR: 'it returns false'. Refute it at one input. -/
def lebSameWrong : ChangeSpec := { name := "lebSame", fn := fun _ => fun
  | [d1, d2, d3] => { results := [.lit (.bool false)], args := [d1, d2, d3] }
  | _ => none }
def LebSameWrongFalsely : Prop := lebSameRow.holds Try.pinned (OpenSpec.ofChange lebSameWrong)

/-- 'jacquardlaw01.LebWider': WHATEVER THE INPUT: true; the input reads as it did. -/
def lebWiderSpec : ChangeSpec := { name := "lebWider", fn := fun _ => fun
  | [d1, d2, d3, d4] => { results := [.lit (.bool true)], args := [d1, d2, d3, d4] }
  | _ => none }
def lebWiderRow : OpenClaim := { program := "ytjgioffeojjgeaa", sum := "3ff2b0700ee4e998d76261cfa766b172c11a328063ef8b00e579598f792857bc", func := "jacquard/jacquardlaw01.LebWider", spec := "lebWider", apart := false }
def LebWiderSaid : Prop := lebWiderRow.holds Try.pinned (OpenSpec.ofChange lebWiderSpec)

/-- ITS FALSE NEIGHBOUR: 'it returns false'. Refute it at one input. -/
def lebWiderWrong : ChangeSpec := { name := "lebWider", fn := fun _ => fun
  | [d1, d2, d3, d4] => { results := [.lit (.bool false)], args := [d1, d2, d3, d4] }
  | _ => none }
def LebWiderWrongFalsely : Prop := lebWiderRow.holds Try.pinned (OpenSpec.ofChange lebWiderWrong)

/-- 'jacquardlaw01.LebBack': WHATEVER THE INPUT: true; the input reads as it did. -/
def lebBackSpec : ChangeSpec := { name := "lebBack", fn := fun _ => fun
  | [d1, d2, d3, d4] => { results := [.lit (.bool true)], args := [d1, d2, d3, d4] }
  | _ => none }
def lebBackRow : OpenClaim := { program := "ytjgioffeojjgeaa", sum := "3ff2b0700ee4e998d76261cfa766b172c11a328063ef8b00e579598f792857bc", func := "jacquard/jacquardlaw01.LebBack", spec := "lebBack", apart := false }
def LebBackSaid : Prop := lebBackRow.holds Try.pinned (OpenSpec.ofChange lebBackSpec)

/-- ITS FALSE NEIGHBOUR: 'it returns false'. Refute it at one input. -/
def lebBackWrong : ChangeSpec := { name := "lebBack", fn := fun _ => fun
  | [d1, d2, d3, d4] => { results := [.lit (.bool false)], args := [d1, d2, d3, d4] }
  | _ => none }
def LebBackWrongFalsely : Prop := lebBackRow.holds Try.pinned (OpenSpec.ofChange lebBackWrong)

/-- 'jacquardlaw01.LebBackSigned': WHATEVER THE INPUT: true; the input reads as it did. -/
def lebBackSignedSpec : ChangeSpec := { name := "lebBackSigned", fn := fun _ => fun
  | [d1, d2, d3, d4] => { results := [.lit (.bool true)], args := [d1, d2, d3, d4] }
  | _ => none }
def lebBackSignedRow : OpenClaim := { program := "ytjgioffeojjgeaa", sum := "3ff2b0700ee4e998d76261cfa766b172c11a328063ef8b00e579598f792857bc", func := "jacquard/jacquardlaw01.LebBackSigned", spec := "lebBackSigned", apart := false }
def LebBackSignedSaid : Prop := lebBackSignedRow.holds Try.pinned (OpenSpec.ofChange lebBackSignedSpec)

/-- ITS FALSE NEIGHBOUR: 'it returns false'. Refute it at one input. -/
def lebBackSignedWrong : ChangeSpec := { name := "lebBackSigned", fn := fun _ => fun
  | [d1, d2, d3, d4] => { results := [.lit (.bool false)], args := [d1, d2, d3, d4] }
  | _ => none }
def LebBackSignedWrongFalsely : Prop := lebBackSignedRow.holds Try.pinned (OpenSpec.ofChange lebBackSignedWrong)

/-- 'jacquardlaw01.LebLeast': WHATEVER THE INPUT: true; the input reads as it did. -/
def lebLeastSpec : ChangeSpec := { name := "lebLeast", fn := fun _ => fun
  | [d1, d2, d3] => { results := [.lit (.bool true)], args := [d1, d2, d3] }
  | _ => none }
def lebLeastRow : OpenClaim := { program := "ytjgioffeojjgeaa", sum := "3ff2b0700ee4e998d76261cfa766b172c11a328063ef8b00e579598f792857bc", func := "jacquard/jacquardlaw01.LebLeast", spec := "lebLeast", apart := false }
def LebLeastSaid : Prop := lebLeastRow.holds Try.pinned (OpenSpec.ofChange lebLeastSpec)

/-- ITS FALSE NEIGHBOUR: 'it returns false'. Refute it at one input. -/
def lebLeastWrong : ChangeSpec := { name := "lebLeast", fn := fun _ => fun
  | [d1, d2, d3] => { results := [.lit (.bool false)], args := [d1, d2, d3] }
  | _ => none }
def LebLeastWrongFalsely : Prop := lebLeastRow.holds Try.pinned (OpenSpec.ofChange lebLeastWrong)

/-- 'jacquardlaw01.LebFresh': WHATEVER THE INPUT: true; the input reads as it did. -/
def lebFreshSpec : ChangeSpec := { name := "lebFresh", fn := fun _ => fun
  | [d1, d2, d3, d4] => { results := [.lit (.bool true)], args := [d1, d2, d3, d4] }
  | _ => none }
def lebFreshRow : OpenClaim := { program := "ytjgioffeojjgeaa", sum := "3ff2b0700ee4e998d76261cfa766b172c11a328063ef8b00e579598f792857bc", func := "jacquard/jacquardlaw01.LebFresh", spec := "lebFresh", recurses := true, apart := false }
def LebFreshSaid : Prop := lebFreshRow.holds Try.pinned (OpenSpec.ofChange lebFreshSpec)

/-- ITS FALSE NEIGHBOUR: 'it returns false'. Refute it at one input. -/
def lebFreshWrong : ChangeSpec := { name := "lebFresh", fn := fun _ => fun
  | [d1, d2, d3, d4] => { results := [.lit (.bool false)], args := [d1, d2, d3, d4] }
  | _ => none }
def LebFreshWrongFalsely : Prop := lebFreshRow.holds Try.pinned (OpenSpec.ofChange lebFreshWrong)

/-- 'jacquardlaw01.LebShort': WHATEVER THE INPUT: true; the input reads as it did. -/
def lebShortSpec : ChangeSpec := { name := "lebShort", fn := fun _ => fun
  | [d1, d2] => { results := [.lit (.bool true)], args := [d1, d2] }
  | _ => none }
def lebShortRow : OpenClaim := { program := "ytjgioffeojjgeaa", sum := "3ff2b0700ee4e998d76261cfa766b172c11a328063ef8b00e579598f792857bc", func := "jacquard/jacquardlaw01.LebShort", spec := "lebShort", recurses := true, apart := false }
def LebShortSaid : Prop := lebShortRow.holds Try.pinned (OpenSpec.ofChange lebShortSpec)

/-- ITS FALSE NEIGHBOUR: 'it returns false'. Refute it at one input. -/
def lebShortWrong : ChangeSpec := { name := "lebShort", fn := fun _ => fun
  | [d1, d2] => { results := [.lit (.bool false)], args := [d1, d2] }
  | _ => none }
def LebShortWrongFalsely : Prop := lebShortRow.holds Try.pinned (OpenSpec.ofChange lebShortWrong)

/- THE SECOND FORM. 'bulk': how many values and letters a reading holds, each counted each time it is reached (what is shared counts as often as it is met; a slice's spare places count too). A statement '..UptoSaid' is the law's where the arguments, and the package variables that the reading takes, are together of bulk at most 1048576: NARROWER than '..Said'. Prove '..Said' where nothing that the law and all that it calls make is longer than what came in: it says more and counts as full. Else prove '..UptoSaid'. A law counts once. -/
mutual
def uptoBulk {H : Type} : DataW H → Nat
  | .lit (.string bytes) => bytes.length + 1
  | .lit _ => 1
  | .nil => 1
  | .ptr d => uptoBulk d + 1
  | .slice elems spare => uptoBulkAll elems + uptoBulkAll spare + 1
  | .agg parts => uptoBulkAll parts + 1
  | .iface _ d => uptoBulk d + 1
  | .map entries => uptoBulkEntries entries + 1
  | .held _ => 1
def uptoBulkAll {H : Type} : List (DataW H) → Nat
  | [] => 0
  | d :: r => uptoBulk d + uptoBulkAll r
def uptoBulkEntries {H : Type} : List (Lit × DataW H) → Nat
  | [] => 0
  | x :: r => uptoBulkEntry x + uptoBulkEntries r
def uptoBulkEntry {H : Type} : Lit × DataW H → Nat
  | (.string bytes, d) => bytes.length + uptoBulk d + 1
  | (_, d) => uptoBulk d + 1
 end
def uptoSmall : (H : Type) → List (DataW H) → Bool := fun _ ds => decide (uptoBulkAll ds ≤ 1048576)
def OpenSpec.upto (s : _root_.Go.ChangeSpec) : _root_.Go.OpenSpec := { _root_.Go.OpenSpec.ofChange s with cond := some uptoSmall }

/-- 'jacquardlaw01.LebUnsigned', WHERE WHAT IT READS IS OF BULK AT MOST 1048576: true; the input reads as it did. -/
def lebUnsignedUptoRow : OpenClaim := { program := "ytjgioffeojjgeaa", sum := "3ff2b0700ee4e998d76261cfa766b172c11a328063ef8b00e579598f792857bc", func := "jacquard/jacquardlaw01.LebUnsigned", spec := "lebUnsigned", apart := false, narrowed := true }
def LebUnsignedUptoSaid : Prop := lebUnsignedUptoRow.holds Try.pinned (OpenSpec.upto lebUnsignedSpec)

/-- 'jacquardlaw01.LebSigned', WHERE WHAT IT READS IS OF BULK AT MOST 1048576: true; the input reads as it did. -/
def lebSignedUptoRow : OpenClaim := { program := "ytjgioffeojjgeaa", sum := "3ff2b0700ee4e998d76261cfa766b172c11a328063ef8b00e579598f792857bc", func := "jacquard/jacquardlaw01.LebSigned", spec := "lebSigned", apart := false, narrowed := true }
def LebSignedUptoSaid : Prop := lebSignedUptoRow.holds Try.pinned (OpenSpec.upto lebSignedSpec)

/-- 'jacquardlaw01.LebSame', WHERE WHAT IT READS IS OF BULK AT MOST 1048576: true; the input reads as it did. -/
def lebSameUptoRow : OpenClaim := { program := "ytjgioffeojjgeaa", sum := "3ff2b0700ee4e998d76261cfa766b172c11a328063ef8b00e579598f792857bc", func := "jacquard/jacquardlaw01.LebSame", spec := "lebSame", apart := false, narrowed := true }
def LebSameUptoSaid : Prop := lebSameUptoRow.holds Try.pinned (OpenSpec.upto lebSameSpec)

/-- 'jacquardlaw01.LebWider', WHERE WHAT IT READS IS OF BULK AT MOST 1048576: true; the input reads as it did. -/
def lebWiderUptoRow : OpenClaim := { program := "ytjgioffeojjgeaa", sum := "3ff2b0700ee4e998d76261cfa766b172c11a328063ef8b00e579598f792857bc", func := "jacquard/jacquardlaw01.LebWider", spec := "lebWider", apart := false, narrowed := true }
def LebWiderUptoSaid : Prop := lebWiderUptoRow.holds Try.pinned (OpenSpec.upto lebWiderSpec)

/-- 'jacquardlaw01.LebBack', WHERE WHAT IT READS IS OF BULK AT MOST 1048576: true; the input reads as it did. -/
def lebBackUptoRow : OpenClaim := { program := "ytjgioffeojjgeaa", sum := "3ff2b0700ee4e998d76261cfa766b172c11a328063ef8b00e579598f792857bc", func := "jacquard/jacquardlaw01.LebBack", spec := "lebBack", apart := false, narrowed := true }
def LebBackUptoSaid : Prop := lebBackUptoRow.holds Try.pinned (OpenSpec.upto lebBackSpec)

/-- 'jacquardlaw01.LebBackSigned', WHERE WHAT IT READS IS OF BULK AT MOST 1048576: true; the input reads as it did. -/
def lebBackSignedUptoRow : OpenClaim := { program := "ytjgioffeojjgeaa", sum := "3ff2b0700ee4e998d76261cfa766b172c11a328063ef8b00e579598f792857bc", func := "jacquard/jacquardlaw01.LebBackSigned", spec := "lebBackSigned", apart := false, narrowed := true }
def LebBackSignedUptoSaid : Prop := lebBackSignedUptoRow.holds Try.pinned (OpenSpec.upto lebBackSignedSpec)

/-- 'jacquardlaw01.LebLeast', WHERE WHAT IT READS IS OF BULK AT MOST 1048576: true; the input reads as it did. -/
def lebLeastUptoRow : OpenClaim := { program := "ytjgioffeojjgeaa", sum := "3ff2b0700ee4e998d76261cfa766b172c11a328063ef8b00e579598f792857bc", func := "jacquard/jacquardlaw01.LebLeast", spec := "lebLeast", apart := false, narrowed := true }
def LebLeastUptoSaid : Prop := lebLeastUptoRow.holds Try.pinned (OpenSpec.upto lebLeastSpec)

/-- 'jacquardlaw01.LebFresh', WHERE WHAT IT READS IS OF BULK AT MOST 1048576: true; the input reads as it did. -/
def lebFreshUptoRow : OpenClaim := { program := "ytjgioffeojjgeaa", sum := "3ff2b0700ee4e998d76261cfa766b172c11a328063ef8b00e579598f792857bc", func := "jacquard/jacquardlaw01.LebFresh", spec := "lebFresh", recurses := true, apart := false, narrowed := true }
def LebFreshUptoSaid : Prop := lebFreshUptoRow.holds Try.pinned (OpenSpec.upto lebFreshSpec)

/-- 'jacquardlaw01.LebShort', WHERE WHAT IT READS IS OF BULK AT MOST 1048576: true; the input reads as it did. -/
def lebShortUptoRow : OpenClaim := { program := "ytjgioffeojjgeaa", sum := "3ff2b0700ee4e998d76261cfa766b172c11a328063ef8b00e579598f792857bc", func := "jacquard/jacquardlaw01.LebShort", spec := "lebShort", recurses := true, apart := false, narrowed := true }
def LebShortUptoSaid : Prop := lebShortUptoRow.holds Try.pinned (OpenSpec.upto lebShortSpec)

end Rows
end Go.Proofs.Ytjgioffeojjgeaa
