/-
  DERIVED. GIVEN WITH THE SEED: THE CARDS: each row of YtobldeamemmokaaDoorRows.lean that lists a variable, with what it lists TIED to the program's text (the seventh form; the later family's looks); each row that meets fmt, with fmt's text TOLD by the authors' own Lean function (tested against real Go, not proved from fmt's source: count such statements apart). THE CARD IS WHAT COUNTS. Prove the row's statement (the work); the ties are given (YtobldeamemmokaaDoorTie.lean); close each card by the builder's one call (the guide's Derived/Test/ToyasCard.lean, 'card_holds'). Laid BY PROGRAM, IN A SANDBOX (cutbox-door.mjs). By AI agents, Wed Nov 11 2026. No macro, syntax, notation, axiom, sorry.
-/
import Derived.Test.YtobldeamemmokaaDoorRows
import GoSem.ClaimSeven
namespace Go.Proofs.YtobldeamemmokaaDoor
namespace Rows

/-- THE TIED CARD OF 'jacquardlaw11.CodeFresh'. -/
def codeFreshCard : Claim7 := { stood := { row := codeFreshRow, standIns := [], harness := (true, "cc640e4f0710480cd7f1389065062a50db3d052918e3862374f2524ef100ca20"), looks := false }, kinds := [], alts := [], laidByText := true, laidKinds := [.data, .listed, .data, .pinned], laidTests := true, laidLooks := .later }
def CodeFreshCardSaid : Prop := Claim7.holds Tryd.pinned (.plain (OpenSpec.ofChange codeFreshSpec)) codeFreshCard

/-- THE TIED CARD OF 'jacquardlaw11.CodeCut'. -/
def codeCutCard : Claim7 := { stood := { row := codeCutRow, standIns := [], harness := (true, "cc640e4f0710480cd7f1389065062a50db3d052918e3862374f2524ef100ca20"), looks := false }, kinds := [], alts := [], laidByText := true, laidKinds := [.data, .listed, .data, .pinned], laidTests := true, laidLooks := .later }
def CodeCutCardSaid : Prop := Claim7.holds Tryd.pinned (.plain (OpenSpec.ofChange codeCutSpec)) codeCutCard

/-- THE TIED CARD OF 'jacquardlaw11.CodeShort'. -/
def codeShortCard : Claim7 := { stood := { row := codeShortRow, standIns := [], harness := (true, "cc640e4f0710480cd7f1389065062a50db3d052918e3862374f2524ef100ca20"), looks := false }, kinds := [], alts := [], laidByText := true, laidKinds := [.data, .listed, .data, .pinned], laidTests := true, laidLooks := .later }
def CodeShortCardSaid : Prop := Claim7.holds Tryd.pinned (.plain (OpenSpec.ofChange codeShortSpec)) codeShortCard

/-- THE TIED CARD OF 'jacquardlaw11.CodeDeep'. -/
def codeDeepCard : Claim7 := { stood := { row := codeDeepRow, standIns := [], harness := (true, "cc640e4f0710480cd7f1389065062a50db3d052918e3862374f2524ef100ca20"), looks := false }, kinds := [], alts := [], laidByText := true, laidKinds := [.data, .listed, .data, .pinned], laidTests := true, laidLooks := .later }
def CodeDeepCardSaid : Prop := Claim7.holds Tryd.pinned (.plain (OpenSpec.ofChange codeDeepSpec)) codeDeepCard

/-- THE TIED CARD OF 'jacquardlaw11.CodeAsks'. -/
def codeAsksCard : Claim7 := { stood := { row := codeAsksRow, standIns := [], harness := (true, "cc640e4f0710480cd7f1389065062a50db3d052918e3862374f2524ef100ca20"), looks := false }, kinds := [], alts := [], laidByText := true, laidKinds := [.data, .listed, .data, .pinned], laidTests := true, laidLooks := .later }
def CodeAsksCardSaid : Prop := Claim7.holds Tryd.pinned (.plain (OpenSpec.ofChange codeAsksSpec)) codeAsksCard

/-- THE TIED CARD OF 'jacquardlaw11.CodeBack'. -/
def codeBackCard : Claim7 := { stood := { row := codeBackRow, standIns := [], harness := (true, "cc640e4f0710480cd7f1389065062a50db3d052918e3862374f2524ef100ca20"), looks := false }, kinds := [], alts := [], laidByText := true, laidKinds := [.data, .listed, .data, .pinned], laidTests := true, laidLooks := .later }
def CodeBackCardSaid : Prop := Claim7.holds Tryd.pinned (.plain (OpenSpec.ofChange codeBackSpec)) codeBackCard

/-- THE SECOND FORM's CARD OF 'jacquardlaw11.CodeFresh'. -/
def codeFreshUptoCard : Claim7 := { stood := { row := codeFreshUptoRow, standIns := [], harness := (true, "cc640e4f0710480cd7f1389065062a50db3d052918e3862374f2524ef100ca20"), looks := false }, kinds := [], alts := [], laidByText := true, laidKinds := [.data, .listed, .data, .pinned], laidTests := true, laidLooks := .later }
def CodeFreshUptoCardSaid : Prop := Claim7.holds Tryd.pinned (.plain (OpenSpec.upto codeFreshSpec)) codeFreshUptoCard

/-- THE SECOND FORM's CARD OF 'jacquardlaw11.CodeCut'. -/
def codeCutUptoCard : Claim7 := { stood := { row := codeCutUptoRow, standIns := [], harness := (true, "cc640e4f0710480cd7f1389065062a50db3d052918e3862374f2524ef100ca20"), looks := false }, kinds := [], alts := [], laidByText := true, laidKinds := [.data, .listed, .data, .pinned], laidTests := true, laidLooks := .later }
def CodeCutUptoCardSaid : Prop := Claim7.holds Tryd.pinned (.plain (OpenSpec.upto codeCutSpec)) codeCutUptoCard

/-- THE SECOND FORM's CARD OF 'jacquardlaw11.CodeShort'. -/
def codeShortUptoCard : Claim7 := { stood := { row := codeShortUptoRow, standIns := [], harness := (true, "cc640e4f0710480cd7f1389065062a50db3d052918e3862374f2524ef100ca20"), looks := false }, kinds := [], alts := [], laidByText := true, laidKinds := [.data, .listed, .data, .pinned], laidTests := true, laidLooks := .later }
def CodeShortUptoCardSaid : Prop := Claim7.holds Tryd.pinned (.plain (OpenSpec.upto codeShortSpec)) codeShortUptoCard

/-- THE SECOND FORM's CARD OF 'jacquardlaw11.CodeDeep'. -/
def codeDeepUptoCard : Claim7 := { stood := { row := codeDeepUptoRow, standIns := [], harness := (true, "cc640e4f0710480cd7f1389065062a50db3d052918e3862374f2524ef100ca20"), looks := false }, kinds := [], alts := [], laidByText := true, laidKinds := [.data, .listed, .data, .pinned], laidTests := true, laidLooks := .later }
def CodeDeepUptoCardSaid : Prop := Claim7.holds Tryd.pinned (.plain (OpenSpec.upto codeDeepSpec)) codeDeepUptoCard

/-- THE SECOND FORM's CARD OF 'jacquardlaw11.CodeAsks'. -/
def codeAsksUptoCard : Claim7 := { stood := { row := codeAsksUptoRow, standIns := [], harness := (true, "cc640e4f0710480cd7f1389065062a50db3d052918e3862374f2524ef100ca20"), looks := false }, kinds := [], alts := [], laidByText := true, laidKinds := [.data, .listed, .data, .pinned], laidTests := true, laidLooks := .later }
def CodeAsksUptoCardSaid : Prop := Claim7.holds Tryd.pinned (.plain (OpenSpec.upto codeAsksSpec)) codeAsksUptoCard

/-- THE SECOND FORM's CARD OF 'jacquardlaw11.CodeBack'. -/
def codeBackUptoCard : Claim7 := { stood := { row := codeBackUptoRow, standIns := [], harness := (true, "cc640e4f0710480cd7f1389065062a50db3d052918e3862374f2524ef100ca20"), looks := false }, kinds := [], alts := [], laidByText := true, laidKinds := [.data, .listed, .data, .pinned], laidTests := true, laidLooks := .later }
def CodeBackUptoCardSaid : Prop := Claim7.holds Tryd.pinned (.plain (OpenSpec.upto codeBackSpec)) codeBackUptoCard
end Rows
end Go.Proofs.YtobldeamemmokaaDoor
