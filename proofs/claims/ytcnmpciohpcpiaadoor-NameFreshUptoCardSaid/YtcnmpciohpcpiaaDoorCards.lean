/-
  DERIVED. GIVEN WITH THE SEED: THE CARDS: each row of YtcnmpciohpcpiaaDoorRows.lean that lists a variable, with what it lists TIED to the program's text (the seventh form; the later family's looks); each row that meets fmt, with fmt's text TOLD by the authors' own Lean function (tested against real Go, not proved from fmt's source: count such statements apart). THE CARD IS WHAT COUNTS. Prove the row's statement (the work); the ties are given (YtcnmpciohpcpiaaDoorTie.lean); close each card by the builder's one call (the guide's Derived/Test/ToyasCard.lean, 'card_holds'). Laid BY PROGRAM, IN A SANDBOX (cutbox-door.mjs). By AI agents, Wed Nov 11 2026. No macro, syntax, notation, axiom, sorry.
-/
import Derived.Test.YtcnmpciohpcpiaaDoorRows
import GoSem.ClaimSeven
namespace Go.Proofs.YtcnmpciohpcpiaaDoor
namespace Rows

/-- THE TIED CARD OF 'jacquardlaw02.NameLetters'. -/
def nameLettersCard : Claim7 := { stood := { row := nameLettersRow, standIns := [], harness := (true, "55a1d2b1697910f32d237d58b932e59ad45338cb6cd976972d900c89e49e29e2"), looks := false }, kinds := [], alts := [], laidByText := true, laidKinds := [.data, .pinned], laidTests := true, laidLooks := .later }
def NameLettersCardSaid : Prop := Claim7.holds Tryd.pinned (.plain (OpenSpec.ofChange nameLettersSpec)) nameLettersCard

/-- THE TIED CARD OF 'jacquardlaw02.NamePuts'. -/
def namePutsCard : Claim7 := { stood := { row := namePutsRow, standIns := [], harness := (true, "55a1d2b1697910f32d237d58b932e59ad45338cb6cd976972d900c89e49e29e2"), looks := false }, kinds := [], alts := [], laidByText := true, laidKinds := [.data, .pinned], laidTests := true, laidLooks := .later }
def NamePutsCardSaid : Prop := Claim7.holds Tryd.pinned (.plain (OpenSpec.ofChange namePutsSpec)) namePutsCard

/-- THE TIED CARD OF 'jacquardlaw02.NameBack'. -/
def nameBackCard : Claim7 := { stood := { row := nameBackRow, standIns := [], harness := (true, "55a1d2b1697910f32d237d58b932e59ad45338cb6cd976972d900c89e49e29e2"), looks := false }, kinds := [], alts := [], laidByText := true, laidKinds := [.data, .pinned], laidTests := true, laidLooks := .later }
def NameBackCardSaid : Prop := Claim7.holds Tryd.pinned (.plain (OpenSpec.ofChange nameBackSpec)) nameBackCard

/-- THE TIED CARD OF 'jacquardlaw02.NameJoins'. -/
def nameJoinsCard : Claim7 := { stood := { row := nameJoinsRow, standIns := [], harness := (true, "55a1d2b1697910f32d237d58b932e59ad45338cb6cd976972d900c89e49e29e2"), looks := false }, kinds := [], alts := [], laidByText := true, laidKinds := [.data, .pinned], laidTests := true, laidLooks := .later }
def NameJoinsCardSaid : Prop := Claim7.holds Tryd.pinned (.plain (OpenSpec.ofChange nameJoinsSpec)) nameJoinsCard

/-- THE TIED CARD OF 'jacquardlaw02.NameOne'. -/
def nameOneCard : Claim7 := { stood := { row := nameOneRow, standIns := [], harness := (true, "55a1d2b1697910f32d237d58b932e59ad45338cb6cd976972d900c89e49e29e2"), looks := false }, kinds := [], alts := [], laidByText := true, laidKinds := [.data, .pinned], laidTests := true, laidLooks := .later }
def NameOneCardSaid : Prop := Claim7.holds Tryd.pinned (.plain (OpenSpec.ofChange nameOneSpec)) nameOneCard

/-- THE TIED CARD OF 'jacquardlaw02.NamePutRow'. -/
def namePutRowCard : Claim7 := { stood := { row := namePutRowRow, standIns := [], harness := (true, "55a1d2b1697910f32d237d58b932e59ad45338cb6cd976972d900c89e49e29e2"), looks := false }, kinds := [], alts := [], laidByText := true, laidKinds := [.data, .pinned], laidTests := true, laidLooks := .later }
def NamePutRowCardSaid : Prop := Claim7.holds Tryd.pinned (.plain (OpenSpec.ofChange namePutRowSpec)) namePutRowCard

/-- THE TIED CARD OF 'jacquardlaw02.NameRows'. -/
def nameRowsCard : Claim7 := { stood := { row := nameRowsRow, standIns := [], harness := (true, "55a1d2b1697910f32d237d58b932e59ad45338cb6cd976972d900c89e49e29e2"), looks := false }, kinds := [], alts := [], laidByText := true, laidKinds := [.data, .pinned], laidTests := true, laidLooks := .later }
def NameRowsCardSaid : Prop := Claim7.holds Tryd.pinned (.plain (OpenSpec.ofChange nameRowsSpec)) nameRowsCard

/-- THE TIED CARD OF 'jacquardlaw02.NameFresh'. -/
def nameFreshCard : Claim7 := { stood := { row := nameFreshRow, standIns := [], harness := (true, "55a1d2b1697910f32d237d58b932e59ad45338cb6cd976972d900c89e49e29e2"), looks := false }, kinds := [], alts := [], laidByText := true, laidKinds := [.data, .pinned], laidTests := true, laidLooks := .later }
def NameFreshCardSaid : Prop := Claim7.holds Tryd.pinned (.plain (OpenSpec.ofChange nameFreshSpec)) nameFreshCard

/-- THE SECOND FORM's CARD OF 'jacquardlaw02.NameLetters'. -/
def nameLettersUptoCard : Claim7 := { stood := { row := nameLettersUptoRow, standIns := [], harness := (true, "55a1d2b1697910f32d237d58b932e59ad45338cb6cd976972d900c89e49e29e2"), looks := false }, kinds := [], alts := [], laidByText := true, laidKinds := [.data, .pinned], laidTests := true, laidLooks := .later }
def NameLettersUptoCardSaid : Prop := Claim7.holds Tryd.pinned (.plain (OpenSpec.upto nameLettersSpec)) nameLettersUptoCard

/-- THE SECOND FORM's CARD OF 'jacquardlaw02.NamePuts'. -/
def namePutsUptoCard : Claim7 := { stood := { row := namePutsUptoRow, standIns := [], harness := (true, "55a1d2b1697910f32d237d58b932e59ad45338cb6cd976972d900c89e49e29e2"), looks := false }, kinds := [], alts := [], laidByText := true, laidKinds := [.data, .pinned], laidTests := true, laidLooks := .later }
def NamePutsUptoCardSaid : Prop := Claim7.holds Tryd.pinned (.plain (OpenSpec.upto namePutsSpec)) namePutsUptoCard

/-- THE SECOND FORM's CARD OF 'jacquardlaw02.NameBack'. -/
def nameBackUptoCard : Claim7 := { stood := { row := nameBackUptoRow, standIns := [], harness := (true, "55a1d2b1697910f32d237d58b932e59ad45338cb6cd976972d900c89e49e29e2"), looks := false }, kinds := [], alts := [], laidByText := true, laidKinds := [.data, .pinned], laidTests := true, laidLooks := .later }
def NameBackUptoCardSaid : Prop := Claim7.holds Tryd.pinned (.plain (OpenSpec.upto nameBackSpec)) nameBackUptoCard

/-- THE SECOND FORM's CARD OF 'jacquardlaw02.NameJoins'. -/
def nameJoinsUptoCard : Claim7 := { stood := { row := nameJoinsUptoRow, standIns := [], harness := (true, "55a1d2b1697910f32d237d58b932e59ad45338cb6cd976972d900c89e49e29e2"), looks := false }, kinds := [], alts := [], laidByText := true, laidKinds := [.data, .pinned], laidTests := true, laidLooks := .later }
def NameJoinsUptoCardSaid : Prop := Claim7.holds Tryd.pinned (.plain (OpenSpec.upto nameJoinsSpec)) nameJoinsUptoCard

/-- THE SECOND FORM's CARD OF 'jacquardlaw02.NameOne'. -/
def nameOneUptoCard : Claim7 := { stood := { row := nameOneUptoRow, standIns := [], harness := (true, "55a1d2b1697910f32d237d58b932e59ad45338cb6cd976972d900c89e49e29e2"), looks := false }, kinds := [], alts := [], laidByText := true, laidKinds := [.data, .pinned], laidTests := true, laidLooks := .later }
def NameOneUptoCardSaid : Prop := Claim7.holds Tryd.pinned (.plain (OpenSpec.upto nameOneSpec)) nameOneUptoCard

/-- THE SECOND FORM's CARD OF 'jacquardlaw02.NamePutRow'. -/
def namePutRowUptoCard : Claim7 := { stood := { row := namePutRowUptoRow, standIns := [], harness := (true, "55a1d2b1697910f32d237d58b932e59ad45338cb6cd976972d900c89e49e29e2"), looks := false }, kinds := [], alts := [], laidByText := true, laidKinds := [.data, .pinned], laidTests := true, laidLooks := .later }
def NamePutRowUptoCardSaid : Prop := Claim7.holds Tryd.pinned (.plain (OpenSpec.upto namePutRowSpec)) namePutRowUptoCard

/-- THE SECOND FORM's CARD OF 'jacquardlaw02.NameRows'. -/
def nameRowsUptoCard : Claim7 := { stood := { row := nameRowsUptoRow, standIns := [], harness := (true, "55a1d2b1697910f32d237d58b932e59ad45338cb6cd976972d900c89e49e29e2"), looks := false }, kinds := [], alts := [], laidByText := true, laidKinds := [.data, .pinned], laidTests := true, laidLooks := .later }
def NameRowsUptoCardSaid : Prop := Claim7.holds Tryd.pinned (.plain (OpenSpec.upto nameRowsSpec)) nameRowsUptoCard

/-- THE SECOND FORM's CARD OF 'jacquardlaw02.NameFresh'. -/
def nameFreshUptoCard : Claim7 := { stood := { row := nameFreshUptoRow, standIns := [], harness := (true, "55a1d2b1697910f32d237d58b932e59ad45338cb6cd976972d900c89e49e29e2"), looks := false }, kinds := [], alts := [], laidByText := true, laidKinds := [.data, .pinned], laidTests := true, laidLooks := .later }
def NameFreshUptoCardSaid : Prop := Claim7.holds Tryd.pinned (.plain (OpenSpec.upto nameFreshSpec)) nameFreshUptoCard
end Rows
end Go.Proofs.YtcnmpciohpcpiaaDoor
