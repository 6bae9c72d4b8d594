/-
  DERIVED. GIVEN WITH THE SEED: THE CARDS: each row of YtfbdmgdbamjjhaaDoorRows.lean that lists a variable, with what it lists TIED to the program's text (the seventh form; the later family's looks); each row that meets fmt, with fmt's text TOLD by the authors' own Lean function (tested against real Go, not proved from fmt's source: count such statements apart). THE CARD IS WHAT COUNTS. Prove the row's statement (the work); the ties are given (YtfbdmgdbamjjhaaDoorTie.lean); close each card by the builder's one call (the guide's Derived/Test/ToyasCard.lean, 'card_holds'). Laid BY PROGRAM, IN A SANDBOX (cutbox-door.mjs). By AI agents, Wed Nov 11 2026. No macro, syntax, notation, axiom, sorry.
-/
import Derived.Test.YtfbdmgdbamjjhaaDoorRows
import GoSem.ClaimSeven
namespace Go.Proofs.YtfbdmgdbamjjhaaDoor
namespace Rows

/-- THE TIED CARD OF 'jacquardlaw10.OpsOf'. -/
def opsOfCard : Claim7 := { stood := { row := opsOfRow, standIns := [], harness := (true, "c9eb33d57f50293206e56ab5bdd850b87e390a66bd157d6b36a8b6ad17da33e3"), looks := false }, kinds := [], alts := [], laidByText := true, laidKinds := [.data, .listed, .data, .pinned], laidTests := true, laidLooks := .later }
def OpsOfCardSaid : Prop := Claim7.holds Tryd.pinned (.plain (OpenSpec.ofChange opsOfSpec)) opsOfCard

/-- THE TIED CARD OF 'jacquardlaw10.OpsPlain'. -/
def opsPlainCard : Claim7 := { stood := { row := opsPlainRow, standIns := [], harness := (true, "c9eb33d57f50293206e56ab5bdd850b87e390a66bd157d6b36a8b6ad17da33e3"), looks := false }, kinds := [], alts := [], laidByText := true, laidKinds := [.data, .listed, .data, .pinned], laidTests := true, laidLooks := .later }
def OpsPlainCardSaid : Prop := Claim7.holds Tryd.pinned (.plain (OpenSpec.ofChange opsPlainSpec)) opsPlainCard

/-- THE TIED CARD OF 'jacquardlaw10.OpsUnlike'. -/
def opsUnlikeCard : Claim7 := { stood := { row := opsUnlikeRow, standIns := [], harness := (true, "c9eb33d57f50293206e56ab5bdd850b87e390a66bd157d6b36a8b6ad17da33e3"), looks := false }, kinds := [], alts := [], laidByText := true, laidKinds := [.data, .listed, .data, .pinned], laidTests := true, laidLooks := .later }
def OpsUnlikeCardSaid : Prop := Claim7.holds Tryd.pinned (.plain (OpenSpec.ofChange opsUnlikeSpec)) opsUnlikeCard

/-- THE TIED CARD OF 'jacquardlaw10.OpsPages'. -/
def opsPagesCard : Claim7 := { stood := { row := opsPagesRow, standIns := [], harness := (true, "c9eb33d57f50293206e56ab5bdd850b87e390a66bd157d6b36a8b6ad17da33e3"), looks := false }, kinds := [], alts := [], laidByText := true, laidKinds := [.data, .listed, .data, .pinned], laidTests := true, laidLooks := .later }
def OpsPagesCardSaid : Prop := Claim7.holds Tryd.pinned (.plain (OpenSpec.ofChange opsPagesSpec)) opsPagesCard

/-- THE TIED CARD OF 'jacquardlaw10.OpsAll'. -/
def opsAllCard : Claim7 := { stood := { row := opsAllRow, standIns := [], harness := (true, "c9eb33d57f50293206e56ab5bdd850b87e390a66bd157d6b36a8b6ad17da33e3"), looks := false }, kinds := [], alts := [], laidByText := true, laidKinds := [.data, .listed, .data, .pinned], laidTests := true, laidLooks := .later }
def OpsAllCardSaid : Prop := Claim7.holds Tryd.pinned (.plain (OpenSpec.ofChange opsAllSpec)) opsAllCard

/-- THE TIED CARD OF 'jacquardlaw10.OpsFresh'. -/
def opsFreshCard : Claim7 := { stood := { row := opsFreshRow, standIns := [], harness := (true, "c9eb33d57f50293206e56ab5bdd850b87e390a66bd157d6b36a8b6ad17da33e3"), looks := false }, kinds := [], alts := [], laidByText := true, laidKinds := [.data, .listed, .data, .pinned], laidTests := true, laidLooks := .later }
def OpsFreshCardSaid : Prop := Claim7.holds Tryd.pinned (.plain (OpenSpec.ofChange opsFreshSpec)) opsFreshCard

/-- THE TIED CARD OF 'jacquardlaw10.OpsNamed'. -/
def opsNamedCard : Claim7 := { stood := { row := opsNamedRow, standIns := [], harness := (true, "c9eb33d57f50293206e56ab5bdd850b87e390a66bd157d6b36a8b6ad17da33e3"), looks := false }, kinds := [], alts := [], laidByText := true, laidKinds := [.data, .listed, .data, .pinned], laidTests := true, laidLooks := .later }
def OpsNamedCardSaid : Prop := Claim7.holds Tryd.pinned (.plain (OpenSpec.ofChange opsNamedSpec)) opsNamedCard

/-- THE TIED CARD OF 'jacquardlaw10.OpsBack'. -/
def opsBackCard : Claim7 := { stood := { row := opsBackRow, standIns := [], harness := (true, "c9eb33d57f50293206e56ab5bdd850b87e390a66bd157d6b36a8b6ad17da33e3"), looks := false }, kinds := [], alts := [], laidByText := true, laidKinds := [.data, .listed, .data, .pinned], laidTests := true, laidLooks := .later }
def OpsBackCardSaid : Prop := Claim7.holds Tryd.pinned (.plain (OpenSpec.ofChange opsBackSpec)) opsBackCard

/-- THE SECOND FORM's CARD OF 'jacquardlaw10.OpsOf'. -/
def opsOfUptoCard : Claim7 := { stood := { row := opsOfUptoRow, standIns := [], harness := (true, "c9eb33d57f50293206e56ab5bdd850b87e390a66bd157d6b36a8b6ad17da33e3"), looks := false }, kinds := [], alts := [], laidByText := true, laidKinds := [.data, .listed, .data, .pinned], laidTests := true, laidLooks := .later }
def OpsOfUptoCardSaid : Prop := Claim7.holds Tryd.pinned (.plain (OpenSpec.upto opsOfSpec)) opsOfUptoCard

/-- THE SECOND FORM's CARD OF 'jacquardlaw10.OpsPlain'. -/
def opsPlainUptoCard : Claim7 := { stood := { row := opsPlainUptoRow, standIns := [], harness := (true, "c9eb33d57f50293206e56ab5bdd850b87e390a66bd157d6b36a8b6ad17da33e3"), looks := false }, kinds := [], alts := [], laidByText := true, laidKinds := [.data, .listed, .data, .pinned], laidTests := true, laidLooks := .later }
def OpsPlainUptoCardSaid : Prop := Claim7.holds Tryd.pinned (.plain (OpenSpec.upto opsPlainSpec)) opsPlainUptoCard

/-- THE SECOND FORM's CARD OF 'jacquardlaw10.OpsUnlike'. -/
def opsUnlikeUptoCard : Claim7 := { stood := { row := opsUnlikeUptoRow, standIns := [], harness := (true, "c9eb33d57f50293206e56ab5bdd850b87e390a66bd157d6b36a8b6ad17da33e3"), looks := false }, kinds := [], alts := [], laidByText := true, laidKinds := [.data, .listed, .data, .pinned], laidTests := true, laidLooks := .later }
def OpsUnlikeUptoCardSaid : Prop := Claim7.holds Tryd.pinned (.plain (OpenSpec.upto opsUnlikeSpec)) opsUnlikeUptoCard

/-- THE SECOND FORM's CARD OF 'jacquardlaw10.OpsPages'. -/
def opsPagesUptoCard : Claim7 := { stood := { row := opsPagesUptoRow, standIns := [], harness := (true, "c9eb33d57f50293206e56ab5bdd850b87e390a66bd157d6b36a8b6ad17da33e3"), looks := false }, kinds := [], alts := [], laidByText := true, laidKinds := [.data, .listed, .data, .pinned], laidTests := true, laidLooks := .later }
def OpsPagesUptoCardSaid : Prop := Claim7.holds Tryd.pinned (.plain (OpenSpec.upto opsPagesSpec)) opsPagesUptoCard

/-- THE SECOND FORM's CARD OF 'jacquardlaw10.OpsAll'. -/
def opsAllUptoCard : Claim7 := { stood := { row := opsAllUptoRow, standIns := [], harness := (true, "c9eb33d57f50293206e56ab5bdd850b87e390a66bd157d6b36a8b6ad17da33e3"), looks := false }, kinds := [], alts := [], laidByText := true, laidKinds := [.data, .listed, .data, .pinned], laidTests := true, laidLooks := .later }
def OpsAllUptoCardSaid : Prop := Claim7.holds Tryd.pinned (.plain (OpenSpec.upto opsAllSpec)) opsAllUptoCard

/-- THE SECOND FORM's CARD OF 'jacquardlaw10.OpsFresh'. -/
def opsFreshUptoCard : Claim7 := { stood := { row := opsFreshUptoRow, standIns := [], harness := (true, "c9eb33d57f50293206e56ab5bdd850b87e390a66bd157d6b36a8b6ad17da33e3"), looks := false }, kinds := [], alts := [], laidByText := true, laidKinds := [.data, .listed, .data, .pinned], laidTests := true, laidLooks := .later }
def OpsFreshUptoCardSaid : Prop := Claim7.holds Tryd.pinned (.plain (OpenSpec.upto opsFreshSpec)) opsFreshUptoCard

/-- THE SECOND FORM's CARD OF 'jacquardlaw10.OpsNamed'. -/
def opsNamedUptoCard : Claim7 := { stood := { row := opsNamedUptoRow, standIns := [], harness := (true, "c9eb33d57f50293206e56ab5bdd850b87e390a66bd157d6b36a8b6ad17da33e3"), looks := false }, kinds := [], alts := [], laidByText := true, laidKinds := [.data, .listed, .data, .pinned], laidTests := true, laidLooks := .later }
def OpsNamedUptoCardSaid : Prop := Claim7.holds Tryd.pinned (.plain (OpenSpec.upto opsNamedSpec)) opsNamedUptoCard

/-- THE SECOND FORM's CARD OF 'jacquardlaw10.OpsBack'. -/
def opsBackUptoCard : Claim7 := { stood := { row := opsBackUptoRow, standIns := [], harness := (true, "c9eb33d57f50293206e56ab5bdd850b87e390a66bd157d6b36a8b6ad17da33e3"), looks := false }, kinds := [], alts := [], laidByText := true, laidKinds := [.data, .listed, .data, .pinned], laidTests := true, laidLooks := .later }
def OpsBackUptoCardSaid : Prop := Claim7.holds Tryd.pinned (.plain (OpenSpec.upto opsBackSpec)) opsBackUptoCard
end Rows
end Go.Proofs.YtfbdmgdbamjjhaaDoor
