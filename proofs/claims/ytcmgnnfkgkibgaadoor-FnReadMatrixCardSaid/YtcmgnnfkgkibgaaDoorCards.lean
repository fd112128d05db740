/-
  DERIVED. GIVEN WITH THE SEED: THE CARDS: each row of YtcmgnnfkgkibgaaDoorRows.lean that lists a variable, with what it lists TIED to the program's text (the seventh form; the later family's looks); each row that meets fmt, with fmt's text TOLD by the authors' own Lean function (tested against real Go, not proved from fmt's source: count such statements apart). THE CARD IS WHAT COUNTS. Prove the row's statement (the work); the ties are given (YtcmgnnfkgkibgaaDoorTie.lean); close each card by the builder's one call (the guide's Derived/Test/ToyasCard.lean, 'card_holds'). Laid BY PROGRAM, IN A SANDBOX (cutbox-door.mjs). By AI agents, Wed Nov 11 2026. No macro, syntax, notation, axiom, sorry.
-/
import Derived.Test.YtcmgnnfkgkibgaaDoorRows
import GoSem.ClaimSeven
namespace Go.Proofs.YtcmgnnfkgkibgaaDoor
namespace Rows

/-- THE TIED CARD OF 'laws.FnExactNeedsText'. -/
def fnExactNeedsTextCard : Claim7 := { stood := { row := fnExactNeedsTextRow, standIns := [], harness := (true, "d658ee0c9e8b6f77d8e3d8799e9703a99b301f528079f5fd6709e4bf0193a4eb"), looks := false }, kinds := [], alts := [], laidByText := true, laidKinds := [.data, .data, .data], laidTests := true, laidLooks := .later }
def FnExactNeedsTextCardSaid : Prop := Claim7.holds Tryd.pinned (.plain (OpenSpec.ofChange fnExactNeedsTextSpec)) fnExactNeedsTextCard

/-- THE TIED CARD OF 'laws.FnNeedsText'. -/
def fnNeedsTextCard : Claim7 := { stood := { row := fnNeedsTextRow, standIns := [], harness := (true, "d658ee0c9e8b6f77d8e3d8799e9703a99b301f528079f5fd6709e4bf0193a4eb"), looks := false }, kinds := [], alts := [], laidByText := true, laidKinds := [.data, .data, .data], laidTests := true, laidLooks := .later }
def FnNeedsTextCardSaid : Prop := Claim7.holds Tryd.pinned (.plain (OpenSpec.ofChange fnNeedsTextSpec)) fnNeedsTextCard

/-- THE TIED CARD OF 'laws.FnExactMatrixText'. -/
def fnExactMatrixTextCard : Claim7 := { stood := { row := fnExactMatrixTextRow, standIns := [], harness := (true, "d658ee0c9e8b6f77d8e3d8799e9703a99b301f528079f5fd6709e4bf0193a4eb"), looks := false }, kinds := [], alts := [], laidByText := true, laidKinds := [.data, .data, .data, .data, .pinned], laidTests := true, laidLooks := .later }
def FnExactMatrixTextCardSaid : Prop := Claim7.holds Tryd.pinned (.plain (OpenSpec.ofChange fnExactMatrixTextSpec)) fnExactMatrixTextCard

/-- THE TIED CARD OF 'laws.FnExactReadMatrix'. -/
def fnExactReadMatrixCard : Claim7 := { stood := { row := fnExactReadMatrixRow, standIns := [], harness := (true, "d658ee0c9e8b6f77d8e3d8799e9703a99b301f528079f5fd6709e4bf0193a4eb"), looks := false }, kinds := [], alts := [], laidByText := true, laidKinds := [.data, .data, .data, .data, .pinned], laidTests := true, laidLooks := .later }
def FnExactReadMatrixCardSaid : Prop := Claim7.holds Tryd.pinned (.plain (OpenSpec.ofChange fnExactReadMatrixSpec)) fnExactReadMatrixCard

/-- THE TIED CARD OF 'laws.FnMatrixText'. -/
def fnMatrixTextCard : Claim7 := { stood := { row := fnMatrixTextRow, standIns := [], harness := (true, "d658ee0c9e8b6f77d8e3d8799e9703a99b301f528079f5fd6709e4bf0193a4eb"), looks := false }, kinds := [], alts := [], laidByText := true, laidKinds := [.data, .data, .data, .data, .pinned], laidTests := true, laidLooks := .later }
def FnMatrixTextCardSaid : Prop := Claim7.holds Tryd.pinned (.plain (OpenSpec.ofChange fnMatrixTextSpec)) fnMatrixTextCard

/-- THE TIED CARD OF 'laws.FnReadMatrix'. -/
def fnReadMatrixCard : Claim7 := { stood := { row := fnReadMatrixRow, standIns := [], harness := (true, "d658ee0c9e8b6f77d8e3d8799e9703a99b301f528079f5fd6709e4bf0193a4eb"), looks := false }, kinds := [], alts := [], laidByText := true, laidKinds := [.data, .data, .data, .data, .pinned], laidTests := true, laidLooks := .later }
def FnReadMatrixCardSaid : Prop := Claim7.holds Tryd.pinned (.plain (OpenSpec.ofChange fnReadMatrixSpec)) fnReadMatrixCard

/-- THE SECOND FORM's CARD OF 'laws.FnExactNeedsText'. -/
def fnExactNeedsTextUptoCard : Claim7 := { stood := { row := fnExactNeedsTextUptoRow, standIns := [], harness := (true, "d658ee0c9e8b6f77d8e3d8799e9703a99b301f528079f5fd6709e4bf0193a4eb"), looks := false }, kinds := [], alts := [], laidByText := true, laidKinds := [.data, .data, .data], laidTests := true, laidLooks := .later }
def FnExactNeedsTextUptoCardSaid : Prop := Claim7.holds Tryd.pinned (.plain (OpenSpec.upto fnExactNeedsTextSpec)) fnExactNeedsTextUptoCard

/-- THE SECOND FORM's CARD OF 'laws.FnNeedsText'. -/
def fnNeedsTextUptoCard : Claim7 := { stood := { row := fnNeedsTextUptoRow, standIns := [], harness := (true, "d658ee0c9e8b6f77d8e3d8799e9703a99b301f528079f5fd6709e4bf0193a4eb"), looks := false }, kinds := [], alts := [], laidByText := true, laidKinds := [.data, .data, .data], laidTests := true, laidLooks := .later }
def FnNeedsTextUptoCardSaid : Prop := Claim7.holds Tryd.pinned (.plain (OpenSpec.upto fnNeedsTextSpec)) fnNeedsTextUptoCard

/-- THE SECOND FORM's CARD OF 'laws.FnExactMatrixText'. -/
def fnExactMatrixTextUptoCard : Claim7 := { stood := { row := fnExactMatrixTextUptoRow, standIns := [], harness := (true, "d658ee0c9e8b6f77d8e3d8799e9703a99b301f528079f5fd6709e4bf0193a4eb"), looks := false }, kinds := [], alts := [], laidByText := true, laidKinds := [.data, .data, .data, .data, .pinned], laidTests := true, laidLooks := .later }
def FnExactMatrixTextUptoCardSaid : Prop := Claim7.holds Tryd.pinned (.plain (OpenSpec.upto fnExactMatrixTextSpec)) fnExactMatrixTextUptoCard

/-- THE SECOND FORM's CARD OF 'laws.FnExactReadMatrix'. -/
def fnExactReadMatrixUptoCard : Claim7 := { stood := { row := fnExactReadMatrixUptoRow, standIns := [], harness := (true, "d658ee0c9e8b6f77d8e3d8799e9703a99b301f528079f5fd6709e4bf0193a4eb"), looks := false }, kinds := [], alts := [], laidByText := true, laidKinds := [.data, .data, .data, .data, .pinned], laidTests := true, laidLooks := .later }
def FnExactReadMatrixUptoCardSaid : Prop := Claim7.holds Tryd.pinned (.plain (OpenSpec.upto fnExactReadMatrixSpec)) fnExactReadMatrixUptoCard

/-- THE SECOND FORM's CARD OF 'laws.FnMatrixText'. -/
def fnMatrixTextUptoCard : Claim7 := { stood := { row := fnMatrixTextUptoRow, standIns := [], harness := (true, "d658ee0c9e8b6f77d8e3d8799e9703a99b301f528079f5fd6709e4bf0193a4eb"), looks := false }, kinds := [], alts := [], laidByText := true, laidKinds := [.data, .data, .data, .data, .pinned], laidTests := true, laidLooks := .later }
def FnMatrixTextUptoCardSaid : Prop := Claim7.holds Tryd.pinned (.plain (OpenSpec.upto fnMatrixTextSpec)) fnMatrixTextUptoCard

/-- THE SECOND FORM's CARD OF 'laws.FnReadMatrix'. -/
def fnReadMatrixUptoCard : Claim7 := { stood := { row := fnReadMatrixUptoRow, standIns := [], harness := (true, "d658ee0c9e8b6f77d8e3d8799e9703a99b301f528079f5fd6709e4bf0193a4eb"), looks := false }, kinds := [], alts := [], laidByText := true, laidKinds := [.data, .data, .data, .data, .pinned], laidTests := true, laidLooks := .later }
def FnReadMatrixUptoCardSaid : Prop := Claim7.holds Tryd.pinned (.plain (OpenSpec.upto fnReadMatrixSpec)) fnReadMatrixUptoCard
end Rows
end Go.Proofs.YtcmgnnfkgkibgaaDoor
