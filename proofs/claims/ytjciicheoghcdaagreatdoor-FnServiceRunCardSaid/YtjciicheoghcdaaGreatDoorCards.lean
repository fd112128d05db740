/-
  DERIVED. GIVEN WITH THE SEED: THE CARDS: each row of YtjciicheoghcdaaGreatDoorRows.lean that lists a variable, with what it lists TIED to the program's text (the seventh form; the later family's looks); each row that meets fmt, with fmt's text TOLD by the authors' own Lean function (tested against real Go, not proved from fmt's source: count such statements apart). THE CARD IS WHAT COUNTS. Prove the row's statement (the work); the ties are given (YtjciicheoghcdaaGreatDoorTie.lean); close each card by the builder's one call (the guide's Derived/Test/ToyasCard.lean, 'card_holds'). Laid BY PROGRAM, IN A SANDBOX (cutbox-door.mjs). By AI agents, Wed Nov 11 2026. No macro, syntax, notation, axiom, sorry.
-/
import Derived.Test.YtjciicheoghcdaaGreatDoorRows
import GoSem.ClaimSeven
namespace Go.Proofs.YtjciicheoghcdaaGreatDoor
namespace Rows

/-- THE TIED CARD OF 'laws.FnServiceAnswer'. -/
def fnServiceAnswerCard : Claim7 := { stood := { row := fnServiceAnswerRow, standIns := [], harness := (true, "6c68d69fcda5eac6a2a59521028d3dbab1bb753bfe8376e311572524cb12b677"), looks := false }, kinds := [], alts := [], laidByText := true, laidKinds := [.data, .data, .data, .data, .pinned], laidTests := true, laidLooks := .later }
def FnServiceAnswerCardSaid : Prop := Claim7.holds Tryz.pinned (.plain (OpenSpec.ofChange fnServiceAnswerSpec)) fnServiceAnswerCard

/-- THE TIED CARD OF 'laws.FnExactServiceLine'. -/
def fnExactServiceLineCard : Claim7 := { stood := { row := fnExactServiceLineRow, standIns := [], harness := (true, "6c68d69fcda5eac6a2a59521028d3dbab1bb753bfe8376e311572524cb12b677"), looks := false }, kinds := [], alts := [], laidByText := true, laidKinds := [.data, .data, .data, .data, .pinned], laidTests := true, laidLooks := .later }
def FnExactServiceLineCardSaid : Prop := Claim7.holds Tryz.pinned (.plain (OpenSpec.ofChange fnExactServiceLineSpec)) fnExactServiceLineCard

/-- THE TIED CARD OF 'laws.FnExactServiceRun'. -/
def fnExactServiceRunCard : Claim7 := { stood := { row := fnExactServiceRunRow, standIns := [], harness := (true, "6c68d69fcda5eac6a2a59521028d3dbab1bb753bfe8376e311572524cb12b677"), looks := false }, kinds := [], alts := [], laidByText := true, laidKinds := [.data, .data, .data, .data, .pinned], laidTests := true, laidLooks := .later }
def FnExactServiceRunCardSaid : Prop := Claim7.holds Tryz.pinned (.plain (OpenSpec.ofChange fnExactServiceRunSpec)) fnExactServiceRunCard

/-- THE TIED CARD OF 'laws.FnServiceLine'. -/
def fnServiceLineCard : Claim7 := { stood := { row := fnServiceLineRow, standIns := [], harness := (true, "6c68d69fcda5eac6a2a59521028d3dbab1bb753bfe8376e311572524cb12b677"), looks := false }, kinds := [], alts := [], laidByText := true, laidKinds := [.data, .data, .data, .data, .pinned], laidTests := true, laidLooks := .later }
def FnServiceLineCardSaid : Prop := Claim7.holds Tryz.pinned (.plain (OpenSpec.ofChange fnServiceLineSpec)) fnServiceLineCard

/-- THE TIED CARD OF 'laws.FnServiceRun'. -/
def fnServiceRunCard : Claim7 := { stood := { row := fnServiceRunRow, standIns := [], harness := (true, "6c68d69fcda5eac6a2a59521028d3dbab1bb753bfe8376e311572524cb12b677"), looks := false }, kinds := [], alts := [], laidByText := true, laidKinds := [.data, .data, .data, .data, .pinned], laidTests := true, laidLooks := .later }
def FnServiceRunCardSaid : Prop := Claim7.holds Tryz.pinned (.plain (OpenSpec.ofChange fnServiceRunSpec)) fnServiceRunCard

/-- THE SECOND FORM's CARD OF 'laws.FnServiceAnswer'. -/
def fnServiceAnswerUptoCard : Claim7 := { stood := { row := fnServiceAnswerUptoRow, standIns := [], harness := (true, "6c68d69fcda5eac6a2a59521028d3dbab1bb753bfe8376e311572524cb12b677"), looks := false }, kinds := [], alts := [], laidByText := true, laidKinds := [.data, .data, .data, .data, .pinned], laidTests := true, laidLooks := .later }
def FnServiceAnswerUptoCardSaid : Prop := Claim7.holds Tryz.pinned (.plain (OpenSpec.upto fnServiceAnswerSpec)) fnServiceAnswerUptoCard

/-- THE SECOND FORM's CARD OF 'laws.FnExactServiceLine'. -/
def fnExactServiceLineUptoCard : Claim7 := { stood := { row := fnExactServiceLineUptoRow, standIns := [], harness := (true, "6c68d69fcda5eac6a2a59521028d3dbab1bb753bfe8376e311572524cb12b677"), looks := false }, kinds := [], alts := [], laidByText := true, laidKinds := [.data, .data, .data, .data, .pinned], laidTests := true, laidLooks := .later }
def FnExactServiceLineUptoCardSaid : Prop := Claim7.holds Tryz.pinned (.plain (OpenSpec.upto fnExactServiceLineSpec)) fnExactServiceLineUptoCard

/-- THE SECOND FORM's CARD OF 'laws.FnExactServiceRun'. -/
def fnExactServiceRunUptoCard : Claim7 := { stood := { row := fnExactServiceRunUptoRow, standIns := [], harness := (true, "6c68d69fcda5eac6a2a59521028d3dbab1bb753bfe8376e311572524cb12b677"), looks := false }, kinds := [], alts := [], laidByText := true, laidKinds := [.data, .data, .data, .data, .pinned], laidTests := true, laidLooks := .later }
def FnExactServiceRunUptoCardSaid : Prop := Claim7.holds Tryz.pinned (.plain (OpenSpec.upto fnExactServiceRunSpec)) fnExactServiceRunUptoCard

/-- THE SECOND FORM's CARD OF 'laws.FnServiceLine'. -/
def fnServiceLineUptoCard : Claim7 := { stood := { row := fnServiceLineUptoRow, standIns := [], harness := (true, "6c68d69fcda5eac6a2a59521028d3dbab1bb753bfe8376e311572524cb12b677"), looks := false }, kinds := [], alts := [], laidByText := true, laidKinds := [.data, .data, .data, .data, .pinned], laidTests := true, laidLooks := .later }
def FnServiceLineUptoCardSaid : Prop := Claim7.holds Tryz.pinned (.plain (OpenSpec.upto fnServiceLineSpec)) fnServiceLineUptoCard

/-- THE SECOND FORM's CARD OF 'laws.FnServiceRun'. -/
def fnServiceRunUptoCard : Claim7 := { stood := { row := fnServiceRunUptoRow, standIns := [], harness := (true, "6c68d69fcda5eac6a2a59521028d3dbab1bb753bfe8376e311572524cb12b677"), looks := false }, kinds := [], alts := [], laidByText := true, laidKinds := [.data, .data, .data, .data, .pinned], laidTests := true, laidLooks := .later }
def FnServiceRunUptoCardSaid : Prop := Claim7.holds Tryz.pinned (.plain (OpenSpec.upto fnServiceRunSpec)) fnServiceRunUptoCard
end Rows
end Go.Proofs.YtjciicheoghcdaaGreatDoor
