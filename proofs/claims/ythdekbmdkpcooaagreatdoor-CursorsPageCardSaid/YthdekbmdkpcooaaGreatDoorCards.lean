/-
  DERIVED. GIVEN WITH THE SEED: THE CARDS: each row of YthdekbmdkpcooaaGreatDoorRows.lean that lists a variable, with what it lists TIED to the program's text (the seventh form; the later family's looks); each row that meets fmt, with fmt's text TOLD by the authors' own Lean function (tested against real Go, not proved from fmt's source: count such statements apart). THE CARD IS WHAT COUNTS. Prove the row's statement (the work); the ties are given (YthdekbmdkpcooaaGreatDoorTie.lean); close each card by the builder's one call (the guide's Derived/Test/ToyasCard.lean, 'card_holds'). Laid BY PROGRAM, IN A SANDBOX (cutbox-door.mjs). By AI agents, Wed Nov 11 2026. No macro, syntax, notation, axiom, sorry.
-/
import Derived.Test.YthdekbmdkpcooaaGreatDoorRows
import GoSem.ClaimSeven
namespace Go.Proofs.YthdekbmdkpcooaaGreatDoor
namespace Rows

/-- THE TIED CARD OF 'annalistlaw36.WritersPlay'. -/
def writersPlayCard : Claim7 := { stood := { row := writersPlayRow, standIns := [], harness := (true, "efe17910e9b965bd312cb5cfd5d645c56da05ab34dd0696461edc49f2bbd54e1"), looks := true }, kinds := [], alts := [], laidByText := true, laidKinds := [.data, .pinned], laidTests := true, laidLooks := .later }
def WritersPlayCardSaid : Prop := Claim7.holds Tryz.pinned (.plain (OpenSpec.ofChange writersPlaySpec)) writersPlayCard

/-- THE TIED CARD OF 'annalistlaw31.CursorsText'. -/
def cursorsTextCard : Claim7 := { stood := { row := cursorsTextRow, standIns := [], harness := (true, "efe17910e9b965bd312cb5cfd5d645c56da05ab34dd0696461edc49f2bbd54e1"), looks := true }, kinds := [], alts := [], laidByText := true, laidKinds := [.data, .data, .data, .data, .pinned], laidTests := true, laidLooks := .later }
def CursorsTextCardSaid : Prop := Claim7.holds Tryz.pinned (.plain (OpenSpec.ofChange cursorsTextSpec)) cursorsTextCard

/-- THE TIED CARD OF 'annalistlaw31.CursorsPage'. -/
def cursorsPageCard : Claim7 := { stood := { row := cursorsPageRow, standIns := [], harness := (true, "efe17910e9b965bd312cb5cfd5d645c56da05ab34dd0696461edc49f2bbd54e1"), looks := true }, kinds := [], alts := [], laidByText := true, laidKinds := [.data, .data, .data, .data, .pinned], laidTests := true, laidLooks := .later }
def CursorsPageCardSaid : Prop := Claim7.holds Tryz.pinned (.plain (OpenSpec.ofChange cursorsPageSpec)) cursorsPageCard

/-- THE TIED CARD OF 'annalistlaw31.CursorsAll'. -/
def cursorsAllCard : Claim7 := { stood := { row := cursorsAllRow, standIns := [], harness := (true, "efe17910e9b965bd312cb5cfd5d645c56da05ab34dd0696461edc49f2bbd54e1"), looks := true }, kinds := [], alts := [], laidByText := true, laidKinds := [.data, .data, .data, .data, .pinned], laidTests := true, laidLooks := .later }
def CursorsAllCardSaid : Prop := Claim7.holds Tryz.pinned (.plain (OpenSpec.ofChange cursorsAllSpec)) cursorsAllCard

/-- THE SECOND FORM's CARD OF 'annalistlaw36.WritersPlay'. -/
def writersPlayUptoCard : Claim7 := { stood := { row := writersPlayUptoRow, standIns := [], harness := (true, "efe17910e9b965bd312cb5cfd5d645c56da05ab34dd0696461edc49f2bbd54e1"), looks := true }, kinds := [], alts := [], laidByText := true, laidKinds := [.data, .pinned], laidTests := true, laidLooks := .later }
def WritersPlayUptoCardSaid : Prop := Claim7.holds Tryz.pinned (.plain (OpenSpec.upto writersPlaySpec)) writersPlayUptoCard

/-- THE SECOND FORM's CARD OF 'annalistlaw31.CursorsText'. -/
def cursorsTextUptoCard : Claim7 := { stood := { row := cursorsTextUptoRow, standIns := [], harness := (true, "efe17910e9b965bd312cb5cfd5d645c56da05ab34dd0696461edc49f2bbd54e1"), looks := true }, kinds := [], alts := [], laidByText := true, laidKinds := [.data, .data, .data, .data, .pinned], laidTests := true, laidLooks := .later }
def CursorsTextUptoCardSaid : Prop := Claim7.holds Tryz.pinned (.plain (OpenSpec.upto cursorsTextSpec)) cursorsTextUptoCard

/-- THE SECOND FORM's CARD OF 'annalistlaw31.CursorsPage'. -/
def cursorsPageUptoCard : Claim7 := { stood := { row := cursorsPageUptoRow, standIns := [], harness := (true, "efe17910e9b965bd312cb5cfd5d645c56da05ab34dd0696461edc49f2bbd54e1"), looks := true }, kinds := [], alts := [], laidByText := true, laidKinds := [.data, .data, .data, .data, .pinned], laidTests := true, laidLooks := .later }
def CursorsPageUptoCardSaid : Prop := Claim7.holds Tryz.pinned (.plain (OpenSpec.upto cursorsPageSpec)) cursorsPageUptoCard

/-- THE SECOND FORM's CARD OF 'annalistlaw31.CursorsAll'. -/
def cursorsAllUptoCard : Claim7 := { stood := { row := cursorsAllUptoRow, standIns := [], harness := (true, "efe17910e9b965bd312cb5cfd5d645c56da05ab34dd0696461edc49f2bbd54e1"), looks := true }, kinds := [], alts := [], laidByText := true, laidKinds := [.data, .data, .data, .data, .pinned], laidTests := true, laidLooks := .later }
def CursorsAllUptoCardSaid : Prop := Claim7.holds Tryz.pinned (.plain (OpenSpec.upto cursorsAllSpec)) cursorsAllUptoCard
end Rows
end Go.Proofs.YthdekbmdkpcooaaGreatDoor
