/-
  DERIVED. GIVEN WITH THE SEED: THE CARDS: each row of YtjlcdfpbllobaaaGreatDoorRows.lean that lists a variable, with what it lists TIED to the program's text (the seventh form; the later family's looks); each row that meets fmt, with fmt's text TOLD by the authors' own Lean function (tested against real Go, not proved from fmt's source: count such statements apart). THE CARD IS WHAT COUNTS. Prove the row's statement (the work); the ties are given (YtjlcdfpbllobaaaGreatDoorTie.lean); close each card by the builder's one call (the guide's Derived/Test/ToyasCard.lean, 'card_holds'). Laid BY PROGRAM, IN A SANDBOX (cutbox-door.mjs). By AI agents, Wed Nov 11 2026. No macro, syntax, notation, axiom, sorry.
-/
import Derived.Test.YtjlcdfpbllobaaaGreatDoorRows
import GoSem.ClaimSeven
namespace Go.Proofs.YtjlcdfpbllobaaaGreatDoor
namespace Rows

/-- THE TIED CARD OF 'annalistlaw34.AuditTell'. -/
def auditTellCard : Claim7 := { stood := { row := auditTellRow, standIns := [], harness := (true, "50d8bf892f32c5c0b498543c8deaa52f10e74bf4dd76e3573aa0ccbd6c977892"), looks := true }, kinds := [], alts := [], laidByText := true, laidKinds := [.data, .pinned], laidTests := true, laidLooks := .later }
def AuditTellCardSaid : Prop := Claim7.holds Tryz.pinned (.plain (OpenSpec.ofChange auditTellSpec)) auditTellCard

/-- THE TIED CARD OF 'annalistlaw34.AuditNone'. -/
def auditNoneCard : Claim7 := { stood := { row := auditNoneRow, standIns := [], harness := (true, "50d8bf892f32c5c0b498543c8deaa52f10e74bf4dd76e3573aa0ccbd6c977892"), looks := true }, kinds := [], alts := [], laidByText := true, laidKinds := [.data, .pinned], laidTests := true, laidLooks := .later }
def AuditNoneCardSaid : Prop := Claim7.holds Tryz.pinned (.plain (OpenSpec.ofChange auditNoneSpec)) auditNoneCard

/-- THE TIED CARD OF 'annalistlaw36.WritersPlay'. -/
def writersPlayCard : Claim7 := { stood := { row := writersPlayRow, standIns := [], harness := (true, "50d8bf892f32c5c0b498543c8deaa52f10e74bf4dd76e3573aa0ccbd6c977892"), looks := true }, kinds := [], alts := [], laidByText := true, laidKinds := [.data, .pinned], laidTests := true, laidLooks := .later }
def WritersPlayCardSaid : Prop := Claim7.holds Tryz.pinned (.plain (OpenSpec.ofChange writersPlaySpec)) writersPlayCard

/-- THE TIED CARD OF 'annalistlaw34.AuditQuiet'. -/
def auditQuietCard : Claim7 := { stood := { row := auditQuietRow, standIns := [], harness := (true, "50d8bf892f32c5c0b498543c8deaa52f10e74bf4dd76e3573aa0ccbd6c977892"), looks := true }, kinds := [], alts := [], laidByText := true, laidKinds := [.data, .pinned], laidTests := true, laidLooks := .later }
def AuditQuietCardSaid : Prop := Claim7.holds Tryz.pinned (.plain (OpenSpec.ofChange auditQuietSpec)) auditQuietCard

/-- THE TIED CARD OF 'annalistlaw31.CursorsAll'. -/
def cursorsAllCard : Claim7 := { stood := { row := cursorsAllRow, standIns := [], harness := (true, "50d8bf892f32c5c0b498543c8deaa52f10e74bf4dd76e3573aa0ccbd6c977892"), looks := true }, kinds := [], alts := [], laidByText := true, laidKinds := [.data, .data, .data, .data, .pinned], laidTests := true, laidLooks := .later }
def CursorsAllCardSaid : Prop := Claim7.holds Tryz.pinned (.plain (OpenSpec.ofChange cursorsAllSpec)) cursorsAllCard

/-- THE SECOND FORM's CARD OF 'annalistlaw34.AuditTell'. -/
def auditTellUptoCard : Claim7 := { stood := { row := auditTellUptoRow, standIns := [], harness := (true, "50d8bf892f32c5c0b498543c8deaa52f10e74bf4dd76e3573aa0ccbd6c977892"), looks := true }, kinds := [], alts := [], laidByText := true, laidKinds := [.data, .pinned], laidTests := true, laidLooks := .later }
def AuditTellUptoCardSaid : Prop := Claim7.holds Tryz.pinned (.plain (OpenSpec.upto auditTellSpec)) auditTellUptoCard

/-- THE SECOND FORM's CARD OF 'annalistlaw34.AuditNone'. -/
def auditNoneUptoCard : Claim7 := { stood := { row := auditNoneUptoRow, standIns := [], harness := (true, "50d8bf892f32c5c0b498543c8deaa52f10e74bf4dd76e3573aa0ccbd6c977892"), looks := true }, kinds := [], alts := [], laidByText := true, laidKinds := [.data, .pinned], laidTests := true, laidLooks := .later }
def AuditNoneUptoCardSaid : Prop := Claim7.holds Tryz.pinned (.plain (OpenSpec.upto auditNoneSpec)) auditNoneUptoCard

/-- THE SECOND FORM's CARD OF 'annalistlaw36.WritersPlay'. -/
def writersPlayUptoCard : Claim7 := { stood := { row := writersPlayUptoRow, standIns := [], harness := (true, "50d8bf892f32c5c0b498543c8deaa52f10e74bf4dd76e3573aa0ccbd6c977892"), looks := true }, kinds := [], alts := [], laidByText := true, laidKinds := [.data, .pinned], laidTests := true, laidLooks := .later }
def WritersPlayUptoCardSaid : Prop := Claim7.holds Tryz.pinned (.plain (OpenSpec.upto writersPlaySpec)) writersPlayUptoCard

/-- THE SECOND FORM's CARD OF 'annalistlaw34.AuditQuiet'. -/
def auditQuietUptoCard : Claim7 := { stood := { row := auditQuietUptoRow, standIns := [], harness := (true, "50d8bf892f32c5c0b498543c8deaa52f10e74bf4dd76e3573aa0ccbd6c977892"), looks := true }, kinds := [], alts := [], laidByText := true, laidKinds := [.data, .pinned], laidTests := true, laidLooks := .later }
def AuditQuietUptoCardSaid : Prop := Claim7.holds Tryz.pinned (.plain (OpenSpec.upto auditQuietSpec)) auditQuietUptoCard

/-- THE SECOND FORM's CARD OF 'annalistlaw31.CursorsAll'. -/
def cursorsAllUptoCard : Claim7 := { stood := { row := cursorsAllUptoRow, standIns := [], harness := (true, "50d8bf892f32c5c0b498543c8deaa52f10e74bf4dd76e3573aa0ccbd6c977892"), looks := true }, kinds := [], alts := [], laidByText := true, laidKinds := [.data, .data, .data, .data, .pinned], laidTests := true, laidLooks := .later }
def CursorsAllUptoCardSaid : Prop := Claim7.holds Tryz.pinned (.plain (OpenSpec.upto cursorsAllSpec)) cursorsAllUptoCard
end Rows
end Go.Proofs.YtjlcdfpbllobaaaGreatDoor
