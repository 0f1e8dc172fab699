/-
  DERIVED. GIVEN WITH THE SEED: THE CARDS: each row of YteabhdclmodefaaGreatDoorRows.lean that lists a variable, with what it lists TIED to the program's text (the seventh form; the later family's looks); each row that meets fmt, with fmt's text TOLD by the authors' own Lean function (tested against real Go, not proved from fmt's source: count such statements apart). THE CARD IS WHAT COUNTS. Prove the row's statement (the work); the ties are given (YteabhdclmodefaaGreatDoorTie.lean); close each card by the builder's one call (the guide's Derived/Test/ToyasCard.lean, 'card_holds'). Laid BY PROGRAM, IN A SANDBOX (cutbox-door.mjs). By AI agents, Wed Nov 11 2026. No macro, syntax, notation, axiom, sorry.
-/
import Derived.Test.YteabhdclmodefaaGreatDoorRows
import GoSem.ClaimSeven
namespace Go.Proofs.YteabhdclmodefaaGreatDoor
namespace Rows

/-- THE TIED CARD OF 'annalistlaw35.CopiesText'. -/
def copiesTextCard : Claim7 := { stood := { row := copiesTextRow, standIns := [], harness := (true, "89555c0722c3d7e88455b0ea11f1ca722445ce01484707fac752646876d21b7d"), looks := false }, kinds := [], alts := [], laidByText := true, laidKinds := [.data, .pinned], laidTests := true, laidLooks := .later }
def CopiesTextCardSaid : Prop := Claim7.holds Tryz.pinned (.plain (OpenSpec.ofChange copiesTextSpec)) copiesTextCard

/-- THE TIED CARD OF 'annalistlaw35.CopiesNone'. -/
def copiesNoneCard : Claim7 := { stood := { row := copiesNoneRow, standIns := [], harness := (true, "89555c0722c3d7e88455b0ea11f1ca722445ce01484707fac752646876d21b7d"), looks := false }, kinds := [], alts := [], laidByText := true, laidKinds := [.data, .pinned], laidTests := true, laidLooks := .later }
def CopiesNoneCardSaid : Prop := Claim7.holds Tryz.pinned (.plain (OpenSpec.ofChange copiesNoneSpec)) copiesNoneCard

/-- THE TIED CARD OF 'annalistlaw35.CopiesTorn'. -/
def copiesTornCard : Claim7 := { stood := { row := copiesTornRow, standIns := [], harness := (true, "89555c0722c3d7e88455b0ea11f1ca722445ce01484707fac752646876d21b7d"), looks := false }, kinds := [], alts := [], laidByText := true, laidKinds := [.data, .pinned], laidTests := true, laidLooks := .later }
def CopiesTornCardSaid : Prop := Claim7.holds Tryz.pinned (.plain (OpenSpec.ofChange copiesTornSpec)) copiesTornCard

/-- THE TIED CARD OF 'annalistlaw34.AuditFinds'. -/
def auditFindsCard : Claim7 := { stood := { row := auditFindsRow, standIns := [], harness := (true, "89555c0722c3d7e88455b0ea11f1ca722445ce01484707fac752646876d21b7d"), looks := false }, kinds := [], alts := [], laidByText := true, laidKinds := [.data, .pinned], laidTests := true, laidLooks := .later }
def AuditFindsCardSaid : Prop := Claim7.holds Tryz.pinned (.plain (OpenSpec.ofChange auditFindsSpec)) auditFindsCard

/-- THE TIED CARD OF 'annalistlaw35.CopiesSame'. -/
def copiesSameCard : Claim7 := { stood := { row := copiesSameRow, standIns := [], harness := (true, "89555c0722c3d7e88455b0ea11f1ca722445ce01484707fac752646876d21b7d"), looks := false }, kinds := [], alts := [], laidByText := true, laidKinds := [.data, .pinned], laidTests := true, laidLooks := .later }
def CopiesSameCardSaid : Prop := Claim7.holds Tryz.pinned (.plain (OpenSpec.ofChange copiesSameSpec)) copiesSameCard

/-- THE SECOND FORM's CARD OF 'annalistlaw35.CopiesText'. -/
def copiesTextUptoCard : Claim7 := { stood := { row := copiesTextUptoRow, standIns := [], harness := (true, "89555c0722c3d7e88455b0ea11f1ca722445ce01484707fac752646876d21b7d"), looks := false }, kinds := [], alts := [], laidByText := true, laidKinds := [.data, .pinned], laidTests := true, laidLooks := .later }
def CopiesTextUptoCardSaid : Prop := Claim7.holds Tryz.pinned (.plain (OpenSpec.upto copiesTextSpec)) copiesTextUptoCard

/-- THE SECOND FORM's CARD OF 'annalistlaw35.CopiesNone'. -/
def copiesNoneUptoCard : Claim7 := { stood := { row := copiesNoneUptoRow, standIns := [], harness := (true, "89555c0722c3d7e88455b0ea11f1ca722445ce01484707fac752646876d21b7d"), looks := false }, kinds := [], alts := [], laidByText := true, laidKinds := [.data, .pinned], laidTests := true, laidLooks := .later }
def CopiesNoneUptoCardSaid : Prop := Claim7.holds Tryz.pinned (.plain (OpenSpec.upto copiesNoneSpec)) copiesNoneUptoCard

/-- THE SECOND FORM's CARD OF 'annalistlaw35.CopiesTorn'. -/
def copiesTornUptoCard : Claim7 := { stood := { row := copiesTornUptoRow, standIns := [], harness := (true, "89555c0722c3d7e88455b0ea11f1ca722445ce01484707fac752646876d21b7d"), looks := false }, kinds := [], alts := [], laidByText := true, laidKinds := [.data, .pinned], laidTests := true, laidLooks := .later }
def CopiesTornUptoCardSaid : Prop := Claim7.holds Tryz.pinned (.plain (OpenSpec.upto copiesTornSpec)) copiesTornUptoCard

/-- THE SECOND FORM's CARD OF 'annalistlaw34.AuditFinds'. -/
def auditFindsUptoCard : Claim7 := { stood := { row := auditFindsUptoRow, standIns := [], harness := (true, "89555c0722c3d7e88455b0ea11f1ca722445ce01484707fac752646876d21b7d"), looks := false }, kinds := [], alts := [], laidByText := true, laidKinds := [.data, .pinned], laidTests := true, laidLooks := .later }
def AuditFindsUptoCardSaid : Prop := Claim7.holds Tryz.pinned (.plain (OpenSpec.upto auditFindsSpec)) auditFindsUptoCard

/-- THE SECOND FORM's CARD OF 'annalistlaw35.CopiesSame'. -/
def copiesSameUptoCard : Claim7 := { stood := { row := copiesSameUptoRow, standIns := [], harness := (true, "89555c0722c3d7e88455b0ea11f1ca722445ce01484707fac752646876d21b7d"), looks := false }, kinds := [], alts := [], laidByText := true, laidKinds := [.data, .pinned], laidTests := true, laidLooks := .later }
def CopiesSameUptoCardSaid : Prop := Claim7.holds Tryz.pinned (.plain (OpenSpec.upto copiesSameSpec)) copiesSameUptoCard
end Rows
end Go.Proofs.YteabhdclmodefaaGreatDoor
