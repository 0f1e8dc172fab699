/-
  DERIVED. GIVEN WITH THE SEED: THE CARDS: each row of YtfiibpgoplcgkaaGreatDoorRows.lean that lists a variable, with what it lists TIED to the program's text (the seventh form; the later family's looks); each row that meets fmt, with fmt's text TOLD by the authors' own Lean function (tested against real Go, not proved from fmt's source: count such statements apart). THE CARD IS WHAT COUNTS. Prove the row's statement (the work); the ties are given (YtfiibpgoplcgkaaGreatDoorTie.lean); close each card by the builder's one call (the guide's Derived/Test/ToyasCard.lean, 'card_holds'). Laid BY PROGRAM, IN A SANDBOX (cutbox-door.mjs). By AI agents, Wed Nov 11 2026. No macro, syntax, notation, axiom, sorry.
-/
import Derived.Test.YtfiibpgoplcgkaaGreatDoorRows
import GoSem.ClaimSeven
namespace Go.Proofs.YtfiibpgoplcgkaaGreatDoor
namespace Rows

/-- THE TIED CARD OF 'annalistlaw26.StoreReads'. -/
def storeReadsCard : Claim7 := { stood := { row := storeReadsRow, standIns := [], harness := (true, "50edd149563e5addbd091b1b42e2edfbcb117439e82f28384bd785cd85a6ed25"), looks := true }, kinds := [], alts := [], laidByText := true, laidKinds := [.data, .pinned], laidTests := true, laidLooks := .later }
def StoreReadsCardSaid : Prop := Claim7.holds Tryz.pinned (.plain (OpenSpec.ofChange storeReadsSpec)) storeReadsCard

/-- THE TIED CARD OF 'annalistlaw34.AuditFinds'. -/
def auditFindsCard : Claim7 := { stood := { row := auditFindsRow, standIns := [], harness := (true, "50edd149563e5addbd091b1b42e2edfbcb117439e82f28384bd785cd85a6ed25"), looks := true }, kinds := [], alts := [], laidByText := true, laidKinds := [.data, .pinned], laidTests := true, laidLooks := .later }
def AuditFindsCardSaid : Prop := Claim7.holds Tryz.pinned (.plain (OpenSpec.ofChange auditFindsSpec)) auditFindsCard

/-- THE TIED CARD OF 'annalistlaw30.WorldsSure'. -/
def worldsSureCard : Claim7 := { stood := { row := worldsSureRow, standIns := [], harness := (true, "50edd149563e5addbd091b1b42e2edfbcb117439e82f28384bd785cd85a6ed25"), looks := true }, kinds := [], alts := [], laidByText := true, laidKinds := [.data, .pinned], laidTests := true, laidLooks := .later }
def WorldsSureCardSaid : Prop := Claim7.holds Tryz.pinned (.plain (OpenSpec.ofChange worldsSureSpec)) worldsSureCard

/-- THE TIED CARD OF 'annalistlaw35.CopiesSame'. -/
def copiesSameCard : Claim7 := { stood := { row := copiesSameRow, standIns := [], harness := (true, "50edd149563e5addbd091b1b42e2edfbcb117439e82f28384bd785cd85a6ed25"), looks := true }, kinds := [], alts := [], laidByText := true, laidKinds := [.data, .pinned], laidTests := true, laidLooks := .later }
def CopiesSameCardSaid : Prop := Claim7.holds Tryz.pinned (.plain (OpenSpec.ofChange copiesSameSpec)) copiesSameCard

/-- THE TIED CARD OF 'annalistlaw30.WorldsNone'. -/
def worldsNoneCard : Claim7 := { stood := { row := worldsNoneRow, standIns := [], harness := (true, "50edd149563e5addbd091b1b42e2edfbcb117439e82f28384bd785cd85a6ed25"), looks := true }, kinds := [], alts := [], laidByText := true, laidKinds := [.data, .pinned], laidTests := true, laidLooks := .later }
def WorldsNoneCardSaid : Prop := Claim7.holds Tryz.pinned (.plain (OpenSpec.ofChange worldsNoneSpec)) worldsNoneCard

/-- THE TIED CARD OF 'annalistlaw32.SubsFence'. -/
def subsFenceCard : Claim7 := { stood := { row := subsFenceRow, standIns := [], harness := (true, "50edd149563e5addbd091b1b42e2edfbcb117439e82f28384bd785cd85a6ed25"), looks := true }, kinds := [], alts := [], laidByText := true, laidKinds := [.data, .data, .data, .data, .sentinel, .sentinel, .pinned], laidTests := true, laidLooks := .later }
def SubsFenceCardSaid : Prop := Claim7.holds Tryz.pinned (.plain (OpenSpec.ofChange subsFenceSpec)) subsFenceCard

/-- THE TIED CARD OF 'annalistlaw32.SubsPlay'. -/
def subsPlayCard : Claim7 := { stood := { row := subsPlayRow, standIns := [], harness := (true, "50edd149563e5addbd091b1b42e2edfbcb117439e82f28384bd785cd85a6ed25"), looks := true }, kinds := [], alts := [], laidByText := true, laidKinds := [.data, .data, .data, .data, .sentinel, .sentinel, .pinned], laidTests := true, laidLooks := .later }
def SubsPlayCardSaid : Prop := Claim7.holds Tryz.pinned (.plain (OpenSpec.ofChange subsPlaySpec)) subsPlayCard

/-- THE TIED CARD OF 'annalistlaw32.SubsAll'. -/
def subsAllCard : Claim7 := { stood := { row := subsAllRow, standIns := [], harness := (true, "50edd149563e5addbd091b1b42e2edfbcb117439e82f28384bd785cd85a6ed25"), looks := true }, kinds := [], alts := [], laidByText := true, laidKinds := [.data, .data, .data, .data, .sentinel, .sentinel, .pinned], laidTests := true, laidLooks := .later }
def SubsAllCardSaid : Prop := Claim7.holds Tryz.pinned (.plain (OpenSpec.ofChange subsAllSpec)) subsAllCard

/-- THE SECOND FORM's CARD OF 'annalistlaw26.StoreReads'. -/
def storeReadsUptoCard : Claim7 := { stood := { row := storeReadsUptoRow, standIns := [], harness := (true, "50edd149563e5addbd091b1b42e2edfbcb117439e82f28384bd785cd85a6ed25"), looks := true }, kinds := [], alts := [], laidByText := true, laidKinds := [.data, .pinned], laidTests := true, laidLooks := .later }
def StoreReadsUptoCardSaid : Prop := Claim7.holds Tryz.pinned (.plain (OpenSpec.upto storeReadsSpec)) storeReadsUptoCard

/-- THE SECOND FORM's CARD OF 'annalistlaw34.AuditFinds'. -/
def auditFindsUptoCard : Claim7 := { stood := { row := auditFindsUptoRow, standIns := [], harness := (true, "50edd149563e5addbd091b1b42e2edfbcb117439e82f28384bd785cd85a6ed25"), looks := true }, kinds := [], alts := [], laidByText := true, laidKinds := [.data, .pinned], laidTests := true, laidLooks := .later }
def AuditFindsUptoCardSaid : Prop := Claim7.holds Tryz.pinned (.plain (OpenSpec.upto auditFindsSpec)) auditFindsUptoCard

/-- THE SECOND FORM's CARD OF 'annalistlaw30.WorldsSure'. -/
def worldsSureUptoCard : Claim7 := { stood := { row := worldsSureUptoRow, standIns := [], harness := (true, "50edd149563e5addbd091b1b42e2edfbcb117439e82f28384bd785cd85a6ed25"), looks := true }, kinds := [], alts := [], laidByText := true, laidKinds := [.data, .pinned], laidTests := true, laidLooks := .later }
def WorldsSureUptoCardSaid : Prop := Claim7.holds Tryz.pinned (.plain (OpenSpec.upto worldsSureSpec)) worldsSureUptoCard

/-- THE SECOND FORM's CARD OF 'annalistlaw35.CopiesSame'. -/
def copiesSameUptoCard : Claim7 := { stood := { row := copiesSameUptoRow, standIns := [], harness := (true, "50edd149563e5addbd091b1b42e2edfbcb117439e82f28384bd785cd85a6ed25"), looks := true }, kinds := [], alts := [], laidByText := true, laidKinds := [.data, .pinned], laidTests := true, laidLooks := .later }
def CopiesSameUptoCardSaid : Prop := Claim7.holds Tryz.pinned (.plain (OpenSpec.upto copiesSameSpec)) copiesSameUptoCard

/-- THE SECOND FORM's CARD OF 'annalistlaw30.WorldsNone'. -/
def worldsNoneUptoCard : Claim7 := { stood := { row := worldsNoneUptoRow, standIns := [], harness := (true, "50edd149563e5addbd091b1b42e2edfbcb117439e82f28384bd785cd85a6ed25"), looks := true }, kinds := [], alts := [], laidByText := true, laidKinds := [.data, .pinned], laidTests := true, laidLooks := .later }
def WorldsNoneUptoCardSaid : Prop := Claim7.holds Tryz.pinned (.plain (OpenSpec.upto worldsNoneSpec)) worldsNoneUptoCard

/-- THE SECOND FORM's CARD OF 'annalistlaw32.SubsFence'. -/
def subsFenceUptoCard : Claim7 := { stood := { row := subsFenceUptoRow, standIns := [], harness := (true, "50edd149563e5addbd091b1b42e2edfbcb117439e82f28384bd785cd85a6ed25"), looks := true }, kinds := [], alts := [], laidByText := true, laidKinds := [.data, .data, .data, .data, .sentinel, .sentinel, .pinned], laidTests := true, laidLooks := .later }
def SubsFenceUptoCardSaid : Prop := Claim7.holds Tryz.pinned (.plain (OpenSpec.upto subsFenceSpec)) subsFenceUptoCard

/-- THE SECOND FORM's CARD OF 'annalistlaw32.SubsPlay'. -/
def subsPlayUptoCard : Claim7 := { stood := { row := subsPlayUptoRow, standIns := [], harness := (true, "50edd149563e5addbd091b1b42e2edfbcb117439e82f28384bd785cd85a6ed25"), looks := true }, kinds := [], alts := [], laidByText := true, laidKinds := [.data, .data, .data, .data, .sentinel, .sentinel, .pinned], laidTests := true, laidLooks := .later }
def SubsPlayUptoCardSaid : Prop := Claim7.holds Tryz.pinned (.plain (OpenSpec.upto subsPlaySpec)) subsPlayUptoCard

/-- THE SECOND FORM's CARD OF 'annalistlaw32.SubsAll'. -/
def subsAllUptoCard : Claim7 := { stood := { row := subsAllUptoRow, standIns := [], harness := (true, "50edd149563e5addbd091b1b42e2edfbcb117439e82f28384bd785cd85a6ed25"), looks := true }, kinds := [], alts := [], laidByText := true, laidKinds := [.data, .data, .data, .data, .sentinel, .sentinel, .pinned], laidTests := true, laidLooks := .later }
def SubsAllUptoCardSaid : Prop := Claim7.holds Tryz.pinned (.plain (OpenSpec.upto subsAllSpec)) subsAllUptoCard
end Rows
end Go.Proofs.YtfiibpgoplcgkaaGreatDoor
