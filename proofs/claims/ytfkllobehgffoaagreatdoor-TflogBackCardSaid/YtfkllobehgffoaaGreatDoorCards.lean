/-
  DERIVED. GIVEN WITH THE SEED: THE CARDS: each row of YtfkllobehgffoaaGreatDoorRows.lean that lists a variable, with what it lists TIED to the program's text (the seventh form; the later family's looks); each row that meets fmt, with fmt's text TOLD by the authors' own Lean function (tested against real Go, not proved from fmt's source: count such statements apart). THE CARD IS WHAT COUNTS. Prove the row's statement (the work); the ties are given (YtfkllobehgffoaaGreatDoorTie.lean); close each card by the builder's one call (the guide's Derived/Test/ToyasCard.lean, 'card_holds'). Laid BY PROGRAM, IN A SANDBOX (cutbox-door.mjs). By AI agents, Wed Nov 11 2026. No macro, syntax, notation, axiom, sorry.
-/
import Derived.Test.YtfkllobehgffoaaGreatDoorRows
import GoSem.ClaimSeven
namespace Go.Proofs.YtfkllobehgffoaaGreatDoor
namespace Rows

/-- THE TIED CARD OF 'annalistlaw12.TflogNone'. -/
def tflogNoneCard : Claim7 := { stood := { row := tflogNoneRow, standIns := [], harness := (true, "989e5a641da37bcedb55790c67a26caa25ff4587b8599f1c1bc5f64b463c31c3"), looks := false }, kinds := [], alts := [], laidByText := true, laidKinds := [.data, .pinned], laidTests := true, laidLooks := .later }
def TflogNoneCardSaid : Prop := Claim7.holds Tryz.pinned (.plain (OpenSpec.ofChange tflogNoneSpec)) tflogNoneCard

/-- THE TIED CARD OF 'annalistlaw12.TflogBack'. -/
def tflogBackCard : Claim7 := { stood := { row := tflogBackRow, standIns := [], harness := (true, "989e5a641da37bcedb55790c67a26caa25ff4587b8599f1c1bc5f64b463c31c3"), looks := false }, kinds := [], alts := [], laidByText := true, laidKinds := [.data, .pinned], laidTests := true, laidLooks := .later }
def TflogBackCardSaid : Prop := Claim7.holds Tryz.pinned (.plain (OpenSpec.ofChange tflogBackSpec)) tflogBackCard

/-- THE TIED CARD OF 'annalistlaw12.TflogRoom'. -/
def tflogRoomCard : Claim7 := { stood := { row := tflogRoomRow, standIns := [], harness := (true, "989e5a641da37bcedb55790c67a26caa25ff4587b8599f1c1bc5f64b463c31c3"), looks := false }, kinds := [], alts := [], laidByText := true, laidKinds := [.data, .pinned], laidTests := true, laidLooks := .later }
def TflogRoomCardSaid : Prop := Claim7.holds Tryz.pinned (.plain (OpenSpec.ofChange tflogRoomSpec)) tflogRoomCard

/-- THE SECOND FORM's CARD OF 'annalistlaw12.TflogNone'. -/
def tflogNoneUptoCard : Claim7 := { stood := { row := tflogNoneUptoRow, standIns := [], harness := (true, "989e5a641da37bcedb55790c67a26caa25ff4587b8599f1c1bc5f64b463c31c3"), looks := false }, kinds := [], alts := [], laidByText := true, laidKinds := [.data, .pinned], laidTests := true, laidLooks := .later }
def TflogNoneUptoCardSaid : Prop := Claim7.holds Tryz.pinned (.plain (OpenSpec.upto tflogNoneSpec)) tflogNoneUptoCard

/-- THE SECOND FORM's CARD OF 'annalistlaw12.TflogBack'. -/
def tflogBackUptoCard : Claim7 := { stood := { row := tflogBackUptoRow, standIns := [], harness := (true, "989e5a641da37bcedb55790c67a26caa25ff4587b8599f1c1bc5f64b463c31c3"), looks := false }, kinds := [], alts := [], laidByText := true, laidKinds := [.data, .pinned], laidTests := true, laidLooks := .later }
def TflogBackUptoCardSaid : Prop := Claim7.holds Tryz.pinned (.plain (OpenSpec.upto tflogBackSpec)) tflogBackUptoCard

/-- THE SECOND FORM's CARD OF 'annalistlaw12.TflogRoom'. -/
def tflogRoomUptoCard : Claim7 := { stood := { row := tflogRoomUptoRow, standIns := [], harness := (true, "989e5a641da37bcedb55790c67a26caa25ff4587b8599f1c1bc5f64b463c31c3"), looks := false }, kinds := [], alts := [], laidByText := true, laidKinds := [.data, .pinned], laidTests := true, laidLooks := .later }
def TflogRoomUptoCardSaid : Prop := Claim7.holds Tryz.pinned (.plain (OpenSpec.upto tflogRoomSpec)) tflogRoomUptoCard
end Rows
end Go.Proofs.YtfkllobehgffoaaGreatDoor
