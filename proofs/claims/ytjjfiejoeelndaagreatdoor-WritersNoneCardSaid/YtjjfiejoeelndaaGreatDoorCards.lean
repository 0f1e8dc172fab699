/-
  DERIVED. GIVEN WITH THE SEED: THE CARDS: each row of YtjjfiejoeelndaaGreatDoorRows.lean that lists a variable, with what it lists TIED to the program's text (the seventh form; the later family's looks); each row that meets fmt, with fmt's text TOLD by the authors' own Lean function (tested against real Go, not proved from fmt's source: count such statements apart). THE CARD IS WHAT COUNTS. Prove the row's statement (the work); the ties are given (YtjjfiejoeelndaaGreatDoorTie.lean); close each card by the builder's one call (the guide's Derived/Test/ToyasCard.lean, 'card_holds'). Laid BY PROGRAM, IN A SANDBOX (cutbox-door.mjs). By AI agents, Wed Nov 11 2026. No macro, syntax, notation, axiom, sorry.
-/
import Derived.Test.YtjjfiejoeelndaaGreatDoorRows
import GoSem.ClaimSeven
namespace Go.Proofs.YtjjfiejoeelndaaGreatDoor
namespace Rows

/-- THE TIED CARD OF 'annalistlaw36.WritersApart'. -/
def writersApartCard : Claim7 := { stood := { row := writersApartRow, standIns := [], harness := (true, "6f493477cc0dab71c67f399a2282a75be905f1c5f86ee905e0b3c59d9f5c2329"), looks := true }, kinds := [], alts := [], laidByText := true, laidKinds := [.data, .pinned], laidTests := true, laidLooks := .later }
def WritersApartCardSaid : Prop := Claim7.holds Tryz.pinned (.plain (OpenSpec.ofChange writersApartSpec)) writersApartCard

/-- THE TIED CARD OF 'annalistlaw36.WritersNone'. -/
def writersNoneCard : Claim7 := { stood := { row := writersNoneRow, standIns := [], harness := (true, "6f493477cc0dab71c67f399a2282a75be905f1c5f86ee905e0b3c59d9f5c2329"), looks := true }, kinds := [], alts := [], laidByText := true, laidKinds := [.data, .pinned], laidTests := true, laidLooks := .later }
def WritersNoneCardSaid : Prop := Claim7.holds Tryz.pinned (.plain (OpenSpec.ofChange writersNoneSpec)) writersNoneCard

/-- THE TIED CARD OF 'annalistlaw36.WritersPlay'. -/
def writersPlayCard : Claim7 := { stood := { row := writersPlayRow, standIns := [], harness := (true, "6f493477cc0dab71c67f399a2282a75be905f1c5f86ee905e0b3c59d9f5c2329"), looks := true }, kinds := [], alts := [], laidByText := true, laidKinds := [.data, .pinned], laidTests := true, laidLooks := .later }
def WritersPlayCardSaid : Prop := Claim7.holds Tryz.pinned (.plain (OpenSpec.ofChange writersPlaySpec)) writersPlayCard

/-- THE TIED CARD OF 'annalistlaw26.StorePages'. -/
def storePagesCard : Claim7 := { stood := { row := storePagesRow, standIns := [], harness := (true, "6f493477cc0dab71c67f399a2282a75be905f1c5f86ee905e0b3c59d9f5c2329"), looks := true }, kinds := [], alts := [], laidByText := true, laidKinds := [.data, .pinned], laidTests := true, laidLooks := .later }
def StorePagesCardSaid : Prop := Claim7.holds Tryz.pinned (.plain (OpenSpec.ofChange storePagesSpec)) storePagesCard

/-- THE TIED CARD OF 'annalistlaw26.StoreNone'. -/
def storeNoneCard : Claim7 := { stood := { row := storeNoneRow, standIns := [], harness := (true, "6f493477cc0dab71c67f399a2282a75be905f1c5f86ee905e0b3c59d9f5c2329"), looks := true }, kinds := [], alts := [], laidByText := true, laidKinds := [.data, .pinned], laidTests := true, laidLooks := .later }
def StoreNoneCardSaid : Prop := Claim7.holds Tryz.pinned (.plain (OpenSpec.ofChange storeNoneSpec)) storeNoneCard

/-- THE SECOND FORM's CARD OF 'annalistlaw36.WritersApart'. -/
def writersApartUptoCard : Claim7 := { stood := { row := writersApartUptoRow, standIns := [], harness := (true, "6f493477cc0dab71c67f399a2282a75be905f1c5f86ee905e0b3c59d9f5c2329"), looks := true }, kinds := [], alts := [], laidByText := true, laidKinds := [.data, .pinned], laidTests := true, laidLooks := .later }
def WritersApartUptoCardSaid : Prop := Claim7.holds Tryz.pinned (.plain (OpenSpec.upto writersApartSpec)) writersApartUptoCard

/-- THE SECOND FORM's CARD OF 'annalistlaw36.WritersNone'. -/
def writersNoneUptoCard : Claim7 := { stood := { row := writersNoneUptoRow, standIns := [], harness := (true, "6f493477cc0dab71c67f399a2282a75be905f1c5f86ee905e0b3c59d9f5c2329"), looks := true }, kinds := [], alts := [], laidByText := true, laidKinds := [.data, .pinned], laidTests := true, laidLooks := .later }
def WritersNoneUptoCardSaid : Prop := Claim7.holds Tryz.pinned (.plain (OpenSpec.upto writersNoneSpec)) writersNoneUptoCard

/-- THE SECOND FORM's CARD OF 'annalistlaw36.WritersPlay'. -/
def writersPlayUptoCard : Claim7 := { stood := { row := writersPlayUptoRow, standIns := [], harness := (true, "6f493477cc0dab71c67f399a2282a75be905f1c5f86ee905e0b3c59d9f5c2329"), looks := true }, kinds := [], alts := [], laidByText := true, laidKinds := [.data, .pinned], laidTests := true, laidLooks := .later }
def WritersPlayUptoCardSaid : Prop := Claim7.holds Tryz.pinned (.plain (OpenSpec.upto writersPlaySpec)) writersPlayUptoCard

/-- THE SECOND FORM's CARD OF 'annalistlaw26.StorePages'. -/
def storePagesUptoCard : Claim7 := { stood := { row := storePagesUptoRow, standIns := [], harness := (true, "6f493477cc0dab71c67f399a2282a75be905f1c5f86ee905e0b3c59d9f5c2329"), looks := true }, kinds := [], alts := [], laidByText := true, laidKinds := [.data, .pinned], laidTests := true, laidLooks := .later }
def StorePagesUptoCardSaid : Prop := Claim7.holds Tryz.pinned (.plain (OpenSpec.upto storePagesSpec)) storePagesUptoCard

/-- THE SECOND FORM's CARD OF 'annalistlaw26.StoreNone'. -/
def storeNoneUptoCard : Claim7 := { stood := { row := storeNoneUptoRow, standIns := [], harness := (true, "6f493477cc0dab71c67f399a2282a75be905f1c5f86ee905e0b3c59d9f5c2329"), looks := true }, kinds := [], alts := [], laidByText := true, laidKinds := [.data, .pinned], laidTests := true, laidLooks := .later }
def StoreNoneUptoCardSaid : Prop := Claim7.holds Tryz.pinned (.plain (OpenSpec.upto storeNoneSpec)) storeNoneUptoCard
end Rows
end Go.Proofs.YtjjfiejoeelndaaGreatDoor
