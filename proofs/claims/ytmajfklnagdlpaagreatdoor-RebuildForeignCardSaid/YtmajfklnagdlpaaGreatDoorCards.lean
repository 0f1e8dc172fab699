/-
  DERIVED. GIVEN WITH THE SEED: THE CARDS: each row of YtmajfklnagdlpaaGreatDoorRows.lean that lists a variable, with what it lists TIED to the program's text (the seventh form; the later family's looks); each row that meets fmt, with fmt's text TOLD by the authors' own Lean function (tested against real Go, not proved from fmt's source: count such statements apart). THE CARD IS WHAT COUNTS. Prove the row's statement (the work); the ties are given (YtmajfklnagdlpaaGreatDoorTie.lean); close each card by the builder's one call (the guide's Derived/Test/ToyasCard.lean, 'card_holds'). Laid BY PROGRAM, IN A SANDBOX (cutbox-door.mjs). By AI agents, Wed Nov 11 2026. No macro, syntax, notation, axiom, sorry.
-/
import Derived.Test.YtmajfklnagdlpaaGreatDoorRows
import GoSem.ClaimSeven
namespace Go.Proofs.YtmajfklnagdlpaaGreatDoor
namespace Rows

/-- THE TIED CARD OF 'annalistlaw25.RebuildForeign'. -/
def rebuildForeignCard : Claim7 := { stood := { row := rebuildForeignRow, standIns := [], harness := (true, "8a7155c62655646af4739d4fc5d36080caa7b30274b72d0545d5c5ef918a7780"), looks := false }, kinds := [], alts := [], laidByText := true, laidKinds := [.data, .pinned], laidTests := true, laidLooks := .later }
def RebuildForeignCardSaid : Prop := Claim7.holds Tryz.pinned (.plain (OpenSpec.ofChange rebuildForeignSpec)) rebuildForeignCard

/-- THE TIED CARD OF 'annalistlaw25.RebuildNone'. -/
def rebuildNoneCard : Claim7 := { stood := { row := rebuildNoneRow, standIns := [], harness := (true, "8a7155c62655646af4739d4fc5d36080caa7b30274b72d0545d5c5ef918a7780"), looks := false }, kinds := [], alts := [], laidByText := true, laidKinds := [.data, .pinned], laidTests := true, laidLooks := .later }
def RebuildNoneCardSaid : Prop := Claim7.holds Tryz.pinned (.plain (OpenSpec.ofChange rebuildNoneSpec)) rebuildNoneCard

/-- THE TIED CARD OF 'annalistlaw25.RebuildPlay'. -/
def rebuildPlayCard : Claim7 := { stood := { row := rebuildPlayRow, standIns := [], harness := (true, "8a7155c62655646af4739d4fc5d36080caa7b30274b72d0545d5c5ef918a7780"), looks := false }, kinds := [], alts := [], laidByText := true, laidKinds := [.data, .pinned], laidTests := true, laidLooks := .later }
def RebuildPlayCardSaid : Prop := Claim7.holds Tryz.pinned (.plain (OpenSpec.ofChange rebuildPlaySpec)) rebuildPlayCard

/-- THE TIED CARD OF 'annalistlaw26.StoreReads'. -/
def storeReadsCard : Claim7 := { stood := { row := storeReadsRow, standIns := [], harness := (true, "8a7155c62655646af4739d4fc5d36080caa7b30274b72d0545d5c5ef918a7780"), looks := false }, kinds := [], alts := [], laidByText := true, laidKinds := [.data, .pinned], laidTests := true, laidLooks := .later }
def StoreReadsCardSaid : Prop := Claim7.holds Tryz.pinned (.plain (OpenSpec.ofChange storeReadsSpec)) storeReadsCard

/-- THE TIED CARD OF 'annalistlaw26.StorePages'. -/
def storePagesCard : Claim7 := { stood := { row := storePagesRow, standIns := [], harness := (true, "8a7155c62655646af4739d4fc5d36080caa7b30274b72d0545d5c5ef918a7780"), looks := false }, kinds := [], alts := [], laidByText := true, laidKinds := [.data, .pinned], laidTests := true, laidLooks := .later }
def StorePagesCardSaid : Prop := Claim7.holds Tryz.pinned (.plain (OpenSpec.ofChange storePagesSpec)) storePagesCard

/-- THE TIED CARD OF 'annalistlaw26.StoreNone'. -/
def storeNoneCard : Claim7 := { stood := { row := storeNoneRow, standIns := [], harness := (true, "8a7155c62655646af4739d4fc5d36080caa7b30274b72d0545d5c5ef918a7780"), looks := false }, kinds := [], alts := [], laidByText := true, laidKinds := [.data, .pinned], laidTests := true, laidLooks := .later }
def StoreNoneCardSaid : Prop := Claim7.holds Tryz.pinned (.plain (OpenSpec.ofChange storeNoneSpec)) storeNoneCard

/-- THE SECOND FORM's CARD OF 'annalistlaw25.RebuildForeign'. -/
def rebuildForeignUptoCard : Claim7 := { stood := { row := rebuildForeignUptoRow, standIns := [], harness := (true, "8a7155c62655646af4739d4fc5d36080caa7b30274b72d0545d5c5ef918a7780"), looks := false }, kinds := [], alts := [], laidByText := true, laidKinds := [.data, .pinned], laidTests := true, laidLooks := .later }
def RebuildForeignUptoCardSaid : Prop := Claim7.holds Tryz.pinned (.plain (OpenSpec.upto rebuildForeignSpec)) rebuildForeignUptoCard

/-- THE SECOND FORM's CARD OF 'annalistlaw25.RebuildNone'. -/
def rebuildNoneUptoCard : Claim7 := { stood := { row := rebuildNoneUptoRow, standIns := [], harness := (true, "8a7155c62655646af4739d4fc5d36080caa7b30274b72d0545d5c5ef918a7780"), looks := false }, kinds := [], alts := [], laidByText := true, laidKinds := [.data, .pinned], laidTests := true, laidLooks := .later }
def RebuildNoneUptoCardSaid : Prop := Claim7.holds Tryz.pinned (.plain (OpenSpec.upto rebuildNoneSpec)) rebuildNoneUptoCard

/-- THE SECOND FORM's CARD OF 'annalistlaw25.RebuildPlay'. -/
def rebuildPlayUptoCard : Claim7 := { stood := { row := rebuildPlayUptoRow, standIns := [], harness := (true, "8a7155c62655646af4739d4fc5d36080caa7b30274b72d0545d5c5ef918a7780"), looks := false }, kinds := [], alts := [], laidByText := true, laidKinds := [.data, .pinned], laidTests := true, laidLooks := .later }
def RebuildPlayUptoCardSaid : Prop := Claim7.holds Tryz.pinned (.plain (OpenSpec.upto rebuildPlaySpec)) rebuildPlayUptoCard

/-- THE SECOND FORM's CARD OF 'annalistlaw26.StoreReads'. -/
def storeReadsUptoCard : Claim7 := { stood := { row := storeReadsUptoRow, standIns := [], harness := (true, "8a7155c62655646af4739d4fc5d36080caa7b30274b72d0545d5c5ef918a7780"), looks := false }, kinds := [], alts := [], laidByText := true, laidKinds := [.data, .pinned], laidTests := true, laidLooks := .later }
def StoreReadsUptoCardSaid : Prop := Claim7.holds Tryz.pinned (.plain (OpenSpec.upto storeReadsSpec)) storeReadsUptoCard

/-- THE SECOND FORM's CARD OF 'annalistlaw26.StorePages'. -/
def storePagesUptoCard : Claim7 := { stood := { row := storePagesUptoRow, standIns := [], harness := (true, "8a7155c62655646af4739d4fc5d36080caa7b30274b72d0545d5c5ef918a7780"), looks := false }, kinds := [], alts := [], laidByText := true, laidKinds := [.data, .pinned], laidTests := true, laidLooks := .later }
def StorePagesUptoCardSaid : Prop := Claim7.holds Tryz.pinned (.plain (OpenSpec.upto storePagesSpec)) storePagesUptoCard

/-- THE SECOND FORM's CARD OF 'annalistlaw26.StoreNone'. -/
def storeNoneUptoCard : Claim7 := { stood := { row := storeNoneUptoRow, standIns := [], harness := (true, "8a7155c62655646af4739d4fc5d36080caa7b30274b72d0545d5c5ef918a7780"), looks := false }, kinds := [], alts := [], laidByText := true, laidKinds := [.data, .pinned], laidTests := true, laidLooks := .later }
def StoreNoneUptoCardSaid : Prop := Claim7.holds Tryz.pinned (.plain (OpenSpec.upto storeNoneSpec)) storeNoneUptoCard
end Rows
end Go.Proofs.YtmajfklnagdlpaaGreatDoor
