/-
  DERIVED. GIVEN WITH THE SEED: THE CARDS: each row of YtmgpffknmmoggaaGreatDoorRows.lean that lists a variable, with what it lists TIED to the program's text (the seventh form; the later family's looks); each row that meets fmt, with fmt's text TOLD by the authors' own Lean function (tested against real Go, not proved from fmt's source: count such statements apart). THE CARD IS WHAT COUNTS. Prove the row's statement (the work); the ties are given (YtmgpffknmmoggaaGreatDoorTie.lean); close each card by the builder's one call (the guide's Derived/Test/ToyasCard.lean, 'card_holds'). Laid BY PROGRAM, IN A SANDBOX (cutbox-door.mjs). By AI agents, Wed Nov 11 2026. No macro, syntax, notation, axiom, sorry.
-/
import Derived.Test.YtmgpffknmmoggaaGreatDoorRows
import GoSem.ClaimSeven
namespace Go.Proofs.YtmgpffknmmoggaaGreatDoor
namespace Rows

/-- THE TIED CARD OF 'annalistlaw24.IndexPlay'. -/
def indexPlayCard : Claim7 := { stood := { row := indexPlayRow, standIns := [], harness := (true, "2077dd7cf48d0c948feb6834d80444113b9857df39d052c997942703a05cfe6b"), looks := false }, kinds := [], alts := [], laidByText := true, laidKinds := [.data, .pinned], laidTests := true, laidLooks := .later }
def IndexPlayCardSaid : Prop := Claim7.holds Tryz.pinned (.plain (OpenSpec.ofChange indexPlaySpec)) indexPlayCard

/-- THE TIED CARD OF 'annalistlaw25.RebuildForeign'. -/
def rebuildForeignCard : Claim7 := { stood := { row := rebuildForeignRow, standIns := [], harness := (true, "2077dd7cf48d0c948feb6834d80444113b9857df39d052c997942703a05cfe6b"), looks := false }, kinds := [], alts := [], laidByText := true, laidKinds := [.data, .pinned], laidTests := true, laidLooks := .later }
def RebuildForeignCardSaid : Prop := Claim7.holds Tryz.pinned (.plain (OpenSpec.ofChange rebuildForeignSpec)) rebuildForeignCard

/-- THE TIED CARD OF 'annalistlaw25.RebuildNone'. -/
def rebuildNoneCard : Claim7 := { stood := { row := rebuildNoneRow, standIns := [], harness := (true, "2077dd7cf48d0c948feb6834d80444113b9857df39d052c997942703a05cfe6b"), looks := false }, kinds := [], alts := [], laidByText := true, laidKinds := [.data, .pinned], laidTests := true, laidLooks := .later }
def RebuildNoneCardSaid : Prop := Claim7.holds Tryz.pinned (.plain (OpenSpec.ofChange rebuildNoneSpec)) rebuildNoneCard

/-- THE TIED CARD OF 'annalistlaw25.RebuildPlay'. -/
def rebuildPlayCard : Claim7 := { stood := { row := rebuildPlayRow, standIns := [], harness := (true, "2077dd7cf48d0c948feb6834d80444113b9857df39d052c997942703a05cfe6b"), looks := false }, kinds := [], alts := [], laidByText := true, laidKinds := [.data, .pinned], laidTests := true, laidLooks := .later }
def RebuildPlayCardSaid : Prop := Claim7.holds Tryz.pinned (.plain (OpenSpec.ofChange rebuildPlaySpec)) rebuildPlayCard

/-- THE SECOND FORM's CARD OF 'annalistlaw24.IndexPlay'. -/
def indexPlayUptoCard : Claim7 := { stood := { row := indexPlayUptoRow, standIns := [], harness := (true, "2077dd7cf48d0c948feb6834d80444113b9857df39d052c997942703a05cfe6b"), looks := false }, kinds := [], alts := [], laidByText := true, laidKinds := [.data, .pinned], laidTests := true, laidLooks := .later }
def IndexPlayUptoCardSaid : Prop := Claim7.holds Tryz.pinned (.plain (OpenSpec.upto indexPlaySpec)) indexPlayUptoCard

/-- THE SECOND FORM's CARD OF 'annalistlaw25.RebuildForeign'. -/
def rebuildForeignUptoCard : Claim7 := { stood := { row := rebuildForeignUptoRow, standIns := [], harness := (true, "2077dd7cf48d0c948feb6834d80444113b9857df39d052c997942703a05cfe6b"), looks := false }, kinds := [], alts := [], laidByText := true, laidKinds := [.data, .pinned], laidTests := true, laidLooks := .later }
def RebuildForeignUptoCardSaid : Prop := Claim7.holds Tryz.pinned (.plain (OpenSpec.upto rebuildForeignSpec)) rebuildForeignUptoCard

/-- THE SECOND FORM's CARD OF 'annalistlaw25.RebuildNone'. -/
def rebuildNoneUptoCard : Claim7 := { stood := { row := rebuildNoneUptoRow, standIns := [], harness := (true, "2077dd7cf48d0c948feb6834d80444113b9857df39d052c997942703a05cfe6b"), looks := false }, kinds := [], alts := [], laidByText := true, laidKinds := [.data, .pinned], laidTests := true, laidLooks := .later }
def RebuildNoneUptoCardSaid : Prop := Claim7.holds Tryz.pinned (.plain (OpenSpec.upto rebuildNoneSpec)) rebuildNoneUptoCard

/-- THE SECOND FORM's CARD OF 'annalistlaw25.RebuildPlay'. -/
def rebuildPlayUptoCard : Claim7 := { stood := { row := rebuildPlayUptoRow, standIns := [], harness := (true, "2077dd7cf48d0c948feb6834d80444113b9857df39d052c997942703a05cfe6b"), looks := false }, kinds := [], alts := [], laidByText := true, laidKinds := [.data, .pinned], laidTests := true, laidLooks := .later }
def RebuildPlayUptoCardSaid : Prop := Claim7.holds Tryz.pinned (.plain (OpenSpec.upto rebuildPlaySpec)) rebuildPlayUptoCard
end Rows
end Go.Proofs.YtmgpffknmmoggaaGreatDoor
