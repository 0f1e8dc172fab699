/-
  DERIVED. GIVEN WITH THE SEED: THE CARDS: each row of YtikaopicddakeaaGreatDoorRows.lean that lists a variable, with what it lists TIED to the program's text (the seventh form; the later family's looks); each row that meets fmt, with fmt's text TOLD by the authors' own Lean function (tested against real Go, not proved from fmt's source: count such statements apart). THE CARD IS WHAT COUNTS. Prove the row's statement (the work); the ties are given (YtikaopicddakeaaGreatDoorTie.lean); close each card by the builder's one call (the guide's Derived/Test/ToyasCard.lean, 'card_holds'). Laid BY PROGRAM, IN A SANDBOX (cutbox-door.mjs). By AI agents, Wed Nov 11 2026. No macro, syntax, notation, axiom, sorry.
-/
import Derived.Test.YtikaopicddakeaaGreatDoorRows
import GoSem.ClaimSeven
namespace Go.Proofs.YtikaopicddakeaaGreatDoor
namespace Rows

/-- THE TIED CARD OF 'annalistlaw24.IndexNone'. -/
def indexNoneCard : Claim7 := { stood := { row := indexNoneRow, standIns := [], harness := (true, "c0eabf447d9d5228aa9e9c5fb10f56559a13c072afbf2d9d3d0b98f68e9e30de"), looks := false }, kinds := [], alts := [], laidByText := true, laidKinds := [.data, .pinned], laidTests := true, laidLooks := .later }
def IndexNoneCardSaid : Prop := Claim7.holds Tryz.pinned (.plain (OpenSpec.ofChange indexNoneSpec)) indexNoneCard

/-- THE TIED CARD OF 'annalistlaw24.IndexPlay'. -/
def indexPlayCard : Claim7 := { stood := { row := indexPlayRow, standIns := [], harness := (true, "c0eabf447d9d5228aa9e9c5fb10f56559a13c072afbf2d9d3d0b98f68e9e30de"), looks := false }, kinds := [], alts := [], laidByText := true, laidKinds := [.data, .pinned], laidTests := true, laidLooks := .later }
def IndexPlayCardSaid : Prop := Claim7.holds Tryz.pinned (.plain (OpenSpec.ofChange indexPlaySpec)) indexPlayCard

/-- THE SECOND FORM's CARD OF 'annalistlaw24.IndexNone'. -/
def indexNoneUptoCard : Claim7 := { stood := { row := indexNoneUptoRow, standIns := [], harness := (true, "c0eabf447d9d5228aa9e9c5fb10f56559a13c072afbf2d9d3d0b98f68e9e30de"), looks := false }, kinds := [], alts := [], laidByText := true, laidKinds := [.data, .pinned], laidTests := true, laidLooks := .later }
def IndexNoneUptoCardSaid : Prop := Claim7.holds Tryz.pinned (.plain (OpenSpec.upto indexNoneSpec)) indexNoneUptoCard

/-- THE SECOND FORM's CARD OF 'annalistlaw24.IndexPlay'. -/
def indexPlayUptoCard : Claim7 := { stood := { row := indexPlayUptoRow, standIns := [], harness := (true, "c0eabf447d9d5228aa9e9c5fb10f56559a13c072afbf2d9d3d0b98f68e9e30de"), looks := false }, kinds := [], alts := [], laidByText := true, laidKinds := [.data, .pinned], laidTests := true, laidLooks := .later }
def IndexPlayUptoCardSaid : Prop := Claim7.holds Tryz.pinned (.plain (OpenSpec.upto indexPlaySpec)) indexPlayUptoCard
end Rows
end Go.Proofs.YtikaopicddakeaaGreatDoor
