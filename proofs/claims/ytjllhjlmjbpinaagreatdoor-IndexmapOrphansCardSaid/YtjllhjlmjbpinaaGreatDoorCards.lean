/-
  DERIVED. GIVEN WITH THE SEED: THE CARDS: each row of YtjllhjlmjbpinaaGreatDoorRows.lean that lists a variable, with what it lists TIED to the program's text (the seventh form; the later family's looks); each row that meets fmt, with fmt's text TOLD by the authors' own Lean function (tested against real Go, not proved from fmt's source: count such statements apart). THE CARD IS WHAT COUNTS. Prove the row's statement (the work); the ties are given (YtjllhjlmjbpinaaGreatDoorTie.lean); close each card by the builder's one call (the guide's Derived/Test/ToyasCard.lean, 'card_holds'). Laid BY PROGRAM, IN A SANDBOX (cutbox-door.mjs). By AI agents, Wed Nov 11 2026. No macro, syntax, notation, axiom, sorry.
-/
import Derived.Test.YtjllhjlmjbpinaaGreatDoorRows
import GoSem.ClaimSeven
namespace Go.Proofs.YtjllhjlmjbpinaaGreatDoor
namespace Rows

/-- THE TIED CARD OF 'annalistlaw23.IndexmapOrphans'. -/
def indexmapOrphansCard : Claim7 := { stood := { row := indexmapOrphansRow, standIns := [], harness := (true, "7438954837d7a38e3ffc2cf5161f160ce8f4563a4f423c9be670304ff3a8c42b"), looks := false }, kinds := [], alts := [], laidByText := true, laidKinds := [.data, .pinned], laidTests := true, laidLooks := .later }
def IndexmapOrphansCardSaid : Prop := Claim7.holds Tryz.pinned (.plain (OpenSpec.ofChange indexmapOrphansSpec)) indexmapOrphansCard

/-- THE SECOND FORM's CARD OF 'annalistlaw23.IndexmapOrphans'. -/
def indexmapOrphansUptoCard : Claim7 := { stood := { row := indexmapOrphansUptoRow, standIns := [], harness := (true, "7438954837d7a38e3ffc2cf5161f160ce8f4563a4f423c9be670304ff3a8c42b"), looks := false }, kinds := [], alts := [], laidByText := true, laidKinds := [.data, .pinned], laidTests := true, laidLooks := .later }
def IndexmapOrphansUptoCardSaid : Prop := Claim7.holds Tryz.pinned (.plain (OpenSpec.upto indexmapOrphansSpec)) indexmapOrphansUptoCard
end Rows
end Go.Proofs.YtjllhjlmjbpinaaGreatDoor
