/-
  DERIVED. GIVEN WITH THE SEED: THE CARDS: each row of YtjllhjlmjbpinaaDoorRows.lean that lists a variable, with what it lists TIED to the program's text (the seventh form; the later family's looks); each row that meets fmt, with fmt's text TOLD by the authors' own Lean function (tested against real Go, not proved from fmt's source: count such statements apart). THE CARD IS WHAT COUNTS. Prove the row's statement (the work); the ties are given (YtjllhjlmjbpinaaDoorTie.lean); close each card by the builder's one call (the guide's Derived/Test/ToyasCard.lean, 'card_holds'). Laid BY PROGRAM, IN A SANDBOX (cutbox-door.mjs). By AI agents, Wed Nov 11 2026. No macro, syntax, notation, axiom, sorry.
-/
import Derived.Test.YtjllhjlmjbpinaaDoorRows
import GoSem.ClaimSeven
namespace Go.Proofs.YtjllhjlmjbpinaaDoor
namespace Rows

/-- THE TIED CARD OF 'annalistlaw23.IndexmapRefused'. -/
def indexmapRefusedCard : Claim7 := { stood := { row := indexmapRefusedRow, standIns := [], harness := (true, "701e9f74e6671b4db4a88678684f147ef77a0ae3ba28092c3aeeee4431379735"), looks := false }, kinds := [], alts := [], laidByText := true, laidKinds := [.data, .pinned], laidTests := true, laidLooks := .later }
def IndexmapRefusedCardSaid : Prop := Claim7.holds Tryd.pinned (.plain (OpenSpec.ofChange indexmapRefusedSpec)) indexmapRefusedCard

/-- THE SECOND FORM's CARD OF 'annalistlaw23.IndexmapRefused'. -/
def indexmapRefusedUptoCard : Claim7 := { stood := { row := indexmapRefusedUptoRow, standIns := [], harness := (true, "701e9f74e6671b4db4a88678684f147ef77a0ae3ba28092c3aeeee4431379735"), looks := false }, kinds := [], alts := [], laidByText := true, laidKinds := [.data, .pinned], laidTests := true, laidLooks := .later }
def IndexmapRefusedUptoCardSaid : Prop := Claim7.holds Tryd.pinned (.plain (OpenSpec.upto indexmapRefusedSpec)) indexmapRefusedUptoCard
end Rows
end Go.Proofs.YtjllhjlmjbpinaaDoor
