/-
  DERIVED. GIVEN WITH THE SEED: THE CARDS: each row of YtkkafjknogfdnaaDoorRows.lean that lists a variable, with what it lists TIED to the program's text (the seventh form; the later family's looks); each row that meets fmt, with fmt's text TOLD by the authors' own Lean function (tested against real Go, not proved from fmt's source: count such statements apart). THE CARD IS WHAT COUNTS. Prove the row's statement (the work); the ties are given (YtkkafjknogfdnaaDoorTie.lean); close each card by the builder's one call (the guide's Derived/Test/ToyasCard.lean, 'card_holds'). Laid BY PROGRAM, IN A SANDBOX (cutbox-door.mjs). By AI agents, Wed Nov 11 2026. No macro, syntax, notation, axiom, sorry.
-/
import Derived.Test.YtkkafjknogfdnaaDoorRows
import GoSem.ClaimSeven
namespace Go.Proofs.YtkkafjknogfdnaaDoor
namespace Rows

/-- THE TIED CARD OF 'annalistlaw10.NamesTell'. -/
def namesTellCard : Claim7 := { stood := { row := namesTellRow, standIns := [], harness := (true, "f92cc5f52431f5752fcb7e9819135ce6196e058039795a1b547e6f78787645aa"), looks := false }, kinds := [], alts := [], laidByText := true, laidKinds := [.data, .pinned], laidTests := true, laidLooks := .later }
def NamesTellCardSaid : Prop := Claim7.holds Tryd.pinned (.plain (OpenSpec.ofChange namesTellSpec)) namesTellCard

/-- THE TIED CARD OF 'annalistlaw10.NamesParse'. -/
def namesParseCard : Claim7 := { stood := { row := namesParseRow, standIns := [], harness := (true, "f92cc5f52431f5752fcb7e9819135ce6196e058039795a1b547e6f78787645aa"), looks := false }, kinds := [], alts := [], laidByText := true, laidKinds := [.data, .pinned], laidTests := true, laidLooks := .later }
def NamesParseCardSaid : Prop := Claim7.holds Tryd.pinned (.plain (OpenSpec.ofChange namesParseSpec)) namesParseCard

/-- THE TIED CARD OF 'annalistlaw10.NamesBack'. -/
def namesBackCard : Claim7 := { stood := { row := namesBackRow, standIns := [], harness := (true, "f92cc5f52431f5752fcb7e9819135ce6196e058039795a1b547e6f78787645aa"), looks := false }, kinds := [], alts := [], laidByText := true, laidKinds := [.data, .pinned], laidTests := true, laidLooks := .later }
def NamesBackCardSaid : Prop := Claim7.holds Tryd.pinned (.plain (OpenSpec.ofChange namesBackSpec)) namesBackCard

/-- THE TIED CARD OF 'annalistlaw10.NamesOrder'. -/
def namesOrderCard : Claim7 := { stood := { row := namesOrderRow, standIns := [], harness := (true, "f92cc5f52431f5752fcb7e9819135ce6196e058039795a1b547e6f78787645aa"), looks := false }, kinds := [], alts := [], laidByText := true, laidKinds := [.data, .pinned], laidTests := true, laidLooks := .later }
def NamesOrderCardSaid : Prop := Claim7.holds Tryd.pinned (.plain (OpenSpec.ofChange namesOrderSpec)) namesOrderCard

/-- THE SECOND FORM's CARD OF 'annalistlaw10.NamesTell'. -/
def namesTellUptoCard : Claim7 := { stood := { row := namesTellUptoRow, standIns := [], harness := (true, "f92cc5f52431f5752fcb7e9819135ce6196e058039795a1b547e6f78787645aa"), looks := false }, kinds := [], alts := [], laidByText := true, laidKinds := [.data, .pinned], laidTests := true, laidLooks := .later }
def NamesTellUptoCardSaid : Prop := Claim7.holds Tryd.pinned (.plain (OpenSpec.upto namesTellSpec)) namesTellUptoCard

/-- THE SECOND FORM's CARD OF 'annalistlaw10.NamesParse'. -/
def namesParseUptoCard : Claim7 := { stood := { row := namesParseUptoRow, standIns := [], harness := (true, "f92cc5f52431f5752fcb7e9819135ce6196e058039795a1b547e6f78787645aa"), looks := false }, kinds := [], alts := [], laidByText := true, laidKinds := [.data, .pinned], laidTests := true, laidLooks := .later }
def NamesParseUptoCardSaid : Prop := Claim7.holds Tryd.pinned (.plain (OpenSpec.upto namesParseSpec)) namesParseUptoCard

/-- THE SECOND FORM's CARD OF 'annalistlaw10.NamesBack'. -/
def namesBackUptoCard : Claim7 := { stood := { row := namesBackUptoRow, standIns := [], harness := (true, "f92cc5f52431f5752fcb7e9819135ce6196e058039795a1b547e6f78787645aa"), looks := false }, kinds := [], alts := [], laidByText := true, laidKinds := [.data, .pinned], laidTests := true, laidLooks := .later }
def NamesBackUptoCardSaid : Prop := Claim7.holds Tryd.pinned (.plain (OpenSpec.upto namesBackSpec)) namesBackUptoCard

/-- THE SECOND FORM's CARD OF 'annalistlaw10.NamesOrder'. -/
def namesOrderUptoCard : Claim7 := { stood := { row := namesOrderUptoRow, standIns := [], harness := (true, "f92cc5f52431f5752fcb7e9819135ce6196e058039795a1b547e6f78787645aa"), looks := false }, kinds := [], alts := [], laidByText := true, laidKinds := [.data, .pinned], laidTests := true, laidLooks := .later }
def NamesOrderUptoCardSaid : Prop := Claim7.holds Tryd.pinned (.plain (OpenSpec.upto namesOrderSpec)) namesOrderUptoCard
end Rows
end Go.Proofs.YtkkafjknogfdnaaDoor
