/-
  DERIVED. GIVEN WITH THE SEED: THE CARDS: each row of YtckmhlpngolbpaaDoorRows.lean that lists a variable, with what it lists TIED to the program's text (the seventh form; the later family's looks); each row that meets fmt, with fmt's text TOLD by the authors' own Lean function (tested against real Go, not proved from fmt's source: count such statements apart). THE CARD IS WHAT COUNTS. Prove the row's statement (the work); the ties are given (YtckmhlpngolbpaaDoorTie.lean); close each card by the builder's one call (the guide's Derived/Test/ToyasCard.lean, 'card_holds'). Laid BY PROGRAM, IN A SANDBOX (cutbox-door.mjs). By AI agents, Wed Nov 11 2026. No macro, syntax, notation, axiom, sorry.
-/
import Derived.Test.YtckmhlpngolbpaaDoorRows
import GoSem.ClaimSeven
namespace Go.Proofs.YtckmhlpngolbpaaDoor
namespace Rows

/-- THE TIED CARD OF 'bolstertop.TopChosen'. -/
def topChosenCard : Claim7 := { stood := { row := topChosenRow, standIns := [], harness := (true, "fb211bea943c145ad9ca17e4dbd71e93b1d653d0b38a58b39f88e08edac958cd"), looks := false }, kinds := [], alts := [], laidByText := true, laidKinds := [.data, .pinned], laidTests := true, laidLooks := .later }
def TopChosenCardSaid : Prop := Claim7.holds Tryd.pinned (.plain (OpenSpec.ofChange topChosenSpec)) topChosenCard

/-- THE TIED CARD OF 'bolstertop.TopWalks'. -/
def topWalksCard : Claim7 := { stood := { row := topWalksRow, standIns := [], harness := (true, "fb211bea943c145ad9ca17e4dbd71e93b1d653d0b38a58b39f88e08edac958cd"), looks := false }, kinds := [], alts := [], laidByText := true, laidKinds := [.data, .pinned], laidTests := true, laidLooks := .later }
def TopWalksCardSaid : Prop := Claim7.holds Tryd.pinned (.plain (OpenSpec.ofChange topWalksSpec)) topWalksCard

/-- THE SECOND FORM's CARD OF 'bolstertop.TopChosen'. -/
def topChosenUptoCard : Claim7 := { stood := { row := topChosenUptoRow, standIns := [], harness := (true, "fb211bea943c145ad9ca17e4dbd71e93b1d653d0b38a58b39f88e08edac958cd"), looks := false }, kinds := [], alts := [], laidByText := true, laidKinds := [.data, .pinned], laidTests := true, laidLooks := .later }
def TopChosenUptoCardSaid : Prop := Claim7.holds Tryd.pinned (.plain (OpenSpec.upto topChosenSpec)) topChosenUptoCard

/-- THE SECOND FORM's CARD OF 'bolstertop.TopWalks'. -/
def topWalksUptoCard : Claim7 := { stood := { row := topWalksUptoRow, standIns := [], harness := (true, "fb211bea943c145ad9ca17e4dbd71e93b1d653d0b38a58b39f88e08edac958cd"), looks := false }, kinds := [], alts := [], laidByText := true, laidKinds := [.data, .pinned], laidTests := true, laidLooks := .later }
def TopWalksUptoCardSaid : Prop := Claim7.holds Tryd.pinned (.plain (OpenSpec.upto topWalksSpec)) topWalksUptoCard
end Rows
end Go.Proofs.YtckmhlpngolbpaaDoor
