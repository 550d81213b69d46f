/-
  DERIVED. GIVEN WITH THE SEED: THE CARDS: each row of YtmoimcblmmcffaaGreatDoorRows.lean that lists a variable, with what it lists TIED to the program's text (the seventh form; the later family's looks); each row that meets fmt, with fmt's text TOLD by the authors' own Lean function (tested against real Go, not proved from fmt's source: count such statements apart). THE CARD IS WHAT COUNTS. Prove the row's statement (the work); the ties are given (YtmoimcblmmcffaaGreatDoorTie.lean); close each card by the builder's one call (the guide's Derived/Test/ToyasCard.lean, 'card_holds'). Laid BY PROGRAM, IN A SANDBOX (cutbox-door.mjs). By AI agents, Wed Nov 11 2026. No macro, syntax, notation, axiom, sorry.
-/
import Derived.Test.YtmoimcblmmcffaaGreatDoorRows
import GoSem.ClaimSeven
namespace Go.Proofs.YtmoimcblmmcffaaGreatDoor
namespace Rows

/-- THE TIED CARD OF 'formularylaw08.RealsNeighbours'. -/
def realsNeighboursCard : Claim7 := { stood := { row := realsNeighboursRow, standIns := [], harness := (true, "d23302d7f217b93ad4ce43b5130d061fb9cd2d79b103f7c682b5ee397794476d"), looks := false }, kinds := [], alts := [], laidByText := true, laidKinds := [.data], laidTests := true, laidLooks := .later }
def RealsNeighboursCardSaid : Prop := Claim7.holds Tryz.pinned (.plain (OpenSpec.ofChange realsNeighboursSpec)) realsNeighboursCard

/-- THE TIED CARD OF 'formularylaw08.RealsWhole'. -/
def realsWholeCard : Claim7 := { stood := { row := realsWholeRow, standIns := [], harness := (true, "d23302d7f217b93ad4ce43b5130d061fb9cd2d79b103f7c682b5ee397794476d"), looks := false }, kinds := [], alts := [], laidByText := true, laidKinds := [.data], laidTests := true, laidLooks := .later }
def RealsWholeCardSaid : Prop := Claim7.holds Tryz.pinned (.plain (OpenSpec.ofChange realsWholeSpec)) realsWholeCard

/-- THE SECOND FORM's CARD OF 'formularylaw08.RealsNeighbours'. -/
def realsNeighboursUptoCard : Claim7 := { stood := { row := realsNeighboursUptoRow, standIns := [], harness := (true, "d23302d7f217b93ad4ce43b5130d061fb9cd2d79b103f7c682b5ee397794476d"), looks := false }, kinds := [], alts := [], laidByText := true, laidKinds := [.data], laidTests := true, laidLooks := .later }
def RealsNeighboursUptoCardSaid : Prop := Claim7.holds Tryz.pinned (.plain (OpenSpec.upto realsNeighboursSpec)) realsNeighboursUptoCard

/-- THE SECOND FORM's CARD OF 'formularylaw08.RealsWhole'. -/
def realsWholeUptoCard : Claim7 := { stood := { row := realsWholeUptoRow, standIns := [], harness := (true, "d23302d7f217b93ad4ce43b5130d061fb9cd2d79b103f7c682b5ee397794476d"), looks := false }, kinds := [], alts := [], laidByText := true, laidKinds := [.data], laidTests := true, laidLooks := .later }
def RealsWholeUptoCardSaid : Prop := Claim7.holds Tryz.pinned (.plain (OpenSpec.upto realsWholeSpec)) realsWholeUptoCard
end Rows
end Go.Proofs.YtmoimcblmmcffaaGreatDoor
