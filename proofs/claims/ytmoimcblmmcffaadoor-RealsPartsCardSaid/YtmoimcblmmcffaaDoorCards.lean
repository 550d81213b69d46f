/-
  DERIVED. GIVEN WITH THE SEED: THE CARDS: each row of YtmoimcblmmcffaaDoorRows.lean that lists a variable, with what it lists TIED to the program's text (the seventh form; the later family's looks); each row that meets fmt, with fmt's text TOLD by the authors' own Lean function (tested against real Go, not proved from fmt's source: count such statements apart). THE CARD IS WHAT COUNTS. Prove the row's statement (the work); the ties are given (YtmoimcblmmcffaaDoorTie.lean); close each card by the builder's one call (the guide's Derived/Test/ToyasCard.lean, 'card_holds'). Laid BY PROGRAM, IN A SANDBOX (cutbox-door.mjs). By AI agents, Wed Nov 11 2026. No macro, syntax, notation, axiom, sorry.
-/
import Derived.Test.YtmoimcblmmcffaaDoorRows
import GoSem.ClaimSeven
namespace Go.Proofs.YtmoimcblmmcffaaDoor
namespace Rows

/-- THE TIED CARD OF 'formularylaw08.RealsApply'. -/
def realsApplyCard : Claim7 := { stood := { row := realsApplyRow, standIns := [], harness := (true, "b253ac74fbd65addf0fdf74e812264281bc1b91eedcd979d6383602ac2cb186c"), looks := false }, kinds := [], alts := [], laidByText := true, laidKinds := [.data], laidTests := true, laidLooks := .later }
def RealsApplyCardSaid : Prop := Claim7.holds Tryd.pinned (.plain (OpenSpec.ofChange realsApplySpec)) realsApplyCard

/-- THE TIED CARD OF 'formularylaw08.RealsConverts'. -/
def realsConvertsCard : Claim7 := { stood := { row := realsConvertsRow, standIns := [], harness := (true, "b253ac74fbd65addf0fdf74e812264281bc1b91eedcd979d6383602ac2cb186c"), looks := false }, kinds := [], alts := [], laidByText := true, laidKinds := [.data], laidTests := true, laidLooks := .later }
def RealsConvertsCardSaid : Prop := Claim7.holds Tryd.pinned (.plain (OpenSpec.ofChange realsConvertsSpec)) realsConvertsCard

/-- THE TIED CARD OF 'formularylaw08.RealsRoots'. -/
def realsRootsCard : Claim7 := { stood := { row := realsRootsRow, standIns := [], harness := (true, "b253ac74fbd65addf0fdf74e812264281bc1b91eedcd979d6383602ac2cb186c"), looks := false }, kinds := [], alts := [], laidByText := true, laidKinds := [.data], laidTests := true, laidLooks := .later }
def RealsRootsCardSaid : Prop := Claim7.holds Tryd.pinned (.plain (OpenSpec.ofChange realsRootsSpec)) realsRootsCard

/-- THE TIED CARD OF 'formularylaw08.RealsCompares'. -/
def realsComparesCard : Claim7 := { stood := { row := realsComparesRow, standIns := [], harness := (true, "b253ac74fbd65addf0fdf74e812264281bc1b91eedcd979d6383602ac2cb186c"), looks := false }, kinds := [], alts := [], laidByText := true, laidKinds := [.data], laidTests := true, laidLooks := .later }
def RealsComparesCardSaid : Prop := Claim7.holds Tryd.pinned (.plain (OpenSpec.ofChange realsComparesSpec)) realsComparesCard

/-- THE TIED CARD OF 'formularylaw08.RealsSums'. -/
def realsSumsCard : Claim7 := { stood := { row := realsSumsRow, standIns := [], harness := (true, "b253ac74fbd65addf0fdf74e812264281bc1b91eedcd979d6383602ac2cb186c"), looks := false }, kinds := [], alts := [], laidByText := true, laidKinds := [.data], laidTests := true, laidLooks := .later }
def RealsSumsCardSaid : Prop := Claim7.holds Tryd.pinned (.plain (OpenSpec.ofChange realsSumsSpec)) realsSumsCard

/-- THE TIED CARD OF 'formularylaw08.RealsOnce'. -/
def realsOnceCard : Claim7 := { stood := { row := realsOnceRow, standIns := [], harness := (true, "b253ac74fbd65addf0fdf74e812264281bc1b91eedcd979d6383602ac2cb186c"), looks := false }, kinds := [], alts := [], laidByText := true, laidKinds := [.data], laidTests := true, laidLooks := .later }
def RealsOnceCardSaid : Prop := Claim7.holds Tryd.pinned (.plain (OpenSpec.ofChange realsOnceSpec)) realsOnceCard

/-- THE TIED CARD OF 'formularylaw08.RealsParts'. -/
def realsPartsCard : Claim7 := { stood := { row := realsPartsRow, standIns := [], harness := (true, "b253ac74fbd65addf0fdf74e812264281bc1b91eedcd979d6383602ac2cb186c"), looks := false }, kinds := [], alts := [], laidByText := true, laidKinds := [.data], laidTests := true, laidLooks := .later }
def RealsPartsCardSaid : Prop := Claim7.holds Tryd.pinned (.plain (OpenSpec.ofChange realsPartsSpec)) realsPartsCard

/-- THE SECOND FORM's CARD OF 'formularylaw08.RealsApply'. -/
def realsApplyUptoCard : Claim7 := { stood := { row := realsApplyUptoRow, standIns := [], harness := (true, "b253ac74fbd65addf0fdf74e812264281bc1b91eedcd979d6383602ac2cb186c"), looks := false }, kinds := [], alts := [], laidByText := true, laidKinds := [.data], laidTests := true, laidLooks := .later }
def RealsApplyUptoCardSaid : Prop := Claim7.holds Tryd.pinned (.plain (OpenSpec.upto realsApplySpec)) realsApplyUptoCard

/-- THE SECOND FORM's CARD OF 'formularylaw08.RealsConverts'. -/
def realsConvertsUptoCard : Claim7 := { stood := { row := realsConvertsUptoRow, standIns := [], harness := (true, "b253ac74fbd65addf0fdf74e812264281bc1b91eedcd979d6383602ac2cb186c"), looks := false }, kinds := [], alts := [], laidByText := true, laidKinds := [.data], laidTests := true, laidLooks := .later }
def RealsConvertsUptoCardSaid : Prop := Claim7.holds Tryd.pinned (.plain (OpenSpec.upto realsConvertsSpec)) realsConvertsUptoCard

/-- THE SECOND FORM's CARD OF 'formularylaw08.RealsRoots'. -/
def realsRootsUptoCard : Claim7 := { stood := { row := realsRootsUptoRow, standIns := [], harness := (true, "b253ac74fbd65addf0fdf74e812264281bc1b91eedcd979d6383602ac2cb186c"), looks := false }, kinds := [], alts := [], laidByText := true, laidKinds := [.data], laidTests := true, laidLooks := .later }
def RealsRootsUptoCardSaid : Prop := Claim7.holds Tryd.pinned (.plain (OpenSpec.upto realsRootsSpec)) realsRootsUptoCard

/-- THE SECOND FORM's CARD OF 'formularylaw08.RealsCompares'. -/
def realsComparesUptoCard : Claim7 := { stood := { row := realsComparesUptoRow, standIns := [], harness := (true, "b253ac74fbd65addf0fdf74e812264281bc1b91eedcd979d6383602ac2cb186c"), looks := false }, kinds := [], alts := [], laidByText := true, laidKinds := [.data], laidTests := true, laidLooks := .later }
def RealsComparesUptoCardSaid : Prop := Claim7.holds Tryd.pinned (.plain (OpenSpec.upto realsComparesSpec)) realsComparesUptoCard

/-- THE SECOND FORM's CARD OF 'formularylaw08.RealsSums'. -/
def realsSumsUptoCard : Claim7 := { stood := { row := realsSumsUptoRow, standIns := [], harness := (true, "b253ac74fbd65addf0fdf74e812264281bc1b91eedcd979d6383602ac2cb186c"), looks := false }, kinds := [], alts := [], laidByText := true, laidKinds := [.data], laidTests := true, laidLooks := .later }
def RealsSumsUptoCardSaid : Prop := Claim7.holds Tryd.pinned (.plain (OpenSpec.upto realsSumsSpec)) realsSumsUptoCard

/-- THE SECOND FORM's CARD OF 'formularylaw08.RealsOnce'. -/
def realsOnceUptoCard : Claim7 := { stood := { row := realsOnceUptoRow, standIns := [], harness := (true, "b253ac74fbd65addf0fdf74e812264281bc1b91eedcd979d6383602ac2cb186c"), looks := false }, kinds := [], alts := [], laidByText := true, laidKinds := [.data], laidTests := true, laidLooks := .later }
def RealsOnceUptoCardSaid : Prop := Claim7.holds Tryd.pinned (.plain (OpenSpec.upto realsOnceSpec)) realsOnceUptoCard

/-- THE SECOND FORM's CARD OF 'formularylaw08.RealsParts'. -/
def realsPartsUptoCard : Claim7 := { stood := { row := realsPartsUptoRow, standIns := [], harness := (true, "b253ac74fbd65addf0fdf74e812264281bc1b91eedcd979d6383602ac2cb186c"), looks := false }, kinds := [], alts := [], laidByText := true, laidKinds := [.data], laidTests := true, laidLooks := .later }
def RealsPartsUptoCardSaid : Prop := Claim7.holds Tryd.pinned (.plain (OpenSpec.upto realsPartsSpec)) realsPartsUptoCard
end Rows
end Go.Proofs.YtmoimcblmmcffaaDoor
