/-
  NARROWER THAN 'FOR EVERY INPUT', by the rows' own cells (each row's printed sentence says how): RealsApply: laid · RealsConverts: laid · RealsRoots: laid · RealsCompares: laid · RealsSums: laid · RealsOnce: laid · RealsParts: laid.
  DERIVED. THE GIVEN ROWS OF THIS SEAT. 7 by the template 'for every input the law returns true; each argument reads behind the call as it read before'; 0 by the template 'total and deterministic' (their statements: YtmoimcblmmcffaaDoorTotals.lean).
  GIVEN WITH THE SEED: the statements are not yours to turn. If you find one false, say at which input.
  Laid BY PROGRAM, IN A SANDBOX (cutbox-rows.mjs): the forced cells as the released guide's own fill.sh prints them over the translation 6fc5390b0a5b4e14… (all of the seat's roots in one cut). By AI agents, Wed Nov 11 2026. No macro, syntax, notation, axiom, sorry.
-/
import Derived.Test.YtmoimcblmmcffaaDoorChecked
import GoSem.Claim
import GoSem.ClaimJoined
import GoSem.ClaimMapViews
import Derived.JoinedTies
import Derived.KernelRfl
namespace Go.Proofs.YtmoimcblmmcffaaDoor
/- THE CELL 'sum', in the pinned program and in every row, IS THE sha256 OF THE DUMP (.gsa) THAT YtmoimcblmmcffaaDoorProg.lean LOADS. Nothing in Lean hashes anything: it is a label: what it is worth is what the hold of that sum in a sandbox is worth. -/
noncomputable def Tryd.pinned : Pinned := { name := "ytmoimcblmmcffaadoor", sum := "6fc5390b0a5b4e148a6b20cd9e242dda252ef2accdc38aff9890a5b07584a04f", checked := Tryd.checked }
namespace Rows
def none {H : Type} : Left H := { results := [], args := [] }

/- WHAT THE LISTED PACKAGE-LEVEL VARIABLES READ AS WHEN THE CALL BEGINS. Each datum BY PROGRAM (the guide's laid-datum.mjs) off the statement by which the dump's own 'gosem.cut.vars' lays the variable. In a bare row this is a premise. The card (YtmoimcblmmcffaaDoorCards.lean) ties it to the program's text. -/
def laid_math_bits_deBruijn64tab {H : Type} : DataW H := .agg [.lit (.int .u8 0), .lit (.int .u8 1), .lit (.int .u8 56), .lit (.int .u8 2), .lit (.int .u8 57), .lit (.int .u8 49), .lit (.int .u8 28), .lit (.int .u8 3), .lit (.int .u8 61), .lit (.int .u8 58), .lit (.int .u8 42), .lit (.int .u8 50), .lit (.int .u8 38), .lit (.int .u8 29), .lit (.int .u8 17), .lit (.int .u8 4), .lit (.int .u8 62), .lit (.int .u8 47), .lit (.int .u8 59), .lit (.int .u8 36), .lit (.int .u8 45), .lit (.int .u8 43), .lit (.int .u8 51), .lit (.int .u8 22), .lit (.int .u8 53), .lit (.int .u8 39), .lit (.int .u8 33), .lit (.int .u8 30), .lit (.int .u8 24), .lit (.int .u8 18), .lit (.int .u8 12), .lit (.int .u8 5), .lit (.int .u8 63), .lit (.int .u8 55), .lit (.int .u8 48), .lit (.int .u8 27), .lit (.int .u8 60), .lit (.int .u8 41), .lit (.int .u8 37), .lit (.int .u8 16), .lit (.int .u8 46), .lit (.int .u8 35), .lit (.int .u8 44), .lit (.int .u8 21), .lit (.int .u8 52), .lit (.int .u8 32), .lit (.int .u8 23), .lit (.int .u8 11), .lit (.int .u8 54), .lit (.int .u8 26), .lit (.int .u8 40), .lit (.int .u8 15), .lit (.int .u8 34), .lit (.int .u8 20), .lit (.int .u8 31), .lit (.int .u8 10), .lit (.int .u8 25), .lit (.int .u8 14), .lit (.int .u8 19), .lit (.int .u8 9), .lit (.int .u8 13), .lit (.int .u8 8), .lit (.int .u8 7), .lit (.int .u8 6)]

/-- 'formularylaw08.RealsApply': WHATEVER THE INPUT: true; the input reads as it did. -/
def realsApplySpec : ChangeSpec := { name := "realsApply", fn := fun _ => fun
  | [d1, d2, d3] => { results := [.lit (.bool true)], args := [d1, d2, d3] }
  | _ => none }
def realsApplyRow : OpenClaim := { program := "ytmoimcblmmcffaadoor", sum := "6fc5390b0a5b4e148a6b20cd9e242dda252ef2accdc38aff9890a5b07584a04f", func := "formulary/formularylaw08.RealsApply", spec := "realsApply", inPlace := ["math.Float32frombits", "math.Float64frombits", "math.Float32bits", "math.Float64bits", "math.sqrt", "math/bits.Sub64", "math.FMA"], unfollowed := true, recurses := true, named := ["math/bits.deBruijn64tab"], apart := false, laid := [("math/bits.deBruijn64tab", laid_math_bits_deBruijn64tab)] }
def RealsApplySaid : Prop := realsApplyRow.holds Tryd.pinned (OpenSpec.ofChange realsApplySpec)

/-- ITS FALSE NEIGHBOUR: 'it returns false'. Refute it at one input. -/
def realsApplyWrong : ChangeSpec := { name := "realsApply", fn := fun _ => fun
  | [d1, d2, d3] => { results := [.lit (.bool false)], args := [d1, d2, d3] }
  | _ => none }
def RealsApplyWrongFalsely : Prop := realsApplyRow.holds Tryd.pinned (OpenSpec.ofChange realsApplyWrong)

/-- 'formularylaw08.RealsConverts': WHATEVER THE INPUT: true; the input reads as it did. -/
def realsConvertsSpec : ChangeSpec := { name := "realsConverts", fn := fun _ => fun
  | [d1, d2] => { results := [.lit (.bool true)], args := [d1, d2] }
  | _ => none }
def realsConvertsRow : OpenClaim := { program := "ytmoimcblmmcffaadoor", sum := "6fc5390b0a5b4e148a6b20cd9e242dda252ef2accdc38aff9890a5b07584a04f", func := "formulary/formularylaw08.RealsConverts", spec := "realsConverts", inPlace := ["math.Float32frombits", "math.Float64frombits", "math.Float32bits", "math.Float64bits", "math.sqrt", "math/bits.Sub64", "math.FMA"], unfollowed := true, recurses := true, named := ["math/bits.deBruijn64tab"], apart := false, laid := [("math/bits.deBruijn64tab", laid_math_bits_deBruijn64tab)] }
def RealsConvertsSaid : Prop := realsConvertsRow.holds Tryd.pinned (OpenSpec.ofChange realsConvertsSpec)

/-- ITS FALSE NEIGHBOUR: 'it returns false'. Refute it at one input. -/
def realsConvertsWrong : ChangeSpec := { name := "realsConverts", fn := fun _ => fun
  | [d1, d2] => { results := [.lit (.bool false)], args := [d1, d2] }
  | _ => none }
def RealsConvertsWrongFalsely : Prop := realsConvertsRow.holds Tryd.pinned (OpenSpec.ofChange realsConvertsWrong)

/-- 'formularylaw08.RealsRoots': WHATEVER THE INPUT: true; the input reads as it did. -/
def realsRootsSpec : ChangeSpec := { name := "realsRoots", fn := fun _ => fun
  | [d1, d2, d3] => { results := [.lit (.bool true)], args := [d1, d2, d3] }
  | _ => none }
def realsRootsRow : OpenClaim := { program := "ytmoimcblmmcffaadoor", sum := "6fc5390b0a5b4e148a6b20cd9e242dda252ef2accdc38aff9890a5b07584a04f", func := "formulary/formularylaw08.RealsRoots", spec := "realsRoots", inPlace := ["math.Float32frombits", "math.Float64frombits", "math.Float32bits", "math.Float64bits", "math.sqrt", "math/bits.Sub64", "math.FMA"], unfollowed := true, recurses := true, named := ["math/bits.deBruijn64tab"], apart := false, laid := [("math/bits.deBruijn64tab", laid_math_bits_deBruijn64tab)] }
def RealsRootsSaid : Prop := realsRootsRow.holds Tryd.pinned (OpenSpec.ofChange realsRootsSpec)

/-- ITS FALSE NEIGHBOUR: 'it returns false'. Refute it at one input. -/
def realsRootsWrong : ChangeSpec := { name := "realsRoots", fn := fun _ => fun
  | [d1, d2, d3] => { results := [.lit (.bool false)], args := [d1, d2, d3] }
  | _ => none }
def RealsRootsWrongFalsely : Prop := realsRootsRow.holds Tryd.pinned (OpenSpec.ofChange realsRootsWrong)

/-- 'formularylaw08.RealsCompares': WHATEVER THE INPUT: true; the input reads as it did. -/
def realsComparesSpec : ChangeSpec := { name := "realsCompares", fn := fun _ => fun
  | [d1, d2] => { results := [.lit (.bool true)], args := [d1, d2] }
  | _ => none }
def realsComparesRow : OpenClaim := { program := "ytmoimcblmmcffaadoor", sum := "6fc5390b0a5b4e148a6b20cd9e242dda252ef2accdc38aff9890a5b07584a04f", func := "formulary/formularylaw08.RealsCompares", spec := "realsCompares", inPlace := ["math.Float32frombits", "math.Float64frombits", "math.Float32bits", "math.Float64bits", "math.sqrt", "math/bits.Sub64", "math.FMA"], unfollowed := true, recurses := true, named := ["math/bits.deBruijn64tab"], apart := false, laid := [("math/bits.deBruijn64tab", laid_math_bits_deBruijn64tab)] }
def RealsComparesSaid : Prop := realsComparesRow.holds Tryd.pinned (OpenSpec.ofChange realsComparesSpec)

/-- ITS FALSE NEIGHBOUR: 'it returns false'. Refute it at one input. -/
def realsComparesWrong : ChangeSpec := { name := "realsCompares", fn := fun _ => fun
  | [d1, d2] => { results := [.lit (.bool false)], args := [d1, d2] }
  | _ => none }
def RealsComparesWrongFalsely : Prop := realsComparesRow.holds Tryd.pinned (OpenSpec.ofChange realsComparesWrong)

/-- 'formularylaw08.RealsSums': WHATEVER THE INPUT: true; the input reads as it did. -/
def realsSumsSpec : ChangeSpec := { name := "realsSums", fn := fun _ => fun
  | [d1, d2] => { results := [.lit (.bool true)], args := [d1, d2] }
  | _ => none }
def realsSumsRow : OpenClaim := { program := "ytmoimcblmmcffaadoor", sum := "6fc5390b0a5b4e148a6b20cd9e242dda252ef2accdc38aff9890a5b07584a04f", func := "formulary/formularylaw08.RealsSums", spec := "realsSums", inPlace := ["math.Float32frombits", "math.Float64frombits", "math.Float32bits", "math.Float64bits", "math.sqrt", "math/bits.Sub64", "math.FMA"], unfollowed := true, recurses := true, named := ["math/bits.deBruijn64tab"], apart := false, laid := [("math/bits.deBruijn64tab", laid_math_bits_deBruijn64tab)] }
def RealsSumsSaid : Prop := realsSumsRow.holds Tryd.pinned (OpenSpec.ofChange realsSumsSpec)

/-- ITS FALSE NEIGHBOUR: 'it returns false'. Refute it at one input. -/
def realsSumsWrong : ChangeSpec := { name := "realsSums", fn := fun _ => fun
  | [d1, d2] => { results := [.lit (.bool false)], args := [d1, d2] }
  | _ => none }
def RealsSumsWrongFalsely : Prop := realsSumsRow.holds Tryd.pinned (OpenSpec.ofChange realsSumsWrong)

/-- 'formularylaw08.RealsOnce': WHATEVER THE INPUT: true; the input reads as it did. -/
def realsOnceSpec : ChangeSpec := { name := "realsOnce", fn := fun _ => fun
  | [d1, d2, d3] => { results := [.lit (.bool true)], args := [d1, d2, d3] }
  | _ => none }
def realsOnceRow : OpenClaim := { program := "ytmoimcblmmcffaadoor", sum := "6fc5390b0a5b4e148a6b20cd9e242dda252ef2accdc38aff9890a5b07584a04f", func := "formulary/formularylaw08.RealsOnce", spec := "realsOnce", inPlace := ["math.Float32frombits", "math.Float64frombits", "math.Float32bits", "math.Float64bits", "math.sqrt", "math/bits.Sub64", "math.FMA"], unfollowed := true, recurses := true, named := ["math/bits.deBruijn64tab"], apart := false, laid := [("math/bits.deBruijn64tab", laid_math_bits_deBruijn64tab)] }
def RealsOnceSaid : Prop := realsOnceRow.holds Tryd.pinned (OpenSpec.ofChange realsOnceSpec)

/-- ITS FALSE NEIGHBOUR: 'it returns false'. Refute it at one input. -/
def realsOnceWrong : ChangeSpec := { name := "realsOnce", fn := fun _ => fun
  | [d1, d2, d3] => { results := [.lit (.bool false)], args := [d1, d2, d3] }
  | _ => none }
def RealsOnceWrongFalsely : Prop := realsOnceRow.holds Tryd.pinned (OpenSpec.ofChange realsOnceWrong)

/-- 'formularylaw08.RealsParts': WHATEVER THE INPUT: true; the input reads as it did. -/
def realsPartsSpec : ChangeSpec := { name := "realsParts", fn := fun _ => fun
  | [d1, d2, d3] => { results := [.lit (.bool true)], args := [d1, d2, d3] }
  | _ => none }
def realsPartsRow : OpenClaim := { program := "ytmoimcblmmcffaadoor", sum := "6fc5390b0a5b4e148a6b20cd9e242dda252ef2accdc38aff9890a5b07584a04f", func := "formulary/formularylaw08.RealsParts", spec := "realsParts", inPlace := ["math.Float32frombits", "math.Float64frombits", "math.Float32bits", "math.Float64bits", "math.sqrt", "math/bits.Sub64", "math.FMA"], unfollowed := true, recurses := true, named := ["math/bits.deBruijn64tab"], apart := false, laid := [("math/bits.deBruijn64tab", laid_math_bits_deBruijn64tab)] }
def RealsPartsSaid : Prop := realsPartsRow.holds Tryd.pinned (OpenSpec.ofChange realsPartsSpec)

/-- ITS FALSE NEIGHBOUR: 'it returns false'. Refute it at one input. -/
def realsPartsWrong : ChangeSpec := { name := "realsParts", fn := fun _ => fun
  | [d1, d2, d3] => { results := [.lit (.bool false)], args := [d1, d2, d3] }
  | _ => none }
def RealsPartsWrongFalsely : Prop := realsPartsRow.holds Tryd.pinned (OpenSpec.ofChange realsPartsWrong)

/- THE SECOND FORM. 'bulk': how many values and letters a reading holds, each counted each time it is reached (what is shared counts as often as it is met; a slice's spare places count too). A statement '..UptoSaid' is the law's where the arguments, and the package variables that the reading takes, are together of bulk at most 1048576: NARROWER than '..Said'. Prove '..Said' where nothing that the law and all that it calls make is longer than what came in: it says more and counts as full. Else prove '..UptoSaid'. A law counts once. -/
mutual
def uptoBulk {H : Type} : DataW H → Nat
  | .lit (.string bytes) => bytes.length + 1
  | .lit _ => 1
  | .nil => 1
  | .ptr d => uptoBulk d + 1
  | .slice elems spare => uptoBulkAll elems + uptoBulkAll spare + 1
  | .agg parts => uptoBulkAll parts + 1
  | .iface _ d => uptoBulk d + 1
  | .map entries => uptoBulkEntries entries + 1
  | .held _ => 1
def uptoBulkAll {H : Type} : List (DataW H) → Nat
  | [] => 0
  | d :: r => uptoBulk d + uptoBulkAll r
def uptoBulkEntries {H : Type} : List (Lit × DataW H) → Nat
  | [] => 0
  | x :: r => uptoBulkEntry x + uptoBulkEntries r
def uptoBulkEntry {H : Type} : Lit × DataW H → Nat
  | (.string bytes, d) => bytes.length + uptoBulk d + 1
  | (_, d) => uptoBulk d + 1
 end
def uptoSmall : (H : Type) → List (DataW H) → Bool := fun _ ds => decide (uptoBulkAll ds ≤ 1048576)
def OpenSpec.upto (s : _root_.Go.ChangeSpec) : _root_.Go.OpenSpec := { _root_.Go.OpenSpec.ofChange s with cond := some uptoSmall }

/-- 'formularylaw08.RealsApply', WHERE WHAT IT READS IS OF BULK AT MOST 1048576: true; the input reads as it did. -/
def realsApplyUptoRow : OpenClaim := { program := "ytmoimcblmmcffaadoor", sum := "6fc5390b0a5b4e148a6b20cd9e242dda252ef2accdc38aff9890a5b07584a04f", func := "formulary/formularylaw08.RealsApply", spec := "realsApply", inPlace := ["math.Float32frombits", "math.Float64frombits", "math.Float32bits", "math.Float64bits", "math.sqrt", "math/bits.Sub64", "math.FMA"], unfollowed := true, recurses := true, named := ["math/bits.deBruijn64tab"], apart := false, laid := [("math/bits.deBruijn64tab", laid_math_bits_deBruijn64tab)], narrowed := true }
def RealsApplyUptoSaid : Prop := realsApplyUptoRow.holds Tryd.pinned (OpenSpec.upto realsApplySpec)

/-- 'formularylaw08.RealsConverts', WHERE WHAT IT READS IS OF BULK AT MOST 1048576: true; the input reads as it did. -/
def realsConvertsUptoRow : OpenClaim := { program := "ytmoimcblmmcffaadoor", sum := "6fc5390b0a5b4e148a6b20cd9e242dda252ef2accdc38aff9890a5b07584a04f", func := "formulary/formularylaw08.RealsConverts", spec := "realsConverts", inPlace := ["math.Float32frombits", "math.Float64frombits", "math.Float32bits", "math.Float64bits", "math.sqrt", "math/bits.Sub64", "math.FMA"], unfollowed := true, recurses := true, named := ["math/bits.deBruijn64tab"], apart := false, laid := [("math/bits.deBruijn64tab", laid_math_bits_deBruijn64tab)], narrowed := true }
def RealsConvertsUptoSaid : Prop := realsConvertsUptoRow.holds Tryd.pinned (OpenSpec.upto realsConvertsSpec)

/-- 'formularylaw08.RealsRoots', WHERE WHAT IT READS IS OF BULK AT MOST 1048576: true; the input reads as it did. -/
def realsRootsUptoRow : OpenClaim := { program := "ytmoimcblmmcffaadoor", sum := "6fc5390b0a5b4e148a6b20cd9e242dda252ef2accdc38aff9890a5b07584a04f", func := "formulary/formularylaw08.RealsRoots", spec := "realsRoots", inPlace := ["math.Float32frombits", "math.Float64frombits", "math.Float32bits", "math.Float64bits", "math.sqrt", "math/bits.Sub64", "math.FMA"], unfollowed := true, recurses := true, named := ["math/bits.deBruijn64tab"], apart := false, laid := [("math/bits.deBruijn64tab", laid_math_bits_deBruijn64tab)], narrowed := true }
def RealsRootsUptoSaid : Prop := realsRootsUptoRow.holds Tryd.pinned (OpenSpec.upto realsRootsSpec)

/-- 'formularylaw08.RealsCompares', WHERE WHAT IT READS IS OF BULK AT MOST 1048576: true; the input reads as it did. -/
def realsComparesUptoRow : OpenClaim := { program := "ytmoimcblmmcffaadoor", sum := "6fc5390b0a5b4e148a6b20cd9e242dda252ef2accdc38aff9890a5b07584a04f", func := "formulary/formularylaw08.RealsCompares", spec := "realsCompares", inPlace := ["math.Float32frombits", "math.Float64frombits", "math.Float32bits", "math.Float64bits", "math.sqrt", "math/bits.Sub64", "math.FMA"], unfollowed := true, recurses := true, named := ["math/bits.deBruijn64tab"], apart := false, laid := [("math/bits.deBruijn64tab", laid_math_bits_deBruijn64tab)], narrowed := true }
def RealsComparesUptoSaid : Prop := realsComparesUptoRow.holds Tryd.pinned (OpenSpec.upto realsComparesSpec)

/-- 'formularylaw08.RealsSums', WHERE WHAT IT READS IS OF BULK AT MOST 1048576: true; the input reads as it did. -/
def realsSumsUptoRow : OpenClaim := { program := "ytmoimcblmmcffaadoor", sum := "6fc5390b0a5b4e148a6b20cd9e242dda252ef2accdc38aff9890a5b07584a04f", func := "formulary/formularylaw08.RealsSums", spec := "realsSums", inPlace := ["math.Float32frombits", "math.Float64frombits", "math.Float32bits", "math.Float64bits", "math.sqrt", "math/bits.Sub64", "math.FMA"], unfollowed := true, recurses := true, named := ["math/bits.deBruijn64tab"], apart := false, laid := [("math/bits.deBruijn64tab", laid_math_bits_deBruijn64tab)], narrowed := true }
def RealsSumsUptoSaid : Prop := realsSumsUptoRow.holds Tryd.pinned (OpenSpec.upto realsSumsSpec)

/-- 'formularylaw08.RealsOnce', WHERE WHAT IT READS IS OF BULK AT MOST 1048576: true; the input reads as it did. -/
def realsOnceUptoRow : OpenClaim := { program := "ytmoimcblmmcffaadoor", sum := "6fc5390b0a5b4e148a6b20cd9e242dda252ef2accdc38aff9890a5b07584a04f", func := "formulary/formularylaw08.RealsOnce", spec := "realsOnce", inPlace := ["math.Float32frombits", "math.Float64frombits", "math.Float32bits", "math.Float64bits", "math.sqrt", "math/bits.Sub64", "math.FMA"], unfollowed := true, recurses := true, named := ["math/bits.deBruijn64tab"], apart := false, laid := [("math/bits.deBruijn64tab", laid_math_bits_deBruijn64tab)], narrowed := true }
def RealsOnceUptoSaid : Prop := realsOnceUptoRow.holds Tryd.pinned (OpenSpec.upto realsOnceSpec)

/-- 'formularylaw08.RealsParts', WHERE WHAT IT READS IS OF BULK AT MOST 1048576: true; the input reads as it did. -/
def realsPartsUptoRow : OpenClaim := { program := "ytmoimcblmmcffaadoor", sum := "6fc5390b0a5b4e148a6b20cd9e242dda252ef2accdc38aff9890a5b07584a04f", func := "formulary/formularylaw08.RealsParts", spec := "realsParts", inPlace := ["math.Float32frombits", "math.Float64frombits", "math.Float32bits", "math.Float64bits", "math.sqrt", "math/bits.Sub64", "math.FMA"], unfollowed := true, recurses := true, named := ["math/bits.deBruijn64tab"], apart := false, laid := [("math/bits.deBruijn64tab", laid_math_bits_deBruijn64tab)], narrowed := true }
def RealsPartsUptoSaid : Prop := realsPartsUptoRow.holds Tryd.pinned (OpenSpec.upto realsPartsSpec)

end Rows
end Go.Proofs.YtmoimcblmmcffaaDoor
