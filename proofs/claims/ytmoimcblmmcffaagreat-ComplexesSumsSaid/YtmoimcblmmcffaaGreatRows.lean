/-
  No cell of these rows narrows 'for every input' (looked for: loops, veiled, ifaces, maps, wideKeys, modest, calm, conditions, laid).
  DERIVED. THE GIVEN ROWS OF THIS SEAT. 7 by the template 'for every input the law returns true; each argument reads behind the call as it read before'; 0 by the template 'total and deterministic' (their statements: YtmoimcblmmcffaaGreatTotals.lean).
  GIVEN WITH THE SEED: the statements are not yours to turn. If you find one false, say at which input.
  Laid BY PROGRAM, IN A SANDBOX (cutbox-rows.mjs): the forced cells as the released guide's own fill.sh prints them over the translation a955050de972b181… (all of the seat's roots in one cut). By AI agents, Wed Nov 11 2026. No macro, syntax, notation, axiom, sorry.
-/
import Derived.Test.YtmoimcblmmcffaaGreatChecked
import GoSem.Claim
import GoSem.ClaimJoined
import GoSem.ClaimMapViews
import Derived.JoinedTies
import Derived.KernelRfl
namespace Go.Proofs.YtmoimcblmmcffaaGreat
/- THE CELL 'sum', in the pinned program and in every row, IS THE sha256 OF THE DUMP (.gsa) THAT YtmoimcblmmcffaaGreatProg.lean LOADS. Nothing in Lean hashes anything: it is a label: what it is worth is what the hold of that sum in a sandbox is worth. -/
noncomputable def Tryz.pinned : Pinned := { name := "ytmoimcblmmcffaagreat", sum := "a955050de972b1818414e2920e3b8080164fe2f4d8eab957e6092c47f9eb5570", checked := Tryz.checked }
namespace Rows
def none {H : Type} : Left H := { results := [], args := [] }

/-- 'formularylaw10.ComplexesApply': WHATEVER THE INPUT: true; the input reads as it did. -/
def complexesApplySpec : ChangeSpec := { name := "complexesApply", fn := fun _ => fun
  | [d1, d2, d3] => { results := [.lit (.bool true)], args := [d1, d2, d3] }
  | _ => none }
def complexesApplyRow : OpenClaim := { program := "ytmoimcblmmcffaagreat", sum := "a955050de972b1818414e2920e3b8080164fe2f4d8eab957e6092c47f9eb5570", func := "formulary/formularylaw10.ComplexesApply", spec := "complexesApply", inPlace := ["math.Float32frombits", "math.Float64frombits", "math.Float32bits", "math.Float64bits", "math.sqrt"], unfollowed := true, recurses := true, apart := false }
def ComplexesApplySaid : Prop := complexesApplyRow.holds Tryz.pinned (OpenSpec.ofChange complexesApplySpec)

/-- ITS FALSE NEIGHBOUR: 'it returns false'. Refute it at one input. -/
def complexesApplyWrong : ChangeSpec := { name := "complexesApply", fn := fun _ => fun
  | [d1, d2, d3] => { results := [.lit (.bool false)], args := [d1, d2, d3] }
  | _ => none }
def ComplexesApplyWrongFalsely : Prop := complexesApplyRow.holds Tryz.pinned (OpenSpec.ofChange complexesApplyWrong)

/-- 'formularylaw10.ComplexesReal': WHATEVER THE INPUT: true; the input reads as it did. -/
def complexesRealSpec : ChangeSpec := { name := "complexesReal", fn := fun _ => fun
  | [d1, d2] => { results := [.lit (.bool true)], args := [d1, d2] }
  | _ => none }
def complexesRealRow : OpenClaim := { program := "ytmoimcblmmcffaagreat", sum := "a955050de972b1818414e2920e3b8080164fe2f4d8eab957e6092c47f9eb5570", func := "formulary/formularylaw10.ComplexesReal", spec := "complexesReal", inPlace := ["math.Float32frombits", "math.Float64frombits", "math.Float32bits", "math.Float64bits", "math.sqrt"], unfollowed := true, recurses := true, apart := false }
def ComplexesRealSaid : Prop := complexesRealRow.holds Tryz.pinned (OpenSpec.ofChange complexesRealSpec)

/-- ITS FALSE NEIGHBOUR: 'it returns false'. Refute it at one input. -/
def complexesRealWrong : ChangeSpec := { name := "complexesReal", fn := fun _ => fun
  | [d1, d2] => { results := [.lit (.bool false)], args := [d1, d2] }
  | _ => none }
def ComplexesRealWrongFalsely : Prop := complexesRealRow.holds Tryz.pinned (OpenSpec.ofChange complexesRealWrong)

/-- 'formularylaw10.ComplexesSymmetries': WHATEVER THE INPUT: true; the input reads as it did. -/
def complexesSymmetriesSpec : ChangeSpec := { name := "complexesSymmetries", fn := fun _ => fun
  | [d1, d2] => { results := [.lit (.bool true)], args := [d1, d2] }
  | _ => none }
def complexesSymmetriesRow : OpenClaim := { program := "ytmoimcblmmcffaagreat", sum := "a955050de972b1818414e2920e3b8080164fe2f4d8eab957e6092c47f9eb5570", func := "formulary/formularylaw10.ComplexesSymmetries", spec := "complexesSymmetries", inPlace := ["math.Float32frombits", "math.Float64frombits", "math.Float32bits", "math.Float64bits", "math.sqrt"], unfollowed := true, recurses := true, apart := false }
def ComplexesSymmetriesSaid : Prop := complexesSymmetriesRow.holds Tryz.pinned (OpenSpec.ofChange complexesSymmetriesSpec)

/-- ITS FALSE NEIGHBOUR: 'it returns false'. Refute it at one input. -/
def complexesSymmetriesWrong : ChangeSpec := { name := "complexesSymmetries", fn := fun _ => fun
  | [d1, d2] => { results := [.lit (.bool false)], args := [d1, d2] }
  | _ => none }
def ComplexesSymmetriesWrongFalsely : Prop := complexesSymmetriesRow.holds Tryz.pinned (OpenSpec.ofChange complexesSymmetriesWrong)

/-- 'formularylaw10.ComplexesRoots': WHATEVER THE INPUT: true; the input reads as it did. -/
def complexesRootsSpec : ChangeSpec := { name := "complexesRoots", fn := fun _ => fun
  | [d1, d2] => { results := [.lit (.bool true)], args := [d1, d2] }
  | _ => none }
def complexesRootsRow : OpenClaim := { program := "ytmoimcblmmcffaagreat", sum := "a955050de972b1818414e2920e3b8080164fe2f4d8eab957e6092c47f9eb5570", func := "formulary/formularylaw10.ComplexesRoots", spec := "complexesRoots", inPlace := ["math.Float32frombits", "math.Float64frombits", "math.Float32bits", "math.Float64bits", "math.sqrt"], unfollowed := true, recurses := true, apart := false }
def ComplexesRootsSaid : Prop := complexesRootsRow.holds Tryz.pinned (OpenSpec.ofChange complexesRootsSpec)

/-- ITS FALSE NEIGHBOUR: 'it returns false'. Refute it at one input. -/
def complexesRootsWrong : ChangeSpec := { name := "complexesRoots", fn := fun _ => fun
  | [d1, d2] => { results := [.lit (.bool false)], args := [d1, d2] }
  | _ => none }
def ComplexesRootsWrongFalsely : Prop := complexesRootsRow.holds Tryz.pinned (OpenSpec.ofChange complexesRootsWrong)

/-- 'formularylaw10.ComplexesSums': WHATEVER THE INPUT: true; the input reads as it did. -/
def complexesSumsSpec : ChangeSpec := { name := "complexesSums", fn := fun _ => fun
  | [d1, d2, d3] => { results := [.lit (.bool true)], args := [d1, d2, d3] }
  | _ => none }
def complexesSumsRow : OpenClaim := { program := "ytmoimcblmmcffaagreat", sum := "a955050de972b1818414e2920e3b8080164fe2f4d8eab957e6092c47f9eb5570", func := "formulary/formularylaw10.ComplexesSums", spec := "complexesSums", inPlace := ["math.Float32frombits", "math.Float64frombits", "math.Float32bits", "math.Float64bits", "math.sqrt"], unfollowed := true, recurses := true, apart := false }
def ComplexesSumsSaid : Prop := complexesSumsRow.holds Tryz.pinned (OpenSpec.ofChange complexesSumsSpec)

/-- ITS FALSE NEIGHBOUR: 'it returns false'. Refute it at one input. -/
def complexesSumsWrong : ChangeSpec := { name := "complexesSums", fn := fun _ => fun
  | [d1, d2, d3] => { results := [.lit (.bool false)], args := [d1, d2, d3] }
  | _ => none }
def ComplexesSumsWrongFalsely : Prop := complexesSumsRow.holds Tryz.pinned (OpenSpec.ofChange complexesSumsWrong)

/-- 'formularylaw10.ComplexesValues': WHATEVER THE INPUT: true; the input reads as it did. -/
def complexesValuesSpec : ChangeSpec := { name := "complexesValues", fn := fun _ => fun
  | [d1, d2, d3] => { results := [.lit (.bool true)], args := [d1, d2, d3] }
  | _ => none }
def complexesValuesRow : OpenClaim := { program := "ytmoimcblmmcffaagreat", sum := "a955050de972b1818414e2920e3b8080164fe2f4d8eab957e6092c47f9eb5570", func := "formulary/formularylaw10.ComplexesValues", spec := "complexesValues", inPlace := ["math.Float32frombits", "math.Float64frombits", "math.Float32bits", "math.Float64bits", "math.sqrt"], unfollowed := true, recurses := true, apart := false }
def ComplexesValuesSaid : Prop := complexesValuesRow.holds Tryz.pinned (OpenSpec.ofChange complexesValuesSpec)

/-- ITS FALSE NEIGHBOUR: 'it returns false'. Refute it at one input. -/
def complexesValuesWrong : ChangeSpec := { name := "complexesValues", fn := fun _ => fun
  | [d1, d2, d3] => { results := [.lit (.bool false)], args := [d1, d2, d3] }
  | _ => none }
def ComplexesValuesWrongFalsely : Prop := complexesValuesRow.holds Tryz.pinned (OpenSpec.ofChange complexesValuesWrong)

/-- 'formularylaw10.ComplexesConverts': WHATEVER THE INPUT: true; the input reads as it did. -/
def complexesConvertsSpec : ChangeSpec := { name := "complexesConverts", fn := fun _ => fun
  | [d1, d2] => { results := [.lit (.bool true)], args := [d1, d2] }
  | _ => none }
def complexesConvertsRow : OpenClaim := { program := "ytmoimcblmmcffaagreat", sum := "a955050de972b1818414e2920e3b8080164fe2f4d8eab957e6092c47f9eb5570", func := "formulary/formularylaw10.ComplexesConverts", spec := "complexesConverts", inPlace := ["math.Float32frombits", "math.Float64frombits", "math.Float32bits", "math.Float64bits", "math.sqrt"], unfollowed := true, recurses := true, apart := false }
def ComplexesConvertsSaid : Prop := complexesConvertsRow.holds Tryz.pinned (OpenSpec.ofChange complexesConvertsSpec)

/-- ITS FALSE NEIGHBOUR: 'it returns false'. Refute it at one input. -/
def complexesConvertsWrong : ChangeSpec := { name := "complexesConverts", fn := fun _ => fun
  | [d1, d2] => { results := [.lit (.bool false)], args := [d1, d2] }
  | _ => none }
def ComplexesConvertsWrongFalsely : Prop := complexesConvertsRow.holds Tryz.pinned (OpenSpec.ofChange complexesConvertsWrong)

/- THE SECOND FORM. 'bulk': how many values and letters a reading holds, each counted each time it is reached (what is shared counts as often as it is met; a slice's spare places count too). A statement '..UptoSaid' is the law's where the arguments, and the package variables that the reading takes, are together of bulk at most 1048576: NARROWER than '..Said'. Prove '..Said' where nothing that the law and all that it calls make is longer than what came in: it says more and counts as full. Else prove '..UptoSaid'. A law counts once. -/
mutual
def uptoBulk {H : Type} : DataW H → Nat
  | .lit (.string bytes) => bytes.length + 1
  | .lit _ => 1
  | .nil => 1
  | .ptr d => uptoBulk d + 1
  | .slice elems spare => uptoBulkAll elems + uptoBulkAll spare + 1
  | .agg parts => uptoBulkAll parts + 1
  | .iface _ d => uptoBulk d + 1
  | .map entries => uptoBulkEntries entries + 1
  | .held _ => 1
def uptoBulkAll {H : Type} : List (DataW H) → Nat
  | [] => 0
  | d :: r => uptoBulk d + uptoBulkAll r
def uptoBulkEntries {H : Type} : List (Lit × DataW H) → Nat
  | [] => 0
  | x :: r => uptoBulkEntry x + uptoBulkEntries r
def uptoBulkEntry {H : Type} : Lit × DataW H → Nat
  | (.string bytes, d) => bytes.length + uptoBulk d + 1
  | (_, d) => uptoBulk d + 1
 end
def uptoSmall : (H : Type) → List (DataW H) → Bool := fun _ ds => decide (uptoBulkAll ds ≤ 1048576)
def OpenSpec.upto (s : _root_.Go.ChangeSpec) : _root_.Go.OpenSpec := { _root_.Go.OpenSpec.ofChange s with cond := some uptoSmall }

/-- 'formularylaw10.ComplexesApply', WHERE WHAT IT READS IS OF BULK AT MOST 1048576: true; the input reads as it did. -/
def complexesApplyUptoRow : OpenClaim := { program := "ytmoimcblmmcffaagreat", sum := "a955050de972b1818414e2920e3b8080164fe2f4d8eab957e6092c47f9eb5570", func := "formulary/formularylaw10.ComplexesApply", spec := "complexesApply", inPlace := ["math.Float32frombits", "math.Float64frombits", "math.Float32bits", "math.Float64bits", "math.sqrt"], unfollowed := true, recurses := true, apart := false, narrowed := true }
def ComplexesApplyUptoSaid : Prop := complexesApplyUptoRow.holds Tryz.pinned (OpenSpec.upto complexesApplySpec)

/-- 'formularylaw10.ComplexesReal', WHERE WHAT IT READS IS OF BULK AT MOST 1048576: true; the input reads as it did. -/
def complexesRealUptoRow : OpenClaim := { program := "ytmoimcblmmcffaagreat", sum := "a955050de972b1818414e2920e3b8080164fe2f4d8eab957e6092c47f9eb5570", func := "formulary/formularylaw10.ComplexesReal", spec := "complexesReal", inPlace := ["math.Float32frombits", "math.Float64frombits", "math.Float32bits", "math.Float64bits", "math.sqrt"], unfollowed := true, recurses := true, apart := false, narrowed := true }
def ComplexesRealUptoSaid : Prop := complexesRealUptoRow.holds Tryz.pinned (OpenSpec.upto complexesRealSpec)

/-- 'formularylaw10.ComplexesSymmetries', WHERE WHAT IT READS IS OF BULK AT MOST 1048576: true; the input reads as it did. -/
def complexesSymmetriesUptoRow : OpenClaim := { program := "ytmoimcblmmcffaagreat", sum := "a955050de972b1818414e2920e3b8080164fe2f4d8eab957e6092c47f9eb5570", func := "formulary/formularylaw10.ComplexesSymmetries", spec := "complexesSymmetries", inPlace := ["math.Float32frombits", "math.Float64frombits", "math.Float32bits", "math.Float64bits", "math.sqrt"], unfollowed := true, recurses := true, apart := false, narrowed := true }
def ComplexesSymmetriesUptoSaid : Prop := complexesSymmetriesUptoRow.holds Tryz.pinned (OpenSpec.upto complexesSymmetriesSpec)

/-- 'formularylaw10.ComplexesRoots', WHERE WHAT IT READS IS OF BULK AT MOST 1048576: true; the input reads as it did. -/
def complexesRootsUptoRow : OpenClaim := { program := "ytmoimcblmmcffaagreat", sum := "a955050de972b1818414e2920e3b8080164fe2f4d8eab957e6092c47f9eb5570", func := "formulary/formularylaw10.ComplexesRoots", spec := "complexesRoots", inPlace := ["math.Float32frombits", "math.Float64frombits", "math.Float32bits", "math.Float64bits", "math.sqrt"], unfollowed := true, recurses := true, apart := false, narrowed := true }
def ComplexesRootsUptoSaid : Prop := complexesRootsUptoRow.holds Tryz.pinned (OpenSpec.upto complexesRootsSpec)

/-- 'formularylaw10.ComplexesSums', WHERE WHAT IT READS IS OF BULK AT MOST 1048576: true; the input reads as it did. -/
def complexesSumsUptoRow : OpenClaim := { program := "ytmoimcblmmcffaagreat", sum := "a955050de972b1818414e2920e3b8080164fe2f4d8eab957e6092c47f9eb5570", func := "formulary/formularylaw10.ComplexesSums", spec := "complexesSums", inPlace := ["math.Float32frombits", "math.Float64frombits", "math.Float32bits", "math.Float64bits", "math.sqrt"], unfollowed := true, recurses := true, apart := false, narrowed := true }
def ComplexesSumsUptoSaid : Prop := complexesSumsUptoRow.holds Tryz.pinned (OpenSpec.upto complexesSumsSpec)

/-- 'formularylaw10.ComplexesValues', WHERE WHAT IT READS IS OF BULK AT MOST 1048576: true; the input reads as it did. -/
def complexesValuesUptoRow : OpenClaim := { program := "ytmoimcblmmcffaagreat", sum := "a955050de972b1818414e2920e3b8080164fe2f4d8eab957e6092c47f9eb5570", func := "formulary/formularylaw10.ComplexesValues", spec := "complexesValues", inPlace := ["math.Float32frombits", "math.Float64frombits", "math.Float32bits", "math.Float64bits", "math.sqrt"], unfollowed := true, recurses := true, apart := false, narrowed := true }
def ComplexesValuesUptoSaid : Prop := complexesValuesUptoRow.holds Tryz.pinned (OpenSpec.upto complexesValuesSpec)

/-- 'formularylaw10.ComplexesConverts', WHERE WHAT IT READS IS OF BULK AT MOST 1048576: true; the input reads as it did. -/
def complexesConvertsUptoRow : OpenClaim := { program := "ytmoimcblmmcffaagreat", sum := "a955050de972b1818414e2920e3b8080164fe2f4d8eab957e6092c47f9eb5570", func := "formulary/formularylaw10.ComplexesConverts", spec := "complexesConverts", inPlace := ["math.Float32frombits", "math.Float64frombits", "math.Float32bits", "math.Float64bits", "math.sqrt"], unfollowed := true, recurses := true, apart := false, narrowed := true }
def ComplexesConvertsUptoSaid : Prop := complexesConvertsUptoRow.holds Tryz.pinned (OpenSpec.upto complexesConvertsSpec)

end Rows
end Go.Proofs.YtmoimcblmmcffaaGreat
