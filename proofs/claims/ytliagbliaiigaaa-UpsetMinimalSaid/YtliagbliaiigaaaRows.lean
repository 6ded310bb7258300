/-
  No cell of these rows narrows 'for every input' (looked for: loops, veiled, ifaces, maps, wideKeys, modest, calm, conditions, laid).
  DERIVED. THE GIVEN ROWS OF THIS SEAT. 7 by the template 'for every input the law returns true; each argument reads behind the call as it read before'; 0 by the template 'total and deterministic' (their statements: YtliagbliaiigaaaTotals.lean).
  GIVEN WITH THE SEED: the statements are not yours to turn. If you find one false, say at which input.
  Laid BY PROGRAM, IN A SANDBOX (cutbox-rows.mjs): the forced cells as the released guide's own fill.sh prints them over the translation fc3ac9917982ada4… (all of the seat's roots in one cut). By AI agents, Wed Nov 11 2026. No macro, syntax, notation, axiom, sorry.
-/
import Derived.Test.YtliagbliaiigaaaChecked
import GoSem.Claim
import GoSem.ClaimJoined
import GoSem.ClaimMapViews
import Derived.JoinedTies
import Derived.KernelRfl
namespace Go.Proofs.Ytliagbliaiigaaa
/- THE CELL 'sum', in the pinned program and in every row, IS THE sha256 OF THE DUMP (.gsa) THAT YtliagbliaiigaaaProg.lean LOADS. Nothing in Lean hashes anything: it is a label: what it is worth is what the hold of that sum in a sandbox is worth. -/
noncomputable def Try.pinned : Pinned := { name := "ytliagbliaiigaaa", sum := "fc3ac9917982ada4e40945f625445381dc4d559ad42039bd7284abef3eb7c867", checked := Try.checked }
namespace Rows
def none {H : Type} : Left H := { results := [], args := [] }

/-- 'petrinetlaw21.UpsetMakes': WHATEVER THE INPUT: true; the input reads as it did. -/
def upsetMakesSpec : ChangeSpec := { name := "upsetMakes", fn := fun _ => fun
  | [d1, d2] => { results := [.lit (.bool true)], args := [d1, d2] }
  | _ => none }
def upsetMakesRow : OpenClaim := { program := "ytliagbliaiigaaa", sum := "fc3ac9917982ada4e40945f625445381dc4d559ad42039bd7284abef3eb7c867", func := "petrinet/petrinetlaw21.UpsetMakes", spec := "upsetMakes", inPlace := ["slices.overlaps[[]int]"], unfollowed := true, recurses := true, apart := false }
def UpsetMakesSaid : Prop := upsetMakesRow.holds Try.pinned (OpenSpec.ofChange upsetMakesSpec)

/-- ITS FALSE NEIGHBOUR: 'it returns false'. Refute it at one input. -/
def upsetMakesWrong : ChangeSpec := { name := "upsetMakes", fn := fun _ => fun
  | [d1, d2] => { results := [.lit (.bool false)], args := [d1, d2] }
  | _ => none }
def UpsetMakesWrongFalsely : Prop := upsetMakesRow.holds Try.pinned (OpenSpec.ofChange upsetMakesWrong)

/-- 'petrinetlaw21.UpsetContains': WHATEVER THE INPUT: true; the input reads as it did. -/
def upsetContainsSpec : ChangeSpec := { name := "upsetContains", fn := fun _ => fun
  | [d1, d2] => { results := [.lit (.bool true)], args := [d1, d2] }
  | _ => none }
def upsetContainsRow : OpenClaim := { program := "ytliagbliaiigaaa", sum := "fc3ac9917982ada4e40945f625445381dc4d559ad42039bd7284abef3eb7c867", func := "petrinet/petrinetlaw21.UpsetContains", spec := "upsetContains", inPlace := ["slices.overlaps[[]int]"], unfollowed := true, recurses := true, apart := false }
def UpsetContainsSaid : Prop := upsetContainsRow.holds Try.pinned (OpenSpec.ofChange upsetContainsSpec)

/-- ITS FALSE NEIGHBOUR: 'it returns false'. Refute it at one input. -/
def upsetContainsWrong : ChangeSpec := { name := "upsetContains", fn := fun _ => fun
  | [d1, d2] => { results := [.lit (.bool false)], args := [d1, d2] }
  | _ => none }
def UpsetContainsWrongFalsely : Prop := upsetContainsRow.holds Try.pinned (OpenSpec.ofChange upsetContainsWrong)

/-- 'petrinetlaw21.UpsetPairs': WHATEVER THE INPUT: true; the input reads as it did. -/
def upsetPairsSpec : ChangeSpec := { name := "upsetPairs", fn := fun _ => fun
  | [d1, d2] => { results := [.lit (.bool true)], args := [d1, d2] }
  | _ => none }
def upsetPairsRow : OpenClaim := { program := "ytliagbliaiigaaa", sum := "fc3ac9917982ada4e40945f625445381dc4d559ad42039bd7284abef3eb7c867", func := "petrinet/petrinetlaw21.UpsetPairs", spec := "upsetPairs", inPlace := ["slices.overlaps[[]int]"], unfollowed := true, recurses := true, apart := false }
def UpsetPairsSaid : Prop := upsetPairsRow.holds Try.pinned (OpenSpec.ofChange upsetPairsSpec)

/-- ITS FALSE NEIGHBOUR: 'it returns false'. Refute it at one input. -/
def upsetPairsWrong : ChangeSpec := { name := "upsetPairs", fn := fun _ => fun
  | [d1, d2] => { results := [.lit (.bool false)], args := [d1, d2] }
  | _ => none }
def UpsetPairsWrongFalsely : Prop := upsetPairsRow.holds Try.pinned (OpenSpec.ofChange upsetPairsWrong)

/-- 'petrinetlaw21.UpsetLattice': WHATEVER THE INPUT: true; the input reads as it did. -/
def upsetLatticeSpec : ChangeSpec := { name := "upsetLattice", fn := fun _ => fun
  | [d1, d2, d3] => { results := [.lit (.bool true)], args := [d1, d2, d3] }
  | _ => none }
def upsetLatticeRow : OpenClaim := { program := "ytliagbliaiigaaa", sum := "fc3ac9917982ada4e40945f625445381dc4d559ad42039bd7284abef3eb7c867", func := "petrinet/petrinetlaw21.UpsetLattice", spec := "upsetLattice", inPlace := ["slices.overlaps[[]int]"], unfollowed := true, recurses := true, apart := false }
def UpsetLatticeSaid : Prop := upsetLatticeRow.holds Try.pinned (OpenSpec.ofChange upsetLatticeSpec)

/-- ITS FALSE NEIGHBOUR: 'it returns false'. Refute it at one input. -/
def upsetLatticeWrong : ChangeSpec := { name := "upsetLattice", fn := fun _ => fun
  | [d1, d2, d3] => { results := [.lit (.bool false)], args := [d1, d2, d3] }
  | _ => none }
def UpsetLatticeWrongFalsely : Prop := upsetLatticeRow.holds Try.pinned (OpenSpec.ofChange upsetLatticeWrong)

/-- 'petrinetlaw21.UpsetMinimal': WHATEVER THE INPUT: true; the input reads as it did. -/
def upsetMinimalSpec : ChangeSpec := { name := "upsetMinimal", fn := fun _ => fun
  | [d] => { results := [.lit (.bool true)], args := [d] }
  | _ => none }
def upsetMinimalRow : OpenClaim := { program := "ytliagbliaiigaaa", sum := "fc3ac9917982ada4e40945f625445381dc4d559ad42039bd7284abef3eb7c867", func := "petrinet/petrinetlaw21.UpsetMinimal", spec := "upsetMinimal", inPlace := ["slices.overlaps[[]int]"], unfollowed := true, recurses := true, apart := false }
def UpsetMinimalSaid : Prop := upsetMinimalRow.holds Try.pinned (OpenSpec.ofChange upsetMinimalSpec)

/-- ITS FALSE NEIGHBOUR: 'it returns false'. Refute it at one input. -/
def upsetMinimalWrong : ChangeSpec := { name := "upsetMinimal", fn := fun _ => fun
  | [d] => { results := [.lit (.bool false)], args := [d] }
  | _ => none }
def UpsetMinimalWrongFalsely : Prop := upsetMinimalRow.holds Try.pinned (OpenSpec.ofChange upsetMinimalWrong)

/-- 'petrinetlaw21.UpsetUpward': WHATEVER THE INPUT: true; the input reads as it did. -/
def upsetUpwardSpec : ChangeSpec := { name := "upsetUpward", fn := fun _ => fun
  | [d1, d2, d3] => { results := [.lit (.bool true)], args := [d1, d2, d3] }
  | _ => none }
def upsetUpwardRow : OpenClaim := { program := "ytliagbliaiigaaa", sum := "fc3ac9917982ada4e40945f625445381dc4d559ad42039bd7284abef3eb7c867", func := "petrinet/petrinetlaw21.UpsetUpward", spec := "upsetUpward", inPlace := ["slices.overlaps[[]int]"], unfollowed := true, recurses := true, apart := false }
def UpsetUpwardSaid : Prop := upsetUpwardRow.holds Try.pinned (OpenSpec.ofChange upsetUpwardSpec)

/-- ITS FALSE NEIGHBOUR: 'it returns false'. Refute it at one input. -/
def upsetUpwardWrong : ChangeSpec := { name := "upsetUpward", fn := fun _ => fun
  | [d1, d2, d3] => { results := [.lit (.bool false)], args := [d1, d2, d3] }
  | _ => none }
def UpsetUpwardWrongFalsely : Prop := upsetUpwardRow.holds Try.pinned (OpenSpec.ofChange upsetUpwardWrong)

/-- 'petrinetlaw21.UpsetSubsets': WHATEVER THE INPUT: true; the input reads as it did. -/
def upsetSubsetsSpec : ChangeSpec := { name := "upsetSubsets", fn := fun _ => fun
  | [d1, d2, d3] => { results := [.lit (.bool true)], args := [d1, d2, d3] }
  | _ => none }
def upsetSubsetsRow : OpenClaim := { program := "ytliagbliaiigaaa", sum := "fc3ac9917982ada4e40945f625445381dc4d559ad42039bd7284abef3eb7c867", func := "petrinet/petrinetlaw21.UpsetSubsets", spec := "upsetSubsets", inPlace := ["slices.overlaps[[]int]"], unfollowed := true, recurses := true, apart := false }
def UpsetSubsetsSaid : Prop := upsetSubsetsRow.holds Try.pinned (OpenSpec.ofChange upsetSubsetsSpec)

/-- ITS FALSE NEIGHBOUR: 'it returns false'. Refute it at one input. -/
def upsetSubsetsWrong : ChangeSpec := { name := "upsetSubsets", fn := fun _ => fun
  | [d1, d2, d3] => { results := [.lit (.bool false)], args := [d1, d2, d3] }
  | _ => none }
def UpsetSubsetsWrongFalsely : Prop := upsetSubsetsRow.holds Try.pinned (OpenSpec.ofChange upsetSubsetsWrong)

/- THE SECOND FORM. 'bulk': how many values and letters a reading holds, each counted each time it is reached (what is shared counts as often as it is met; a slice's spare places count too). A statement '..UptoSaid' is the law's where the arguments, and the package variables that the reading takes, are together of bulk at most 1048576: NARROWER than '..Said'. Prove '..Said' where nothing that the law and all that it calls make is longer than what came in: it says more and counts as full. Else prove '..UptoSaid'. A law counts once. -/
mutual
def uptoBulk {H : Type} : DataW H → Nat
  | .lit (.string bytes) => bytes.length + 1
  | .lit _ => 1
  | .nil => 1
  | .ptr d => uptoBulk d + 1
  | .slice elems spare => uptoBulkAll elems + uptoBulkAll spare + 1
  | .agg parts => uptoBulkAll parts + 1
  | .iface _ d => uptoBulk d + 1
  | .map entries => uptoBulkEntries entries + 1
  | .held _ => 1
def uptoBulkAll {H : Type} : List (DataW H) → Nat
  | [] => 0
  | d :: r => uptoBulk d + uptoBulkAll r
def uptoBulkEntries {H : Type} : List (Lit × DataW H) → Nat
  | [] => 0
  | x :: r => uptoBulkEntry x + uptoBulkEntries r
def uptoBulkEntry {H : Type} : Lit × DataW H → Nat
  | (.string bytes, d) => bytes.length + uptoBulk d + 1
  | (_, d) => uptoBulk d + 1
 end
def uptoSmall : (H : Type) → List (DataW H) → Bool := fun _ ds => decide (uptoBulkAll ds ≤ 1048576)
def OpenSpec.upto (s : _root_.Go.ChangeSpec) : _root_.Go.OpenSpec := { _root_.Go.OpenSpec.ofChange s with cond := some uptoSmall }

/-- 'petrinetlaw21.UpsetMakes', WHERE WHAT IT READS IS OF BULK AT MOST 1048576: true; the input reads as it did. -/
def upsetMakesUptoRow : OpenClaim := { program := "ytliagbliaiigaaa", sum := "fc3ac9917982ada4e40945f625445381dc4d559ad42039bd7284abef3eb7c867", func := "petrinet/petrinetlaw21.UpsetMakes", spec := "upsetMakes", inPlace := ["slices.overlaps[[]int]"], unfollowed := true, recurses := true, apart := false, narrowed := true }
def UpsetMakesUptoSaid : Prop := upsetMakesUptoRow.holds Try.pinned (OpenSpec.upto upsetMakesSpec)

/-- 'petrinetlaw21.UpsetContains', WHERE WHAT IT READS IS OF BULK AT MOST 1048576: true; the input reads as it did. -/
def upsetContainsUptoRow : OpenClaim := { program := "ytliagbliaiigaaa", sum := "fc3ac9917982ada4e40945f625445381dc4d559ad42039bd7284abef3eb7c867", func := "petrinet/petrinetlaw21.UpsetContains", spec := "upsetContains", inPlace := ["slices.overlaps[[]int]"], unfollowed := true, recurses := true, apart := false, narrowed := true }
def UpsetContainsUptoSaid : Prop := upsetContainsUptoRow.holds Try.pinned (OpenSpec.upto upsetContainsSpec)

/-- 'petrinetlaw21.UpsetPairs', WHERE WHAT IT READS IS OF BULK AT MOST 1048576: true; the input reads as it did. -/
def upsetPairsUptoRow : OpenClaim := { program := "ytliagbliaiigaaa", sum := "fc3ac9917982ada4e40945f625445381dc4d559ad42039bd7284abef3eb7c867", func := "petrinet/petrinetlaw21.UpsetPairs", spec := "upsetPairs", inPlace := ["slices.overlaps[[]int]"], unfollowed := true, recurses := true, apart := false, narrowed := true }
def UpsetPairsUptoSaid : Prop := upsetPairsUptoRow.holds Try.pinned (OpenSpec.upto upsetPairsSpec)

/-- 'petrinetlaw21.UpsetLattice', WHERE WHAT IT READS IS OF BULK AT MOST 1048576: true; the input reads as it did. -/
def upsetLatticeUptoRow : OpenClaim := { program := "ytliagbliaiigaaa", sum := "fc3ac9917982ada4e40945f625445381dc4d559ad42039bd7284abef3eb7c867", func := "petrinet/petrinetlaw21.UpsetLattice", spec := "upsetLattice", inPlace := ["slices.overlaps[[]int]"], unfollowed := true, recurses := true, apart := false, narrowed := true }
def UpsetLatticeUptoSaid : Prop := upsetLatticeUptoRow.holds Try.pinned (OpenSpec.upto upsetLatticeSpec)

/-- 'petrinetlaw21.UpsetMinimal', WHERE WHAT IT READS IS OF BULK AT MOST 1048576: true; the input reads as it did. -/
def upsetMinimalUptoRow : OpenClaim := { program := "ytliagbliaiigaaa", sum := "fc3ac9917982ada4e40945f625445381dc4d559ad42039bd7284abef3eb7c867", func := "petrinet/petrinetlaw21.UpsetMinimal", spec := "upsetMinimal", inPlace := ["slices.overlaps[[]int]"], unfollowed := true, recurses := true, apart := false, narrowed := true }
def UpsetMinimalUptoSaid : Prop := upsetMinimalUptoRow.holds Try.pinned (OpenSpec.upto upsetMinimalSpec)

/-- 'petrinetlaw21.UpsetUpward', WHERE WHAT IT READS IS OF BULK AT MOST 1048576: true; the input reads as it did. -/
def upsetUpwardUptoRow : OpenClaim := { program := "ytliagbliaiigaaa", sum := "fc3ac9917982ada4e40945f625445381dc4d559ad42039bd7284abef3eb7c867", func := "petrinet/petrinetlaw21.UpsetUpward", spec := "upsetUpward", inPlace := ["slices.overlaps[[]int]"], unfollowed := true, recurses := true, apart := false, narrowed := true }
def UpsetUpwardUptoSaid : Prop := upsetUpwardUptoRow.holds Try.pinned (OpenSpec.upto upsetUpwardSpec)

/-- 'petrinetlaw21.UpsetSubsets', WHERE WHAT IT READS IS OF BULK AT MOST 1048576: true; the input reads as it did. -/
def upsetSubsetsUptoRow : OpenClaim := { program := "ytliagbliaiigaaa", sum := "fc3ac9917982ada4e40945f625445381dc4d559ad42039bd7284abef3eb7c867", func := "petrinet/petrinetlaw21.UpsetSubsets", spec := "upsetSubsets", inPlace := ["slices.overlaps[[]int]"], unfollowed := true, recurses := true, apart := false, narrowed := true }
def UpsetSubsetsUptoSaid : Prop := upsetSubsetsUptoRow.holds Try.pinned (OpenSpec.upto upsetSubsetsSpec)

end Rows
end Go.Proofs.Ytliagbliaiigaaa
