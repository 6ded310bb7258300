/-
  No cell of these rows narrows 'for every input' (looked for: loops, veiled, ifaces, maps, wideKeys, modest, calm, conditions, laid).
  DERIVED. THE GIVEN ROWS OF THIS SEAT. 4 by the template 'for every input the law returns true; each argument reads behind the call as it read before'; 0 by the template 'total and deterministic' (their statements: YteaimaafahpamaaTotals.lean).
  GIVEN WITH THE SEED: the statements are not yours to turn. If you find one false, say at which input.
  Laid BY PROGRAM, IN A SANDBOX (cutbox-rows.mjs): the forced cells as the released guide's own fill.sh prints them over the translation 1b569c3d035cea45… (all of the seat's roots in one cut). By AI agents, Wed Nov 11 2026. No macro, syntax, notation, axiom, sorry.
-/
import Derived.Test.YteaimaafahpamaaChecked
import GoSem.Claim
import GoSem.ClaimJoined
import GoSem.ClaimMapViews
import Derived.JoinedTies
import Derived.KernelRfl
namespace Go.Proofs.Yteaimaafahpamaa
/- THE CELL 'sum', in the pinned program and in every row, IS THE sha256 OF THE DUMP (.gsa) THAT YteaimaafahpamaaProg.lean LOADS. Nothing in Lean hashes anything: it is a label: what it is worth is what the hold of that sum in a sandbox is worth. -/
noncomputable def Try.pinned : Pinned := { name := "yteaimaafahpamaa", sum := "1b569c3d035cea451461979f9b0c3b7b680e11f8dfd7f9b8d03b275a190bbfcf", checked := Try.checked }
namespace Rows
def none {H : Type} : Left H := { results := [], args := [] }

/-- 'petrinetlaw53.SimulateFires': WHATEVER THE INPUT: true; the input reads as it did. -/
def simulateFiresSpec : ChangeSpec := { name := "simulateFires", fn := fun _ => fun
  | [d1, d2] => { results := [.lit (.bool true)], args := [d1, d2] }
  | _ => none }
def simulateFiresRow : OpenClaim := { program := "yteaimaafahpamaa", sum := "1b569c3d035cea451461979f9b0c3b7b680e11f8dfd7f9b8d03b275a190bbfcf", func := "petrinet/petrinetlaw53.SimulateFires", spec := "simulateFires", unfollowed := true, recurses := true, apart := false }
def SimulateFiresSaid : Prop := simulateFiresRow.holds Try.pinned (OpenSpec.ofChange simulateFiresSpec)

/-- ITS FALSE NEIGHBOUR: 'it returns false'. Refute it at one input. -/
def simulateFiresWrong : ChangeSpec := { name := "simulateFires", fn := fun _ => fun
  | [d1, d2] => { results := [.lit (.bool false)], args := [d1, d2] }
  | _ => none }
def SimulateFiresWrongFalsely : Prop := simulateFiresRow.holds Try.pinned (OpenSpec.ofChange simulateFiresWrong)

/-- 'petrinetlaw53.SimulateRuns': WHATEVER THE INPUT: true; the input reads as it did. -/
def simulateRunsSpec : ChangeSpec := { name := "simulateRuns", fn := fun _ => fun
  | [d1, d2] => { results := [.lit (.bool true)], args := [d1, d2] }
  | _ => none }
def simulateRunsRow : OpenClaim := { program := "yteaimaafahpamaa", sum := "1b569c3d035cea451461979f9b0c3b7b680e11f8dfd7f9b8d03b275a190bbfcf", func := "petrinet/petrinetlaw53.SimulateRuns", spec := "simulateRuns", unfollowed := true, recurses := true, apart := false }
def SimulateRunsSaid : Prop := simulateRunsRow.holds Try.pinned (OpenSpec.ofChange simulateRunsSpec)

/-- ITS FALSE NEIGHBOUR: 'it returns false'. Refute it at one input. -/
def simulateRunsWrong : ChangeSpec := { name := "simulateRuns", fn := fun _ => fun
  | [d1, d2] => { results := [.lit (.bool false)], args := [d1, d2] }
  | _ => none }
def SimulateRunsWrongFalsely : Prop := simulateRunsRow.holds Try.pinned (OpenSpec.ofChange simulateRunsWrong)

/-- 'petrinetlaw53.SimulateMany': WHATEVER THE INPUT: true; the input reads as it did. -/
def simulateManySpec : ChangeSpec := { name := "simulateMany", fn := fun _ => fun
  | [d1, d2, d3] => { results := [.lit (.bool true)], args := [d1, d2, d3] }
  | _ => none }
def simulateManyRow : OpenClaim := { program := "yteaimaafahpamaa", sum := "1b569c3d035cea451461979f9b0c3b7b680e11f8dfd7f9b8d03b275a190bbfcf", func := "petrinet/petrinetlaw53.SimulateMany", spec := "simulateMany", unfollowed := true, recurses := true, apart := false }
def SimulateManySaid : Prop := simulateManyRow.holds Try.pinned (OpenSpec.ofChange simulateManySpec)

/-- ITS FALSE NEIGHBOUR: 'it returns false'. Refute it at one input. -/
def simulateManyWrong : ChangeSpec := { name := "simulateMany", fn := fun _ => fun
  | [d1, d2, d3] => { results := [.lit (.bool false)], args := [d1, d2, d3] }
  | _ => none }
def SimulateManyWrongFalsely : Prop := simulateManyRow.holds Try.pinned (OpenSpec.ofChange simulateManyWrong)

/-- 'petrinetlaw53.SimulateExtends': WHATEVER THE INPUT: true; the input reads as it did. -/
def simulateExtendsSpec : ChangeSpec := { name := "simulateExtends", fn := fun _ => fun
  | [d1, d2, d3] => { results := [.lit (.bool true)], args := [d1, d2, d3] }
  | _ => none }
def simulateExtendsRow : OpenClaim := { program := "yteaimaafahpamaa", sum := "1b569c3d035cea451461979f9b0c3b7b680e11f8dfd7f9b8d03b275a190bbfcf", func := "petrinet/petrinetlaw53.SimulateExtends", spec := "simulateExtends", unfollowed := true, recurses := true, apart := false }
def SimulateExtendsSaid : Prop := simulateExtendsRow.holds Try.pinned (OpenSpec.ofChange simulateExtendsSpec)

/-- ITS FALSE NEIGHBOUR: 'it returns false'. Refute it at one input. -/
def simulateExtendsWrong : ChangeSpec := { name := "simulateExtends", fn := fun _ => fun
  | [d1, d2, d3] => { results := [.lit (.bool false)], args := [d1, d2, d3] }
  | _ => none }
def SimulateExtendsWrongFalsely : Prop := simulateExtendsRow.holds Try.pinned (OpenSpec.ofChange simulateExtendsWrong)

/- THE SECOND FORM. 'bulk': how many values and letters a reading holds, each counted each time it is reached (what is shared counts as often as it is met; a slice's spare places count too). A statement '..UptoSaid' is the law's where the arguments, and the package variables that the reading takes, are together of bulk at most 1048576: NARROWER than '..Said'. Prove '..Said' where nothing that the law and all that it calls make is longer than what came in: it says more and counts as full. Else prove '..UptoSaid'. A law counts once. -/
mutual
def uptoBulk {H : Type} : DataW H → Nat
  | .lit (.string bytes) => bytes.length + 1
  | .lit _ => 1
  | .nil => 1
  | .ptr d => uptoBulk d + 1
  | .slice elems spare => uptoBulkAll elems + uptoBulkAll spare + 1
  | .agg parts => uptoBulkAll parts + 1
  | .iface _ d => uptoBulk d + 1
  | .map entries => uptoBulkEntries entries + 1
  | .held _ => 1
def uptoBulkAll {H : Type} : List (DataW H) → Nat
  | [] => 0
  | d :: r => uptoBulk d + uptoBulkAll r
def uptoBulkEntries {H : Type} : List (Lit × DataW H) → Nat
  | [] => 0
  | x :: r => uptoBulkEntry x + uptoBulkEntries r
def uptoBulkEntry {H : Type} : Lit × DataW H → Nat
  | (.string bytes, d) => bytes.length + uptoBulk d + 1
  | (_, d) => uptoBulk d + 1
 end
def uptoSmall : (H : Type) → List (DataW H) → Bool := fun _ ds => decide (uptoBulkAll ds ≤ 1048576)
def OpenSpec.upto (s : _root_.Go.ChangeSpec) : _root_.Go.OpenSpec := { _root_.Go.OpenSpec.ofChange s with cond := some uptoSmall }

/-- 'petrinetlaw53.SimulateFires', WHERE WHAT IT READS IS OF BULK AT MOST 1048576: true; the input reads as it did. -/
def simulateFiresUptoRow : OpenClaim := { program := "yteaimaafahpamaa", sum := "1b569c3d035cea451461979f9b0c3b7b680e11f8dfd7f9b8d03b275a190bbfcf", func := "petrinet/petrinetlaw53.SimulateFires", spec := "simulateFires", unfollowed := true, recurses := true, apart := false, narrowed := true }
def SimulateFiresUptoSaid : Prop := simulateFiresUptoRow.holds Try.pinned (OpenSpec.upto simulateFiresSpec)

/-- 'petrinetlaw53.SimulateRuns', WHERE WHAT IT READS IS OF BULK AT MOST 1048576: true; the input reads as it did. -/
def simulateRunsUptoRow : OpenClaim := { program := "yteaimaafahpamaa", sum := "1b569c3d035cea451461979f9b0c3b7b680e11f8dfd7f9b8d03b275a190bbfcf", func := "petrinet/petrinetlaw53.SimulateRuns", spec := "simulateRuns", unfollowed := true, recurses := true, apart := false, narrowed := true }
def SimulateRunsUptoSaid : Prop := simulateRunsUptoRow.holds Try.pinned (OpenSpec.upto simulateRunsSpec)

/-- 'petrinetlaw53.SimulateMany', WHERE WHAT IT READS IS OF BULK AT MOST 1048576: true; the input reads as it did. -/
def simulateManyUptoRow : OpenClaim := { program := "yteaimaafahpamaa", sum := "1b569c3d035cea451461979f9b0c3b7b680e11f8dfd7f9b8d03b275a190bbfcf", func := "petrinet/petrinetlaw53.SimulateMany", spec := "simulateMany", unfollowed := true, recurses := true, apart := false, narrowed := true }
def SimulateManyUptoSaid : Prop := simulateManyUptoRow.holds Try.pinned (OpenSpec.upto simulateManySpec)

/-- 'petrinetlaw53.SimulateExtends', WHERE WHAT IT READS IS OF BULK AT MOST 1048576: true; the input reads as it did. -/
def simulateExtendsUptoRow : OpenClaim := { program := "yteaimaafahpamaa", sum := "1b569c3d035cea451461979f9b0c3b7b680e11f8dfd7f9b8d03b275a190bbfcf", func := "petrinet/petrinetlaw53.SimulateExtends", spec := "simulateExtends", unfollowed := true, recurses := true, apart := false, narrowed := true }
def SimulateExtendsUptoSaid : Prop := simulateExtendsUptoRow.holds Try.pinned (OpenSpec.upto simulateExtendsSpec)

end Rows
end Go.Proofs.Yteaimaafahpamaa
