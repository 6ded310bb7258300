/-
  No cell of these rows narrows 'for every input' (looked for: loops, veiled, ifaces, maps, wideKeys, modest, calm, conditions, laid).
  DERIVED. THE GIVEN ROWS OF THIS SEAT. 6 by the template 'for every input the law returns true; each argument reads behind the call as it read before'; 0 by the template 'total and deterministic' (their statements: YtiamncgagfjegaaTotals.lean).
  GIVEN WITH THE SEED: the statements are not yours to turn. If you find one false, say at which input.
  Laid BY PROGRAM, IN A SANDBOX (cutbox-rows.mjs): the forced cells as the released guide's own fill.sh prints them over the translation 6bb10d1d9a069a96… (all of the seat's roots in one cut). By AI agents, Wed Nov 11 2026. No macro, syntax, notation, axiom, sorry.
-/
import Derived.Test.YtiamncgagfjegaaChecked
import GoSem.Claim
import GoSem.ClaimJoined
import GoSem.ClaimMapViews
import Derived.JoinedTies
import Derived.KernelRfl
namespace Go.Proofs.Ytiamncgagfjegaa
/- THE CELL 'sum', in the pinned program and in every row, IS THE sha256 OF THE DUMP (.gsa) THAT YtiamncgagfjegaaProg.lean LOADS. Nothing in Lean hashes anything: it is a label: what it is worth is what the hold of that sum in a sandbox is worth. -/
noncomputable def Try.pinned : Pinned := { name := "ytiamncgagfjegaa", sum := "6bb10d1d9a069a96de1bc4bf15fc2167e2f09e813ff916fabf410a7f1930a301", checked := Try.checked }
namespace Rows
def none {H : Type} : Left H := { results := [], args := [] }

/-- 'petrinetlaw11.FiringFires': WHATEVER THE INPUT: true; the input reads as it did. -/
def firingFiresSpec : ChangeSpec := { name := "firingFires", fn := fun _ => fun
  | [d1, d2, d3] => { results := [.lit (.bool true)], args := [d1, d2, d3] }
  | _ => none }
def firingFiresRow : OpenClaim := { program := "ytiamncgagfjegaa", sum := "6bb10d1d9a069a96de1bc4bf15fc2167e2f09e813ff916fabf410a7f1930a301", func := "petrinet/petrinetlaw11.FiringFires", spec := "firingFires", unfollowed := true, recurses := true, apart := false }
def FiringFiresSaid : Prop := firingFiresRow.holds Try.pinned (OpenSpec.ofChange firingFiresSpec)

/-- ITS FALSE NEIGHBOUR: 'it returns false'. Refute it at one input. -/
def firingFiresWrong : ChangeSpec := { name := "firingFires", fn := fun _ => fun
  | [d1, d2, d3] => { results := [.lit (.bool false)], args := [d1, d2, d3] }
  | _ => none }
def FiringFiresWrongFalsely : Prop := firingFiresRow.holds Try.pinned (OpenSpec.ofChange firingFiresWrong)

/-- 'petrinetlaw11.FiringEnables': WHATEVER THE INPUT: true; the input reads as it did. -/
def firingEnablesSpec : ChangeSpec := { name := "firingEnables", fn := fun _ => fun
  | [d1, d2] => { results := [.lit (.bool true)], args := [d1, d2] }
  | _ => none }
def firingEnablesRow : OpenClaim := { program := "ytiamncgagfjegaa", sum := "6bb10d1d9a069a96de1bc4bf15fc2167e2f09e813ff916fabf410a7f1930a301", func := "petrinet/petrinetlaw11.FiringEnables", spec := "firingEnables", unfollowed := true, recurses := true, apart := false }
def FiringEnablesSaid : Prop := firingEnablesRow.holds Try.pinned (OpenSpec.ofChange firingEnablesSpec)

/-- ITS FALSE NEIGHBOUR: 'it returns false'. Refute it at one input. -/
def firingEnablesWrong : ChangeSpec := { name := "firingEnables", fn := fun _ => fun
  | [d1, d2] => { results := [.lit (.bool false)], args := [d1, d2] }
  | _ => none }
def FiringEnablesWrongFalsely : Prop := firingEnablesRow.holds Try.pinned (OpenSpec.ofChange firingEnablesWrong)

/-- 'petrinetlaw11.FiringRuns': WHATEVER THE INPUT: true; the input reads as it did. -/
def firingRunsSpec : ChangeSpec := { name := "firingRuns", fn := fun _ => fun
  | [d1, d2, d3] => { results := [.lit (.bool true)], args := [d1, d2, d3] }
  | _ => none }
def firingRunsRow : OpenClaim := { program := "ytiamncgagfjegaa", sum := "6bb10d1d9a069a96de1bc4bf15fc2167e2f09e813ff916fabf410a7f1930a301", func := "petrinet/petrinetlaw11.FiringRuns", spec := "firingRuns", unfollowed := true, recurses := true, apart := false }
def FiringRunsSaid : Prop := firingRunsRow.holds Try.pinned (OpenSpec.ofChange firingRunsSpec)

/-- ITS FALSE NEIGHBOUR: 'it returns false'. Refute it at one input. -/
def firingRunsWrong : ChangeSpec := { name := "firingRuns", fn := fun _ => fun
  | [d1, d2, d3] => { results := [.lit (.bool false)], args := [d1, d2, d3] }
  | _ => none }
def FiringRunsWrongFalsely : Prop := firingRunsRow.holds Try.pinned (OpenSpec.ofChange firingRunsWrong)

/-- 'petrinetlaw11.FiringGrows': WHATEVER THE INPUT: true; the input reads as it did. -/
def firingGrowsSpec : ChangeSpec := { name := "firingGrows", fn := fun _ => fun
  | [d1, d2, d3] => { results := [.lit (.bool true)], args := [d1, d2, d3] }
  | _ => none }
def firingGrowsRow : OpenClaim := { program := "ytiamncgagfjegaa", sum := "6bb10d1d9a069a96de1bc4bf15fc2167e2f09e813ff916fabf410a7f1930a301", func := "petrinet/petrinetlaw11.FiringGrows", spec := "firingGrows", unfollowed := true, recurses := true, apart := false }
def FiringGrowsSaid : Prop := firingGrowsRow.holds Try.pinned (OpenSpec.ofChange firingGrowsSpec)

/-- ITS FALSE NEIGHBOUR: 'it returns false'. Refute it at one input. -/
def firingGrowsWrong : ChangeSpec := { name := "firingGrows", fn := fun _ => fun
  | [d1, d2, d3] => { results := [.lit (.bool false)], args := [d1, d2, d3] }
  | _ => none }
def FiringGrowsWrongFalsely : Prop := firingGrowsRow.holds Try.pinned (OpenSpec.ofChange firingGrowsWrong)

/-- 'petrinetlaw11.FiringCounts': WHATEVER THE INPUT: true; the input reads as it did. -/
def firingCountsSpec : ChangeSpec := { name := "firingCounts", fn := fun _ => fun
  | [d1, d2] => { results := [.lit (.bool true)], args := [d1, d2] }
  | _ => none }
def firingCountsRow : OpenClaim := { program := "ytiamncgagfjegaa", sum := "6bb10d1d9a069a96de1bc4bf15fc2167e2f09e813ff916fabf410a7f1930a301", func := "petrinet/petrinetlaw11.FiringCounts", spec := "firingCounts", unfollowed := true, recurses := true, apart := false }
def FiringCountsSaid : Prop := firingCountsRow.holds Try.pinned (OpenSpec.ofChange firingCountsSpec)

/-- ITS FALSE NEIGHBOUR: 'it returns false'. Refute it at one input. -/
def firingCountsWrong : ChangeSpec := { name := "firingCounts", fn := fun _ => fun
  | [d1, d2] => { results := [.lit (.bool false)], args := [d1, d2] }
  | _ => none }
def FiringCountsWrongFalsely : Prop := firingCountsRow.holds Try.pinned (OpenSpec.ofChange firingCountsWrong)

/-- 'petrinetlaw11.FiringEquation': WHATEVER THE INPUT: true; the input reads as it did. -/
def firingEquationSpec : ChangeSpec := { name := "firingEquation", fn := fun _ => fun
  | [d1, d2, d3] => { results := [.lit (.bool true)], args := [d1, d2, d3] }
  | _ => none }
def firingEquationRow : OpenClaim := { program := "ytiamncgagfjegaa", sum := "6bb10d1d9a069a96de1bc4bf15fc2167e2f09e813ff916fabf410a7f1930a301", func := "petrinet/petrinetlaw11.FiringEquation", spec := "firingEquation", unfollowed := true, recurses := true, apart := false }
def FiringEquationSaid : Prop := firingEquationRow.holds Try.pinned (OpenSpec.ofChange firingEquationSpec)

/-- ITS FALSE NEIGHBOUR: 'it returns false'. Refute it at one input. -/
def firingEquationWrong : ChangeSpec := { name := "firingEquation", fn := fun _ => fun
  | [d1, d2, d3] => { results := [.lit (.bool false)], args := [d1, d2, d3] }
  | _ => none }
def FiringEquationWrongFalsely : Prop := firingEquationRow.holds Try.pinned (OpenSpec.ofChange firingEquationWrong)

/- THE SECOND FORM. 'bulk': how many values and letters a reading holds, each counted each time it is reached (what is shared counts as often as it is met; a slice's spare places count too). A statement '..UptoSaid' is the law's where the arguments, and the package variables that the reading takes, are together of bulk at most 1048576: NARROWER than '..Said'. Prove '..Said' where nothing that the law and all that it calls make is longer than what came in: it says more and counts as full. Else prove '..UptoSaid'. A law counts once. -/
mutual
def uptoBulk {H : Type} : DataW H → Nat
  | .lit (.string bytes) => bytes.length + 1
  | .lit _ => 1
  | .nil => 1
  | .ptr d => uptoBulk d + 1
  | .slice elems spare => uptoBulkAll elems + uptoBulkAll spare + 1
  | .agg parts => uptoBulkAll parts + 1
  | .iface _ d => uptoBulk d + 1
  | .map entries => uptoBulkEntries entries + 1
  | .held _ => 1
def uptoBulkAll {H : Type} : List (DataW H) → Nat
  | [] => 0
  | d :: r => uptoBulk d + uptoBulkAll r
def uptoBulkEntries {H : Type} : List (Lit × DataW H) → Nat
  | [] => 0
  | x :: r => uptoBulkEntry x + uptoBulkEntries r
def uptoBulkEntry {H : Type} : Lit × DataW H → Nat
  | (.string bytes, d) => bytes.length + uptoBulk d + 1
  | (_, d) => uptoBulk d + 1
 end
def uptoSmall : (H : Type) → List (DataW H) → Bool := fun _ ds => decide (uptoBulkAll ds ≤ 1048576)
def OpenSpec.upto (s : _root_.Go.ChangeSpec) : _root_.Go.OpenSpec := { _root_.Go.OpenSpec.ofChange s with cond := some uptoSmall }

/-- 'petrinetlaw11.FiringFires', WHERE WHAT IT READS IS OF BULK AT MOST 1048576: true; the input reads as it did. -/
def firingFiresUptoRow : OpenClaim := { program := "ytiamncgagfjegaa", sum := "6bb10d1d9a069a96de1bc4bf15fc2167e2f09e813ff916fabf410a7f1930a301", func := "petrinet/petrinetlaw11.FiringFires", spec := "firingFires", unfollowed := true, recurses := true, apart := false, narrowed := true }
def FiringFiresUptoSaid : Prop := firingFiresUptoRow.holds Try.pinned (OpenSpec.upto firingFiresSpec)

/-- 'petrinetlaw11.FiringEnables', WHERE WHAT IT READS IS OF BULK AT MOST 1048576: true; the input reads as it did. -/
def firingEnablesUptoRow : OpenClaim := { program := "ytiamncgagfjegaa", sum := "6bb10d1d9a069a96de1bc4bf15fc2167e2f09e813ff916fabf410a7f1930a301", func := "petrinet/petrinetlaw11.FiringEnables", spec := "firingEnables", unfollowed := true, recurses := true, apart := false, narrowed := true }
def FiringEnablesUptoSaid : Prop := firingEnablesUptoRow.holds Try.pinned (OpenSpec.upto firingEnablesSpec)

/-- 'petrinetlaw11.FiringRuns', WHERE WHAT IT READS IS OF BULK AT MOST 1048576: true; the input reads as it did. -/
def firingRunsUptoRow : OpenClaim := { program := "ytiamncgagfjegaa", sum := "6bb10d1d9a069a96de1bc4bf15fc2167e2f09e813ff916fabf410a7f1930a301", func := "petrinet/petrinetlaw11.FiringRuns", spec := "firingRuns", unfollowed := true, recurses := true, apart := false, narrowed := true }
def FiringRunsUptoSaid : Prop := firingRunsUptoRow.holds Try.pinned (OpenSpec.upto firingRunsSpec)

/-- 'petrinetlaw11.FiringGrows', WHERE WHAT IT READS IS OF BULK AT MOST 1048576: true; the input reads as it did. -/
def firingGrowsUptoRow : OpenClaim := { program := "ytiamncgagfjegaa", sum := "6bb10d1d9a069a96de1bc4bf15fc2167e2f09e813ff916fabf410a7f1930a301", func := "petrinet/petrinetlaw11.FiringGrows", spec := "firingGrows", unfollowed := true, recurses := true, apart := false, narrowed := true }
def FiringGrowsUptoSaid : Prop := firingGrowsUptoRow.holds Try.pinned (OpenSpec.upto firingGrowsSpec)

/-- 'petrinetlaw11.FiringCounts', WHERE WHAT IT READS IS OF BULK AT MOST 1048576: true; the input reads as it did. -/
def firingCountsUptoRow : OpenClaim := { program := "ytiamncgagfjegaa", sum := "6bb10d1d9a069a96de1bc4bf15fc2167e2f09e813ff916fabf410a7f1930a301", func := "petrinet/petrinetlaw11.FiringCounts", spec := "firingCounts", unfollowed := true, recurses := true, apart := false, narrowed := true }
def FiringCountsUptoSaid : Prop := firingCountsUptoRow.holds Try.pinned (OpenSpec.upto firingCountsSpec)

/-- 'petrinetlaw11.FiringEquation', WHERE WHAT IT READS IS OF BULK AT MOST 1048576: true; the input reads as it did. -/
def firingEquationUptoRow : OpenClaim := { program := "ytiamncgagfjegaa", sum := "6bb10d1d9a069a96de1bc4bf15fc2167e2f09e813ff916fabf410a7f1930a301", func := "petrinet/petrinetlaw11.FiringEquation", spec := "firingEquation", unfollowed := true, recurses := true, apart := false, narrowed := true }
def FiringEquationUptoSaid : Prop := firingEquationUptoRow.holds Try.pinned (OpenSpec.upto firingEquationSpec)

end Rows
end Go.Proofs.Ytiamncgagfjegaa
