/-
  No cell of these rows narrows 'for every input' (looked for: loops, veiled, ifaces, maps, wideKeys, modest, calm, conditions, laid).
  DERIVED. THE GIVEN ROWS OF THIS SEAT. 6 by the template 'for every input the law returns true; each argument reads behind the call as it read before'; 0 by the template 'total and deterministic' (their statements: YtlckejjmkjgknabTotals.lean).
  GIVEN WITH THE SEED: the statements are not yours to turn. If you find one false, say at which input.
  Laid BY PROGRAM, IN A SANDBOX (cutbox-rows.mjs): the forced cells as the released guide's own fill.sh prints them over the translation 03acda6ad0dc27d9… (all of the seat's roots in one cut). By AI agents, Wed Nov 11 2026. No macro, syntax, notation, axiom, sorry.
-/
import Derived.Test.YtlckejjmkjgknabChecked
import GoSem.Claim
import GoSem.ClaimJoined
import GoSem.ClaimMapViews
import Derived.JoinedTies
import Derived.KernelRfl
namespace Go.Proofs.Ytlckejjmkjgknab
/- THE CELL 'sum', in the pinned program and in every row, IS THE sha256 OF THE DUMP (.gsa) THAT YtlckejjmkjgknabProg.lean LOADS. Nothing in Lean hashes anything: it is a label: what it is worth is what the hold of that sum in a sandbox is worth. -/
noncomputable def Try.pinned : Pinned := { name := "ytlckejjmkjgknab", sum := "03acda6ad0dc27d9d5a4d11f65f63859f19a089b87351028ac68ba27130e5b55", checked := Try.checked }
namespace Rows
def none {H : Type} : Left H := { results := [], args := [] }

/-- 'petrinetlaw35.NaturalChecks': WHATEVER THE INPUT: true; the input reads as it did. -/
def naturalChecksSpec : ChangeSpec := { name := "naturalChecks", fn := fun _ => fun
  | [d] => { results := [.lit (.bool true)], args := [d] }
  | _ => none }
def naturalChecksRow : OpenClaim := { program := "ytlckejjmkjgknab", sum := "03acda6ad0dc27d9d5a4d11f65f63859f19a089b87351028ac68ba27130e5b55", func := "petrinet/petrinetlaw35.NaturalChecks", spec := "naturalChecks", unfollowed := true, recurses := true, apart := false }
def NaturalChecksSaid : Prop := naturalChecksRow.holds Try.pinned (OpenSpec.ofChange naturalChecksSpec)

/-- ITS FALSE NEIGHBOUR: 'it returns false'. Refute it at one input. -/
def naturalChecksWrong : ChangeSpec := { name := "naturalChecks", fn := fun _ => fun
  | [d] => { results := [.lit (.bool false)], args := [d] }
  | _ => none }
def NaturalChecksWrongFalsely : Prop := naturalChecksRow.holds Try.pinned (OpenSpec.ofChange naturalChecksWrong)

/-- 'petrinetlaw35.NaturalSolves': WHATEVER THE INPUT: true; the input reads as it did. -/
def naturalSolvesSpec : ChangeSpec := { name := "naturalSolves", fn := fun _ => fun
  | [d] => { results := [.lit (.bool true)], args := [d] }
  | _ => none }
def naturalSolvesRow : OpenClaim := { program := "ytlckejjmkjgknab", sum := "03acda6ad0dc27d9d5a4d11f65f63859f19a089b87351028ac68ba27130e5b55", func := "petrinet/petrinetlaw35.NaturalSolves", spec := "naturalSolves", unfollowed := true, recurses := true, apart := false }
def NaturalSolvesSaid : Prop := naturalSolvesRow.holds Try.pinned (OpenSpec.ofChange naturalSolvesSpec)

/-- ITS FALSE NEIGHBOUR: 'it returns false'. Refute it at one input. -/
def naturalSolvesWrong : ChangeSpec := { name := "naturalSolves", fn := fun _ => fun
  | [d] => { results := [.lit (.bool false)], args := [d] }
  | _ => none }
def NaturalSolvesWrongFalsely : Prop := naturalSolvesRow.holds Try.pinned (OpenSpec.ofChange naturalSolvesWrong)

/-- 'petrinetlaw35.NaturalCounts': WHATEVER THE INPUT: true; the input reads as it did. -/
def naturalCountsSpec : ChangeSpec := { name := "naturalCounts", fn := fun _ => fun
  | [d] => { results := [.lit (.bool true)], args := [d] }
  | _ => none }
def naturalCountsRow : OpenClaim := { program := "ytlckejjmkjgknab", sum := "03acda6ad0dc27d9d5a4d11f65f63859f19a089b87351028ac68ba27130e5b55", func := "petrinet/petrinetlaw35.NaturalCounts", spec := "naturalCounts", unfollowed := true, recurses := true, apart := false }
def NaturalCountsSaid : Prop := naturalCountsRow.holds Try.pinned (OpenSpec.ofChange naturalCountsSpec)

/-- ITS FALSE NEIGHBOUR: 'it returns false'. Refute it at one input. -/
def naturalCountsWrong : ChangeSpec := { name := "naturalCounts", fn := fun _ => fun
  | [d] => { results := [.lit (.bool false)], args := [d] }
  | _ => none }
def NaturalCountsWrongFalsely : Prop := naturalCountsRow.holds Try.pinned (OpenSpec.ofChange naturalCountsWrong)

/-- 'petrinetlaw35.NaturalShifts': WHATEVER THE INPUT: true; the input reads as it did. -/
def naturalShiftsSpec : ChangeSpec := { name := "naturalShifts", fn := fun _ => fun
  | [d] => { results := [.lit (.bool true)], args := [d] }
  | _ => none }
def naturalShiftsRow : OpenClaim := { program := "ytlckejjmkjgknab", sum := "03acda6ad0dc27d9d5a4d11f65f63859f19a089b87351028ac68ba27130e5b55", func := "petrinet/petrinetlaw35.NaturalShifts", spec := "naturalShifts", unfollowed := true, recurses := true, apart := false }
def NaturalShiftsSaid : Prop := naturalShiftsRow.holds Try.pinned (OpenSpec.ofChange naturalShiftsSpec)

/-- ITS FALSE NEIGHBOUR: 'it returns false'. Refute it at one input. -/
def naturalShiftsWrong : ChangeSpec := { name := "naturalShifts", fn := fun _ => fun
  | [d] => { results := [.lit (.bool false)], args := [d] }
  | _ => none }
def NaturalShiftsWrongFalsely : Prop := naturalShiftsRow.holds Try.pinned (OpenSpec.ofChange naturalShiftsWrong)

/-- 'petrinetlaw35.NaturalAlls': WHATEVER THE INPUT: true; the input reads as it did. -/
def naturalAllsSpec : ChangeSpec := { name := "naturalAlls", fn := fun _ => fun
  | [d1, d2] => { results := [.lit (.bool true)], args := [d1, d2] }
  | _ => none }
def naturalAllsRow : OpenClaim := { program := "ytlckejjmkjgknab", sum := "03acda6ad0dc27d9d5a4d11f65f63859f19a089b87351028ac68ba27130e5b55", func := "petrinet/petrinetlaw35.NaturalAlls", spec := "naturalAlls", unfollowed := true, recurses := true, apart := false }
def NaturalAllsSaid : Prop := naturalAllsRow.holds Try.pinned (OpenSpec.ofChange naturalAllsSpec)

/-- ITS FALSE NEIGHBOUR: 'it returns false'. Refute it at one input. -/
def naturalAllsWrong : ChangeSpec := { name := "naturalAlls", fn := fun _ => fun
  | [d1, d2] => { results := [.lit (.bool false)], args := [d1, d2] }
  | _ => none }
def NaturalAllsWrongFalsely : Prop := naturalAllsRow.holds Try.pinned (OpenSpec.ofChange naturalAllsWrong)

/-- 'petrinetlaw35.NaturalAgrees': WHATEVER THE INPUT: true; the input reads as it did. -/
def naturalAgreesSpec : ChangeSpec := { name := "naturalAgrees", fn := fun _ => fun
  | [d] => { results := [.lit (.bool true)], args := [d] }
  | _ => none }
def naturalAgreesRow : OpenClaim := { program := "ytlckejjmkjgknab", sum := "03acda6ad0dc27d9d5a4d11f65f63859f19a089b87351028ac68ba27130e5b55", func := "petrinet/petrinetlaw35.NaturalAgrees", spec := "naturalAgrees", unfollowed := true, recurses := true, apart := false }
def NaturalAgreesSaid : Prop := naturalAgreesRow.holds Try.pinned (OpenSpec.ofChange naturalAgreesSpec)

/-- ITS FALSE NEIGHBOUR: 'it returns false'. Refute it at one input. -/
def naturalAgreesWrong : ChangeSpec := { name := "naturalAgrees", fn := fun _ => fun
  | [d] => { results := [.lit (.bool false)], args := [d] }
  | _ => none }
def NaturalAgreesWrongFalsely : Prop := naturalAgreesRow.holds Try.pinned (OpenSpec.ofChange naturalAgreesWrong)

/- THE SECOND FORM. 'bulk': how many values and letters a reading holds, each counted each time it is reached (what is shared counts as often as it is met; a slice's spare places count too). A statement '..UptoSaid' is the law's where the arguments, and the package variables that the reading takes, are together of bulk at most 1048576: NARROWER than '..Said'. Prove '..Said' where nothing that the law and all that it calls make is longer than what came in: it says more and counts as full. Else prove '..UptoSaid'. A law counts once. -/
mutual
def uptoBulk {H : Type} : DataW H → Nat
  | .lit (.string bytes) => bytes.length + 1
  | .lit _ => 1
  | .nil => 1
  | .ptr d => uptoBulk d + 1
  | .slice elems spare => uptoBulkAll elems + uptoBulkAll spare + 1
  | .agg parts => uptoBulkAll parts + 1
  | .iface _ d => uptoBulk d + 1
  | .map entries => uptoBulkEntries entries + 1
  | .held _ => 1
def uptoBulkAll {H : Type} : List (DataW H) → Nat
  | [] => 0
  | d :: r => uptoBulk d + uptoBulkAll r
def uptoBulkEntries {H : Type} : List (Lit × DataW H) → Nat
  | [] => 0
  | x :: r => uptoBulkEntry x + uptoBulkEntries r
def uptoBulkEntry {H : Type} : Lit × DataW H → Nat
  | (.string bytes, d) => bytes.length + uptoBulk d + 1
  | (_, d) => uptoBulk d + 1
 end
def uptoSmall : (H : Type) → List (DataW H) → Bool := fun _ ds => decide (uptoBulkAll ds ≤ 1048576)
def OpenSpec.upto (s : _root_.Go.ChangeSpec) : _root_.Go.OpenSpec := { _root_.Go.OpenSpec.ofChange s with cond := some uptoSmall }

/-- 'petrinetlaw35.NaturalChecks', WHERE WHAT IT READS IS OF BULK AT MOST 1048576: true; the input reads as it did. -/
def naturalChecksUptoRow : OpenClaim := { program := "ytlckejjmkjgknab", sum := "03acda6ad0dc27d9d5a4d11f65f63859f19a089b87351028ac68ba27130e5b55", func := "petrinet/petrinetlaw35.NaturalChecks", spec := "naturalChecks", unfollowed := true, recurses := true, apart := false, narrowed := true }
def NaturalChecksUptoSaid : Prop := naturalChecksUptoRow.holds Try.pinned (OpenSpec.upto naturalChecksSpec)

/-- 'petrinetlaw35.NaturalSolves', WHERE WHAT IT READS IS OF BULK AT MOST 1048576: true; the input reads as it did. -/
def naturalSolvesUptoRow : OpenClaim := { program := "ytlckejjmkjgknab", sum := "03acda6ad0dc27d9d5a4d11f65f63859f19a089b87351028ac68ba27130e5b55", func := "petrinet/petrinetlaw35.NaturalSolves", spec := "naturalSolves", unfollowed := true, recurses := true, apart := false, narrowed := true }
def NaturalSolvesUptoSaid : Prop := naturalSolvesUptoRow.holds Try.pinned (OpenSpec.upto naturalSolvesSpec)

/-- 'petrinetlaw35.NaturalCounts', WHERE WHAT IT READS IS OF BULK AT MOST 1048576: true; the input reads as it did. -/
def naturalCountsUptoRow : OpenClaim := { program := "ytlckejjmkjgknab", sum := "03acda6ad0dc27d9d5a4d11f65f63859f19a089b87351028ac68ba27130e5b55", func := "petrinet/petrinetlaw35.NaturalCounts", spec := "naturalCounts", unfollowed := true, recurses := true, apart := false, narrowed := true }
def NaturalCountsUptoSaid : Prop := naturalCountsUptoRow.holds Try.pinned (OpenSpec.upto naturalCountsSpec)

/-- 'petrinetlaw35.NaturalShifts', WHERE WHAT IT READS IS OF BULK AT MOST 1048576: true; the input reads as it did. -/
def naturalShiftsUptoRow : OpenClaim := { program := "ytlckejjmkjgknab", sum := "03acda6ad0dc27d9d5a4d11f65f63859f19a089b87351028ac68ba27130e5b55", func := "petrinet/petrinetlaw35.NaturalShifts", spec := "naturalShifts", unfollowed := true, recurses := true, apart := false, narrowed := true }
def NaturalShiftsUptoSaid : Prop := naturalShiftsUptoRow.holds Try.pinned (OpenSpec.upto naturalShiftsSpec)

/-- 'petrinetlaw35.NaturalAlls', WHERE WHAT IT READS IS OF BULK AT MOST 1048576: true; the input reads as it did. -/
def naturalAllsUptoRow : OpenClaim := { program := "ytlckejjmkjgknab", sum := "03acda6ad0dc27d9d5a4d11f65f63859f19a089b87351028ac68ba27130e5b55", func := "petrinet/petrinetlaw35.NaturalAlls", spec := "naturalAlls", unfollowed := true, recurses := true, apart := false, narrowed := true }
def NaturalAllsUptoSaid : Prop := naturalAllsUptoRow.holds Try.pinned (OpenSpec.upto naturalAllsSpec)

/-- 'petrinetlaw35.NaturalAgrees', WHERE WHAT IT READS IS OF BULK AT MOST 1048576: true; the input reads as it did. -/
def naturalAgreesUptoRow : OpenClaim := { program := "ytlckejjmkjgknab", sum := "03acda6ad0dc27d9d5a4d11f65f63859f19a089b87351028ac68ba27130e5b55", func := "petrinet/petrinetlaw35.NaturalAgrees", spec := "naturalAgrees", unfollowed := true, recurses := true, apart := false, narrowed := true }
def NaturalAgreesUptoSaid : Prop := naturalAgreesUptoRow.holds Try.pinned (OpenSpec.upto naturalAgreesSpec)

end Rows
end Go.Proofs.Ytlckejjmkjgknab
