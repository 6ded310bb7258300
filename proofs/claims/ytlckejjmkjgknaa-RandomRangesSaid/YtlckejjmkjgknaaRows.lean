/-
  No cell of these rows narrows 'for every input' (looked for: loops, veiled, ifaces, maps, wideKeys, modest, calm, conditions, laid).
  DERIVED. THE GIVEN ROWS OF THIS SEAT. 6 by the template 'for every input the law returns true; each argument reads behind the call as it read before'; 0 by the template 'total and deterministic' (their statements: YtlckejjmkjgknaaTotals.lean).
  GIVEN WITH THE SEED: the statements are not yours to turn. If you find one false, say at which input.
  Laid BY PROGRAM, IN A SANDBOX (cutbox-rows.mjs): the forced cells as the released guide's own fill.sh prints them over the translation 864f0927b5b4ff20… (all of the seat's roots in one cut). By AI agents, Wed Nov 11 2026. No macro, syntax, notation, axiom, sorry.
-/
import Derived.Test.YtlckejjmkjgknaaChecked
import GoSem.Claim
import GoSem.ClaimJoined
import GoSem.ClaimMapViews
import Derived.JoinedTies
import Derived.KernelRfl
namespace Go.Proofs.Ytlckejjmkjgknaa
/- THE CELL 'sum', in the pinned program and in every row, IS THE sha256 OF THE DUMP (.gsa) THAT YtlckejjmkjgknaaProg.lean LOADS. Nothing in Lean hashes anything: it is a label: what it is worth is what the hold of that sum in a sandbox is worth. -/
noncomputable def Try.pinned : Pinned := { name := "ytlckejjmkjgknaa", sum := "864f0927b5b4ff20810c08a798bfdbb927ae64542d563b86009e97a24417d4a1", checked := Try.checked }
namespace Rows
def none {H : Type} : Left H := { results := [], args := [] }

/-- 'petrinetlaw52.RandomNexts': WHATEVER THE INPUT: true; the input reads as it did. -/
def randomNextsSpec : ChangeSpec := { name := "randomNexts", fn := fun _ => fun
  | [d1, d2] => { results := [.lit (.bool true)], args := [d1, d2] }
  | _ => none }
def randomNextsRow : OpenClaim := { program := "ytlckejjmkjgknaa", sum := "864f0927b5b4ff20810c08a798bfdbb927ae64542d563b86009e97a24417d4a1", func := "petrinet/petrinetlaw52.RandomNexts", spec := "randomNexts", apart := false }
def RandomNextsSaid : Prop := randomNextsRow.holds Try.pinned (OpenSpec.ofChange randomNextsSpec)

/-- ITS FALSE NEIGHBOUR: 'it returns false'. Refute it at one input. -/
def randomNextsWrong : ChangeSpec := { name := "randomNexts", fn := fun _ => fun
  | [d1, d2] => { results := [.lit (.bool false)], args := [d1, d2] }
  | _ => none }
def RandomNextsWrongFalsely : Prop := randomNextsRow.holds Try.pinned (OpenSpec.ofChange randomNextsWrong)

/-- 'petrinetlaw52.RandomChooses': WHATEVER THE INPUT: true; the input reads as it did. -/
def randomChoosesSpec : ChangeSpec := { name := "randomChooses", fn := fun _ => fun
  | [d1, d2] => { results := [.lit (.bool true)], args := [d1, d2] }
  | _ => none }
def randomChoosesRow : OpenClaim := { program := "ytlckejjmkjgknaa", sum := "864f0927b5b4ff20810c08a798bfdbb927ae64542d563b86009e97a24417d4a1", func := "petrinet/petrinetlaw52.RandomChooses", spec := "randomChooses", apart := false }
def RandomChoosesSaid : Prop := randomChoosesRow.holds Try.pinned (OpenSpec.ofChange randomChoosesSpec)

/-- ITS FALSE NEIGHBOUR: 'it returns false'. Refute it at one input. -/
def randomChoosesWrong : ChangeSpec := { name := "randomChooses", fn := fun _ => fun
  | [d1, d2] => { results := [.lit (.bool false)], args := [d1, d2] }
  | _ => none }
def RandomChoosesWrongFalsely : Prop := randomChoosesRow.holds Try.pinned (OpenSpec.ofChange randomChoosesWrong)

/-- 'petrinetlaw52.RandomSteps': WHATEVER THE INPUT: true; the input reads as it did. -/
def randomStepsSpec : ChangeSpec := { name := "randomSteps", fn := fun _ => fun
  | [d1, d2] => { results := [.lit (.bool true)], args := [d1, d2] }
  | _ => none }
def randomStepsRow : OpenClaim := { program := "ytlckejjmkjgknaa", sum := "864f0927b5b4ff20810c08a798bfdbb927ae64542d563b86009e97a24417d4a1", func := "petrinet/petrinetlaw52.RandomSteps", spec := "randomSteps", apart := false }
def RandomStepsSaid : Prop := randomStepsRow.holds Try.pinned (OpenSpec.ofChange randomStepsSpec)

/-- ITS FALSE NEIGHBOUR: 'it returns false'. Refute it at one input. -/
def randomStepsWrong : ChangeSpec := { name := "randomSteps", fn := fun _ => fun
  | [d1, d2] => { results := [.lit (.bool false)], args := [d1, d2] }
  | _ => none }
def RandomStepsWrongFalsely : Prop := randomStepsRow.holds Try.pinned (OpenSpec.ofChange randomStepsWrong)

/-- 'petrinetlaw52.RandomComposes': WHATEVER THE INPUT: true; the input reads as it did. -/
def randomComposesSpec : ChangeSpec := { name := "randomComposes", fn := fun _ => fun
  | [d1, d2, d3] => { results := [.lit (.bool true)], args := [d1, d2, d3] }
  | _ => none }
def randomComposesRow : OpenClaim := { program := "ytlckejjmkjgknaa", sum := "864f0927b5b4ff20810c08a798bfdbb927ae64542d563b86009e97a24417d4a1", func := "petrinet/petrinetlaw52.RandomComposes", spec := "randomComposes", apart := false }
def RandomComposesSaid : Prop := randomComposesRow.holds Try.pinned (OpenSpec.ofChange randomComposesSpec)

/-- ITS FALSE NEIGHBOUR: 'it returns false'. Refute it at one input. -/
def randomComposesWrong : ChangeSpec := { name := "randomComposes", fn := fun _ => fun
  | [d1, d2, d3] => { results := [.lit (.bool false)], args := [d1, d2, d3] }
  | _ => none }
def RandomComposesWrongFalsely : Prop := randomComposesRow.holds Try.pinned (OpenSpec.ofChange randomComposesWrong)

/-- 'petrinetlaw52.RandomShuffles': WHATEVER THE INPUT: true; the input reads as it did. -/
def randomShufflesSpec : ChangeSpec := { name := "randomShuffles", fn := fun _ => fun
  | [d1, d2] => { results := [.lit (.bool true)], args := [d1, d2] }
  | _ => none }
def randomShufflesRow : OpenClaim := { program := "ytlckejjmkjgknaa", sum := "864f0927b5b4ff20810c08a798bfdbb927ae64542d563b86009e97a24417d4a1", func := "petrinet/petrinetlaw52.RandomShuffles", spec := "randomShuffles", apart := false }
def RandomShufflesSaid : Prop := randomShufflesRow.holds Try.pinned (OpenSpec.ofChange randomShufflesSpec)

/-- ITS FALSE NEIGHBOUR: 'it returns false'. Refute it at one input. -/
def randomShufflesWrong : ChangeSpec := { name := "randomShuffles", fn := fun _ => fun
  | [d1, d2] => { results := [.lit (.bool false)], args := [d1, d2] }
  | _ => none }
def RandomShufflesWrongFalsely : Prop := randomShufflesRow.holds Try.pinned (OpenSpec.ofChange randomShufflesWrong)

/-- 'petrinetlaw52.RandomRanges': WHATEVER THE INPUT: true; the input reads as it did. -/
def randomRangesSpec : ChangeSpec := { name := "randomRanges", fn := fun _ => fun
  | [d1, d2, d3] => { results := [.lit (.bool true)], args := [d1, d2, d3] }
  | _ => none }
def randomRangesRow : OpenClaim := { program := "ytlckejjmkjgknaa", sum := "864f0927b5b4ff20810c08a798bfdbb927ae64542d563b86009e97a24417d4a1", func := "petrinet/petrinetlaw52.RandomRanges", spec := "randomRanges", apart := false }
def RandomRangesSaid : Prop := randomRangesRow.holds Try.pinned (OpenSpec.ofChange randomRangesSpec)

/-- ITS FALSE NEIGHBOUR: 'it returns false'. Refute it at one input. -/
def randomRangesWrong : ChangeSpec := { name := "randomRanges", fn := fun _ => fun
  | [d1, d2, d3] => { results := [.lit (.bool false)], args := [d1, d2, d3] }
  | _ => none }
def RandomRangesWrongFalsely : Prop := randomRangesRow.holds Try.pinned (OpenSpec.ofChange randomRangesWrong)

/- THE SECOND FORM. 'bulk': how many values and letters a reading holds, each counted each time it is reached (what is shared counts as often as it is met; a slice's spare places count too). A statement '..UptoSaid' is the law's where the arguments, and the package variables that the reading takes, are together of bulk at most 1048576: NARROWER than '..Said'. Prove '..Said' where nothing that the law and all that it calls make is longer than what came in: it says more and counts as full. Else prove '..UptoSaid'. A law counts once. -/
mutual
def uptoBulk {H : Type} : DataW H → Nat
  | .lit (.string bytes) => bytes.length + 1
  | .lit _ => 1
  | .nil => 1
  | .ptr d => uptoBulk d + 1
  | .slice elems spare => uptoBulkAll elems + uptoBulkAll spare + 1
  | .agg parts => uptoBulkAll parts + 1
  | .iface _ d => uptoBulk d + 1
  | .map entries => uptoBulkEntries entries + 1
  | .held _ => 1
def uptoBulkAll {H : Type} : List (DataW H) → Nat
  | [] => 0
  | d :: r => uptoBulk d + uptoBulkAll r
def uptoBulkEntries {H : Type} : List (Lit × DataW H) → Nat
  | [] => 0
  | x :: r => uptoBulkEntry x + uptoBulkEntries r
def uptoBulkEntry {H : Type} : Lit × DataW H → Nat
  | (.string bytes, d) => bytes.length + uptoBulk d + 1
  | (_, d) => uptoBulk d + 1
 end
def uptoSmall : (H : Type) → List (DataW H) → Bool := fun _ ds => decide (uptoBulkAll ds ≤ 1048576)
def OpenSpec.upto (s : _root_.Go.ChangeSpec) : _root_.Go.OpenSpec := { _root_.Go.OpenSpec.ofChange s with cond := some uptoSmall }

/-- 'petrinetlaw52.RandomNexts', WHERE WHAT IT READS IS OF BULK AT MOST 1048576: true; the input reads as it did. -/
def randomNextsUptoRow : OpenClaim := { program := "ytlckejjmkjgknaa", sum := "864f0927b5b4ff20810c08a798bfdbb927ae64542d563b86009e97a24417d4a1", func := "petrinet/petrinetlaw52.RandomNexts", spec := "randomNexts", apart := false, narrowed := true }
def RandomNextsUptoSaid : Prop := randomNextsUptoRow.holds Try.pinned (OpenSpec.upto randomNextsSpec)

/-- 'petrinetlaw52.RandomChooses', WHERE WHAT IT READS IS OF BULK AT MOST 1048576: true; the input reads as it did. -/
def randomChoosesUptoRow : OpenClaim := { program := "ytlckejjmkjgknaa", sum := "864f0927b5b4ff20810c08a798bfdbb927ae64542d563b86009e97a24417d4a1", func := "petrinet/petrinetlaw52.RandomChooses", spec := "randomChooses", apart := false, narrowed := true }
def RandomChoosesUptoSaid : Prop := randomChoosesUptoRow.holds Try.pinned (OpenSpec.upto randomChoosesSpec)

/-- 'petrinetlaw52.RandomSteps', WHERE WHAT IT READS IS OF BULK AT MOST 1048576: true; the input reads as it did. -/
def randomStepsUptoRow : OpenClaim := { program := "ytlckejjmkjgknaa", sum := "864f0927b5b4ff20810c08a798bfdbb927ae64542d563b86009e97a24417d4a1", func := "petrinet/petrinetlaw52.RandomSteps", spec := "randomSteps", apart := false, narrowed := true }
def RandomStepsUptoSaid : Prop := randomStepsUptoRow.holds Try.pinned (OpenSpec.upto randomStepsSpec)

/-- 'petrinetlaw52.RandomComposes', WHERE WHAT IT READS IS OF BULK AT MOST 1048576: true; the input reads as it did. -/
def randomComposesUptoRow : OpenClaim := { program := "ytlckejjmkjgknaa", sum := "864f0927b5b4ff20810c08a798bfdbb927ae64542d563b86009e97a24417d4a1", func := "petrinet/petrinetlaw52.RandomComposes", spec := "randomComposes", apart := false, narrowed := true }
def RandomComposesUptoSaid : Prop := randomComposesUptoRow.holds Try.pinned (OpenSpec.upto randomComposesSpec)

/-- 'petrinetlaw52.RandomShuffles', WHERE WHAT IT READS IS OF BULK AT MOST 1048576: true; the input reads as it did. -/
def randomShufflesUptoRow : OpenClaim := { program := "ytlckejjmkjgknaa", sum := "864f0927b5b4ff20810c08a798bfdbb927ae64542d563b86009e97a24417d4a1", func := "petrinet/petrinetlaw52.RandomShuffles", spec := "randomShuffles", apart := false, narrowed := true }
def RandomShufflesUptoSaid : Prop := randomShufflesUptoRow.holds Try.pinned (OpenSpec.upto randomShufflesSpec)

/-- 'petrinetlaw52.RandomRanges', WHERE WHAT IT READS IS OF BULK AT MOST 1048576: true; the input reads as it did. -/
def randomRangesUptoRow : OpenClaim := { program := "ytlckejjmkjgknaa", sum := "864f0927b5b4ff20810c08a798bfdbb927ae64542d563b86009e97a24417d4a1", func := "petrinet/petrinetlaw52.RandomRanges", spec := "randomRanges", apart := false, narrowed := true }
def RandomRangesUptoSaid : Prop := randomRangesUptoRow.holds Try.pinned (OpenSpec.upto randomRangesSpec)

end Rows
end Go.Proofs.Ytlckejjmkjgknaa
