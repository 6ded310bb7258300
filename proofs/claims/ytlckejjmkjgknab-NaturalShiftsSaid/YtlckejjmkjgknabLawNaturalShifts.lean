/- By hand: the row of NaturalShifts. -/
import Derived.Test.YtlckejjmkjgknabRows
import Derived.Test.YtlckejjmkjgknabPureNat
import Derived.Test.YtlckejjmkjgknabXOpens
import Derived.WalkKit
import Derived.ProofKit
import Derived.OpenShut
import Derived.ShutString
import Derived.ChangeOld
import Derived.Below
import Derived.SizedLaws
import Derived.Lib.SmallJoins
import Derived.Test.YtlckejjmkjgknabWSized
import Derived.Test.YtlckejjmkjgknabPureShifts
namespace Go.Proofs.Ytlckejjmkjgknab.naturalShifts
open Go.ChangeShapes Go.WideShapes Go.ChangeAt Go.RowKit Go.Proofs.Ytlckejjmkjgknab.Hy Go.Proofs.YtlckejjmkjgknabW.PrintWords
set_option linter.unusedVariables false
theorem own : ownKnob Try.prog.godebug = none := by kernel_rfl
theorem laidOut : laidOutB Try.prog = true := by kernel_rfl
theorem ok_int : Opens Try.prog (Kd.int .i64) 2 (fun n => (Lit.int .i64 n).wf = true) := opens_int Try.underlying2
theorem ok_ints : Opens Try.prog (Kd.slice 2 (Kd.int .i64)) 23 (fun xs => xs.length ≤ maxLen ∧ ∀ x ∈ xs, (Lit.int .i64 x).wf = true) := opens_slice Try.underlying23 (by kernel_rfl) ok_int
theorem ok_rows : Opens Try.prog (Kd.slice 23 (Kd.slice 2 (Kd.int .i64))) 22 (fun xs => xs.length ≤ maxLen ∧ ∀ x ∈ xs, x.length ≤ maxLen ∧ ∀ y ∈ x, (Lit.int .i64 y).wf = true) := opens_slice Try.underlying22 (by kernel_rfl) ok_ints
set_option maxRecDepth 100000 in
theorem lifted (os : Os) (started : os.Started) (H : Type) (enc : TypeId × Value → H) :
    ReturnsInHanded {} Try.checked os 6 .any (Rows.naturalShiftsSpec.pre6 enc Try.prog Try.f6 Rows.naturalShiftsRow.domain false) (Rows.naturalShiftsSpec.post enc Try.prog Try.f6 false true false false) := by
  refine returnsInHanded_of_change_sized (C := Try.checked) own started (by kernel_rfl) Try.func6
    (ChangeSpec.witness6 (enc := enc) (C := Try.checked) false ⟨#[], #[.agg #[.slice none 0 0, .slice none 0 0, .slice none 0 0]], []⟩ 8 (by kernel_rfl) (by kernel_rfl) (by kernel_rfl) (by kernel_rfl)) ?_
  intro W base args ds gs before hval0 hW hcnd hsz0 _
  have hval : ∀ (j : Nat) t v, Try.f6.params[j]? = some t → args[j]? = some v → Value.okWide Try.prog W .any base t v := hval0
  have hW' := hW
  obtain ⟨p, q, hA0, hV, rfl, hfz, hnd⟩ := hW
  have hA : DataW.TrodAll enc Try.prog W 0 (fun _ => true) true Try.f6.params.toList args.toList ds p := hA0
  rw [Try.params6] at hA hval
  obtain ⟨v0, vs0, d0, ds0, p0, q0, hargs, rfl, rfl, h0, r0⟩ := trodAll_cons hA
  obtain ⟨rfl, rfl, rfl⟩ := trodAll_nil r0
  obtain rfl : args = #[v0] := by cases args; simp_all
  obtain ⟨rfl, rfl⟩ := trodVars_none hV
  have k0 := h0
  have lt0 : ∀ x ∈ p0, x.block < W.heap.size := by obtain ⟨m, hm⟩ := k0; exact DataW.trod_lt m _ _ _ hm
  obtain ⟨u0, u1, u2, y0, y1, y2, n, rfl, _, _, t0, t1, t2⟩ := Joins.open_agg3 Try.underlying25 (by kernel_rfl) (by kernel_rfl) (hval 0 25 v0 rfl rfl) h0
  obtain ⟨A0, c0, l0, rfl, hc0, hr0, _⟩ := opens_row ok_rows t0
  obtain ⟨A1, c1, l1, rfl, hc1, hr1, _⟩ := opens_row ok_ints t1
  obtain ⟨A2, c2, l2, rfl, hc2, hr2, _⟩ := opens_row ok_ints t2
  clear hA0 hval0 hsz0
  obtain ⟨k, hk⟩ := Pure.shifts_ex l0 l1 l2
  refine (petrinetlaw35_NaturalShifts.calls k A0 c0 l0 A1 c1 l1 A2 c2 l2 true W hr0 hc0 hr1 hc1 hr2 hc2 hk).mono fun e W' ⟨he, bel⟩ => ?_
  subst he
  exact ⟨_, rfl, _, _, _, [], _, [], hW', trodAll_mk1 (shut_bool Try.underlying4 _), (trodAll_cons_mk (Below.trod laidOut (by kernel_rfl) (of_decide_eq_true (by kernel_rfl)) k0 bel lt0) trodAll_mk0), rfl, bel.frame _, fun h => by cases h⟩
theorem over : Rows.naturalShiftsRow.holds Try.pinned (OpenSpec.ofChange Rows.naturalShiftsSpec) :=
  OpenClaim.holds_of_wide 6 Try.f6 rfl rfl rfl rfl rfl rfl rfl ⟨rfl, rfl, rfl, rfl, rfl⟩ rfl rfl rfl rfl rfl (by kernel_rfl) Try.func6 (by kernel_rfl)
    (of_decide_eq_true (by kernel_rfl)) (by unfold Func.isWrapper; first | (rw [if_pos (by decide +kernel)]; kernel_rfl) | (rw [if_neg (by decide +kernel)]; exact ⟨rfl, rfl⟩))
    (fun os started H enc _ => lifted os started H enc)
theorem proved : Rows.NaturalShiftsSaid := over
#print axioms proved
end Go.Proofs.Ytlckejjmkjgknab.naturalShifts
namespace Go.Proofs.Ytlckejjmkjgknab
/-- The row, under a short name, for the claim. -/
theorem naturalShifts_holds : Rows.NaturalShiftsSaid := naturalShifts.proved
end Go.Proofs.Ytlckejjmkjgknab
