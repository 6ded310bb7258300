/- By hand (lawrow.py): the row of the law UpsetMinimal: for every input the law returns true and leaves its arguments as they were. No condition of ours. -/
import Derived.Test.YtliagbliaiigaaaRows
import Derived.Test.YtliagbliaiigaaaXOpens
import Derived.WalkKit
import Derived.ProofKit
import Derived.OpenShut
import Derived.ShutString
import Derived.ChangeOld
import Derived.Below
import Derived.SizedLaws
import Derived.Lib.SmallJoins
import Derived.Test.YtliagbliaiigaaaWSized
import Derived.Test.YtliagbliaiigaaaXMinW
import Derived.Test.YtliagbliaiigaaaXMinL
namespace Go.Proofs.Ytliagbliaiigaaa.upsetMinimal
open Go.ChangeShapes Go.WideShapes Go.ChangeAt Go.RowKit Go.Proofs.Ytliagbliaiigaaa.Hy Go.Proofs.YtliagbliaiigaaaW.PrintWords
set_option linter.unusedVariables false
theorem own : ownKnob Try.prog.godebug = none := by kernel_rfl
theorem laidOut : laidOutB Try.prog = true := by kernel_rfl
theorem slice_cells {r : Reach} {W : World} {b0 : Nat} {t e : TypeId} {v : Value} (ht : Try.prog.underlying t = some (.slice e)) (h : Value.okWide Try.prog W r b0 t v) : v.cells.toList = [v] := by
  unfold Value.okWide at h
  cases v with
  | agg cs => simp [ht, Cell.okWide, Cell.ok] at h
  | _ => rfl
set_option maxRecDepth 100000 in
theorem lifted (os : Os) (started : os.Started) (H : Type) (enc : TypeId × Value → H) :
    ReturnsInHanded {} Try.checked os 7 .any (Rows.upsetMinimalSpec.pre6 enc Try.prog Try.f7 Rows.upsetMinimalRow.domain false) (Rows.upsetMinimalSpec.post enc Try.prog Try.f7 false true false false) := by
  refine returnsInHanded_of_change_sized (C := Try.checked) own started (by kernel_rfl) Try.func7
    (ChangeSpec.witness6 (enc := enc) (C := Try.checked) false ⟨#[], #[.slice none 0 0], []⟩ 8 (by kernel_rfl) (by kernel_rfl) (by kernel_rfl) (by kernel_rfl)) ?_
  intro W base args ds gs before hval0 hW hcnd hsz0 _
  have hval : ∀ (j : Nat) t v, Try.f7.params[j]? = some t → args[j]? = some v → Value.okWide Try.prog W .any base t v := hval0
  have hW' := hW
  obtain ⟨p, q, hA0, hV, rfl, hfz, hnd⟩ := hW
  have hA : DataW.TrodAll enc Try.prog W 0 (fun _ => true) true Try.f7.params.toList args.toList ds p := hA0
  rw [Try.params7] at hA hval
  obtain ⟨v0, vs0, d0, ds0, p0, q0, hargs, rfl, rfl, h0, r0⟩ := trodAll_cons hA
  obtain ⟨rfl, rfl, rfl⟩ := trodAll_nil r0
  obtain rfl : args = #[v0] := by cases args; simp_all
  have k0 := h0
  have lt0 : ∀ x ∈ p0, x.block < W.heap.size := by obtain ⟨m, hm⟩ := k0; exact DataW.trod_lt m _ _ _ hm
  obtain ⟨m0, tr0⟩ := h0
  have tr0' := tr0
  rw [slice_cells Try.underlying22 (hval 0 22 v0 rfl rfl)] at tr0
  obtain ⟨A0, c0, l0, rfl, hc0, hr0, _⟩ := opens_row ok_intss tr0
  obtain ⟨rfl, rfl⟩ := trodVars_none hV
  clear hA0 hval0 hsz0
  obtain ⟨k, hk⟩ := (minimal_row l0 (Kd.C_max hr0)).ex
  refine (petrinetlaw21_UpsetMinimal.calls k A0 c0 l0 true W hr0 hc0 hk).mono fun e W' ⟨he, bel⟩ => ?_
  subst he
  exact ⟨_, rfl, _, _, _, [], _, [], hW', trodAll_mk1 (shut_bool Try.underlying4 _), (trodAll_cons_mk (Below.trod laidOut (by kernel_rfl) (of_decide_eq_true (by kernel_rfl)) k0 bel lt0) trodAll_mk0), rfl, bel.frame _, fun h => by cases h⟩
theorem over : Rows.upsetMinimalRow.holds Try.pinned (OpenSpec.ofChange Rows.upsetMinimalSpec) :=
  OpenClaim.holds_of_wide 7 Try.f7 rfl rfl rfl rfl rfl rfl rfl ⟨rfl, rfl, rfl, rfl, rfl⟩ rfl rfl rfl rfl rfl (by kernel_rfl) Try.func7 (by kernel_rfl)
    (of_decide_eq_true (by kernel_rfl)) (by unfold Func.isWrapper; first | (rw [if_pos (by decide +kernel)]; kernel_rfl) | (rw [if_neg (by decide +kernel)]; exact ⟨rfl, rfl⟩))
    (fun os started H enc _ => lifted os started H enc)
theorem proved : Rows.UpsetMinimalSaid := over
#print axioms proved
end Go.Proofs.Ytliagbliaiigaaa.upsetMinimal
namespace Go.Proofs.Ytliagbliaiigaaa
/-- The row, under a short name, for the claim. -/
theorem upsetMinimal_holds : Rows.UpsetMinimalSaid := upsetMinimal.proved
end Go.Proofs.Ytliagbliaiigaaa
