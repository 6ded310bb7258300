/- By hand (lawrow.py): the row of the law FiringEquation: for every input the law returns true and leaves its arguments as they were. No condition of ours. -/
import Derived.Test.YtiamncgagfjegaaRows
import Derived.Test.YtiamncgagfjegaaXOpens
import Derived.WalkKit
import Derived.ProofKit
import Derived.OpenShut
import Derived.ShutString
import Derived.ChangeOld
import Derived.Below
import Derived.SizedLaws
import Derived.Lib.SmallJoins
import Derived.Test.YtiamncgagfjegaaWSized
import Derived.Test.YtiamncgagfjegaaXFirEquation
namespace Go.Proofs.Ytiamncgagfjegaa.firingEquation
open Go.ChangeShapes Go.WideShapes Go.ChangeAt Go.RowKit Go.Proofs.Ytiamncgagfjegaa.Hy Go.Proofs.YtiamncgagfjegaaW.PrintWords
set_option linter.unusedVariables false
theorem own : ownKnob Try.prog.godebug = none := by kernel_rfl
theorem laidOut : laidOutB Try.prog = true := by kernel_rfl
theorem slice_cells {r : Reach} {W : World} {b0 : Nat} {t e : TypeId} {v : Value} (ht : Try.prog.underlying t = some (.slice e)) (h : Value.okWide Try.prog W r b0 t v) : v.cells.toList = [v] := by
  unfold Value.okWide at h
  cases v with
  | agg cs => simp [ht, Cell.okWide, Cell.ok] at h
  | _ => rfl
set_option maxRecDepth 100000 in
theorem lifted (os : Os) (started : os.Started) (H : Type) (enc : TypeId × Value → H) :
    ReturnsInHanded {} Try.checked os 8 .any (Rows.firingEquationSpec.pre6 enc Try.prog Try.f8 Rows.firingEquationRow.domain false) (Rows.firingEquationSpec.post enc Try.prog Try.f8 false true false false) := by
  refine returnsInHanded_of_change_sized (C := Try.checked) own started (by kernel_rfl) Try.func8
    (ChangeSpec.witness6 (enc := enc) (C := Try.checked) false ⟨#[], #[.agg #[.string ⟨#[]⟩, .slice none 0 0, .slice none 0 0], .slice none 0 0, .slice none 0 0], []⟩ 8 (by kernel_rfl) (by kernel_rfl) (by kernel_rfl) (by kernel_rfl)) ?_
  intro W base args ds gs before hval0 hW hcnd hsz0 _
  have hval : ∀ (j : Nat) t v, Try.f8.params[j]? = some t → args[j]? = some v → Value.okWide Try.prog W .any base t v := hval0
  have hW' := hW
  obtain ⟨p, q, hA0, hV, rfl, hfz, hnd⟩ := hW
  have hA : DataW.TrodAll enc Try.prog W 0 (fun _ => true) true Try.f8.params.toList args.toList ds p := hA0
  rw [Try.params8] at hA hval
  obtain ⟨v0, vs0, d0, ds0, p0, q0, hargs, rfl, rfl, h0, r0⟩ := trodAll_cons hA
  obtain ⟨v1, vs1, d1, ds1, p1, q1, rfl, rfl, rfl, h1, r1⟩ := trodAll_cons r0
  obtain ⟨v2, vs2, d2, ds2, p2, q2, rfl, rfl, rfl, h2, r2⟩ := trodAll_cons r1
  obtain ⟨rfl, rfl, rfl⟩ := trodAll_nil r2
  obtain rfl : args = #[v0, v1, v2] := by cases args; simp_all
  have k0 := h0
  have lt0 : ∀ x ∈ p0, x.block < W.heap.size := by obtain ⟨m, hm⟩ := k0; exact DataW.trod_lt m _ _ _ hm
  obtain ⟨u00, u01, u02, y00, y01, y02, n0, rfl, _, _, t00, t01, t02⟩ := Joins.open_agg3 Try.underlying25 (by kernel_rfl) (by kernel_rfl) (hval 0 25 v0 rfl rfl) h0
  obtain ⟨s0, hs0, _⟩ := ok_str _ _ _ _ _ _ _ _ _ t00
  obtain rfl : u00 = .string s0 := by simpa [Kd.string, Kd.scalar] using hs0
  obtain ⟨A01, c01, l01, rfl, hc01, hr01, _⟩ := opens_row ok_places t01
  obtain ⟨A02, c02, l02, rfl, hc02, hr02, _⟩ := opens_row ok_transs t02
  have k1 := h1
  have lt1 : ∀ x ∈ p1, x.block < W.heap.size := by obtain ⟨m, hm⟩ := k1; exact DataW.trod_lt m _ _ _ hm
  obtain ⟨m1, tr1⟩ := h1
  have tr1' := tr1
  rw [slice_cells Try.underlying26 (hval 1 26 v1 rfl rfl)] at tr1
  obtain ⟨A1, c1, l1, rfl, hc1, hr1, _⟩ := opens_row ok_ints tr1
  have k2 := h2
  have lt2 : ∀ x ∈ p2, x.block < W.heap.size := by obtain ⟨m, hm⟩ := k2; exact DataW.trod_lt m _ _ _ hm
  obtain ⟨m2, tr2⟩ := h2
  have tr2' := tr2
  rw [slice_cells Try.underlying26 (hval 2 26 v2 rfl rfl)] at tr2
  obtain ⟨A2, c2, l2, rfl, hc2, hr2, _⟩ := opens_row ok_ints tr2
  obtain ⟨rfl, rfl⟩ := trodVars_none hV
  clear hA0 hval0 hsz0
  obtain ⟨k, hk⟩ := (FiringEquation_ev s0 l01 l02 l1 l2 (Kd.C_max hr1) (Kd.C_max hr2)).ex
  refine (petrinetlaw11_FiringEquation.calls k s0 A01 c01 l01 A02 c02 l02 A1 c1 l1 A2 c2 l2 true W hr01 hc01 hr02 hc02 hr1 hc1 hr2 hc2 hk).mono fun e W' ⟨he, bel⟩ => ?_
  subst he
  exact ⟨_, rfl, _, _, _, [], _, [], hW', trodAll_mk1 (shut_bool Try.underlying4 _), (trodAll_cons_mk (Below.trod laidOut (by kernel_rfl) (of_decide_eq_true (by kernel_rfl)) k0 bel lt0) (trodAll_cons_mk (Below.trod laidOut (by kernel_rfl) (of_decide_eq_true (by kernel_rfl)) k1 bel lt1) (trodAll_cons_mk (Below.trod laidOut (by kernel_rfl) (of_decide_eq_true (by kernel_rfl)) k2 bel lt2) trodAll_mk0))), rfl, bel.frame _, fun h => by cases h⟩
theorem over : Rows.firingEquationRow.holds Try.pinned (OpenSpec.ofChange Rows.firingEquationSpec) :=
  OpenClaim.holds_of_wide 8 Try.f8 rfl rfl rfl rfl rfl rfl rfl ⟨rfl, rfl, rfl, rfl, rfl⟩ rfl rfl rfl rfl rfl (by kernel_rfl) Try.func8 (by kernel_rfl)
    (of_decide_eq_true (by kernel_rfl)) (by unfold Func.isWrapper; first | (rw [if_pos (by decide +kernel)]; kernel_rfl) | (rw [if_neg (by decide +kernel)]; exact ⟨rfl, rfl⟩))
    (fun os started H enc _ => lifted os started H enc)
theorem proved : Rows.FiringEquationSaid := over
#print axioms proved
end Go.Proofs.Ytiamncgagfjegaa.firingEquation
namespace Go.Proofs.Ytiamncgagfjegaa
/-- The row, under a short name, for the claim. -/
theorem firingEquation_holds : Rows.FiringEquationSaid := firingEquation.proved
end Go.Proofs.Ytiamncgagfjegaa
