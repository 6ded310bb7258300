/- By hand (lawrow.py): the row of the law SimulateMany: for every input the law returns true and leaves its arguments as they were. No condition of ours. -/
import Derived.Test.YteaimaafahpamaaRows
import Derived.Test.YteaimaafahpamaaXOpens
import Derived.WalkKit
import Derived.ProofKit
import Derived.OpenShut
import Derived.ShutString
import Derived.ChangeOld
import Derived.Below
import Derived.SizedLaws
import Derived.Lib.SmallJoins
import Derived.Test.YteaimaafahpamaaM0
import Derived.Test.YteaimaafahpamaaXWMany
namespace Go.Proofs.Yteaimaafahpamaa.simulateMany
open Go.ChangeShapes Go.WideShapes Go.ChangeAt Go.RowKit Go.Proofs.Yteaimaafahpamaa.Hy Go.Proofs.YteaimaafahpamaaW.PrintWords
set_option linter.unusedVariables false
set_option linter.constructorNameAsVariable false
theorem own : ownKnob Try.prog.godebug = none := by kernel_rfl
theorem laidOut : laidOutB Try.prog = true := by kernel_rfl
theorem slice_cells {r : Reach} {W : World} {b0 : Nat} {t e : TypeId} {v : Value} (ht : Try.prog.underlying t = some (.slice e)) (h : Value.okWide Try.prog W r b0 t v) : v.cells.toList = [v] := by
  unfold Value.okWide at h
  cases v with
  | agg cs => simp [ht, Cell.okWide, Cell.ok] at h
  | _ => rfl
set_option maxRecDepth 100000
theorem lifted (os : Os) (started : os.Started) (H : Type) (enc : TypeId × Value → H) :
    ReturnsInHanded {} Try.checked os 5 .any (Rows.simulateManySpec.pre6 enc Try.prog Try.f5 Rows.simulateManyRow.domain false) (Rows.simulateManySpec.post enc Try.prog Try.f5 false true false false) := by
  refine returnsInHanded_of_change_sized (C := Try.checked) own started (by kernel_rfl) Try.func5
    (ChangeSpec.witness6 (enc := enc) (C := Try.checked) false ⟨#[], #[.agg #[.string ⟨#[]⟩, .slice none 0 0, .slice none 0 0], .agg #[.slice none 0 0, .int .u64 0, .int .i64 0], .int .i64 0], []⟩ 8 (by kernel_rfl) (by kernel_rfl) (by kernel_rfl) (by kernel_rfl)) ?_
  intro W base args ds gs before hval0 hW hcnd hsz0 _
  have hval : ∀ (j : Nat) t v, Try.f5.params[j]? = some t → args[j]? = some v → Value.okWide Try.prog W .any base t v := hval0
  have hW' := hW
  obtain ⟨p, q, hA0, hV, rfl, hfz, hnd⟩ := hW
  have hA : DataW.TrodAll enc Try.prog W 0 (fun _ => true) true Try.f5.params.toList args.toList ds p := hA0
  rw [Try.params5] at hA hval
  obtain ⟨v0, vs0, d0, ds0, p0, q0, hargs, rfl, rfl, h0, r0⟩ := trodAll_cons hA
  obtain ⟨v1, vs1, d1, ds1, p1, q1, rfl, rfl, rfl, h1, r1⟩ := trodAll_cons r0
  obtain ⟨v2, vs2, d2, ds2, p2, q2, rfl, rfl, rfl, h2, r2⟩ := trodAll_cons r1
  obtain ⟨rfl, rfl, rfl⟩ := trodAll_nil r2
  obtain rfl : args = #[v0, v1, v2] := by cases args; simp_all
  have k0 := h0
  have lt0 : ∀ x ∈ p0, x.block < W.heap.size := by obtain ⟨m, hm⟩ := k0; exact DataW.trod_lt m _ _ _ hm
  obtain ⟨u00, u01, u02, y00, y01, y02, n0, rfl, _, _, t00, t01, t02⟩ := Joins.open_agg3 Try.underlying25 (by kernel_rfl) (by kernel_rfl) (hval 0 25 v0 rfl rfl) h0
  obtain ⟨s0, hs0, _⟩ := ok_str _ _ _ _ _ _ _ _ _ t00
  obtain rfl : u00 = .string s0 := by simpa [Kd.string, Kd.scalar] using hs0
  obtain ⟨A01, c01, l01, rfl, hc01, hr01, _⟩ := opens_row ok_places t01
  obtain ⟨A02, c02, l02, rfl, hc02, hr02, _⟩ := opens_row ok_transs t02
  have k1 := h1
  have lt1 : ∀ x ∈ p1, x.block < W.heap.size := by obtain ⟨m, hm⟩ := k1; exact DataW.trod_lt m _ _ _ hm
  obtain ⟨u10, u11, u12, y10, y11, y12, n1, rfl, _, _, t10, t11, t12⟩ := Joins.open_agg3 Try.underlying29 (by kernel_rfl) (by kernel_rfl) (hval 1 29 v1 rfl rfl) h1
  obtain ⟨A1, c1, l1, rfl, hc1, hr1, _⟩ := opens_row ok_ints t10
  obtain ⟨s1, hs1, wf1⟩ := ok_u64 _ _ _ _ _ _ _ _ _ t11
  obtain rfl : u11 = .int .u64 s1 := by simpa [Kd.int, Kd.scalar] using hs1
  obtain ⟨a1, ha1, _⟩ := ok_int _ _ _ _ _ _ _ _ _ t12
  obtain rfl : u12 = .int .i64 a1 := by simpa [Kd.int, Kd.scalar] using ha1
  obtain ⟨m1, rfl⟩ := Int.eq_ofNat_of_zero_le (bounds_u64 wf1).1
  obtain ⟨a2, rfl, rfl, rfl, w2⟩ := open_int Try.underlying3 (hval 2 3 v2 rfl rfl) h2
  obtain ⟨rfl, rfl⟩ := trodVars_none hV
  clear hA0 hval0 hsz0
  refine (SimulateMany_walk s0 A01 c01 l01 A02 c02 l02 A1 c1 l1 m1 a1 a2 W hr01 hc01 hr02 hc02 hr1 hc1).mono fun e W' ⟨he, bel⟩ => ?_
  subst he
  exact ⟨_, rfl, _, _, _, [], _, [], hW', trodAll_mk1 (shut_bool Try.underlying4 _), (trodAll_cons_mk (Below.trod laidOut (by kernel_rfl) (of_decide_eq_true (by kernel_rfl)) k0 bel lt0) (trodAll_cons_mk (Below.trod laidOut (by kernel_rfl) (of_decide_eq_true (by kernel_rfl)) k1 bel lt1) (trodAll_cons_mk (shut_int Try.underlying3 w2) trodAll_mk0))), rfl, bel.frame _, fun h => by cases h⟩
theorem over : Rows.simulateManyRow.holds Try.pinned (OpenSpec.ofChange Rows.simulateManySpec) :=
  OpenClaim.holds_of_wide 5 Try.f5 rfl rfl rfl rfl rfl rfl rfl ⟨rfl, rfl, rfl, rfl, rfl⟩ rfl rfl rfl rfl rfl (by kernel_rfl) Try.func5 (by kernel_rfl)
    (of_decide_eq_true (by kernel_rfl)) (by unfold Func.isWrapper; first | (rw [if_pos (by decide +kernel)]; kernel_rfl) | (rw [if_neg (by decide +kernel)]; exact ⟨rfl, rfl⟩))
    (fun os started H enc _ => lifted os started H enc)
theorem proved : Rows.SimulateManySaid := over
#print axioms proved
end Go.Proofs.Yteaimaafahpamaa.simulateMany
namespace Go.Proofs.Yteaimaafahpamaa
/-- The row, under a short name, for the claim. -/
theorem simulateMany_holds : Rows.SimulateManySaid := simulateMany.proved
end Go.Proofs.Yteaimaafahpamaa
