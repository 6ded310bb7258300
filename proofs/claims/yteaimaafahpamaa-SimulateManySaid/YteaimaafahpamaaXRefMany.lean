/- By hand (sim_refmany): a part of this seat's proofs. -/
import Derived.Test.YteaimaafahpamaaXSimLaw4
import Derived.Test.YteaimaafahpamaaXSimPureR
import Derived.Test.YteaimaafahpamaaH30
namespace Go.Proofs.Yteaimaafahpamaa.Hy
open Go.RowKit Go.Shelf Go.Proofs.YteaimaafahpamaaW.PrintWords Go.Proofs.YteaimaafahpamaaW.PrintLast Go.Proofs.YteaimaafahpamaaW.PrintMore
set_option linter.unusedVariables false
set_option linter.unusedSimpArgs false
attribute [local go_sem] Oper.semAt_some
/-! ### petrinetref53.Many, as a plain function -/
def maxAllL (k : Nat) : List Int → List (List Int) → Option (List Int)
  | M, [] => some M
  | M, x :: r => (petrinetref04_Max.f k M x).bind fun z => maxAllL k z r
theorem maxAllL_mono (k : Nat) : ∀ (L : List (List Int)) (M : List Int), LeO (maxAllL k M L) (maxAllL (k + 1) M L) := by
  intro L
  induction L with
  | nil => intro M; exact LeO.refl _
  | cons x r ih => intro M; exact LeO.bind (petrinetref04_Max.mono _ _ _) (fun z => ih z)
def incS (F : List Int) (t : Int) : List Int := F.set t.toNat (wrap64 (F.getD t.toNat 0 + 1))
def refManyL (k : Nat) (nm : ByteArray) (ps : List S65) (ts : List S68) (ws : List Int) (steps : Int) : Nat → List Int → List Int → Int → Int → Option (List Int × Int × List Int × Int)
  | 0, F, M, d, _ => some (F, d, M, 0)
  | j + 1, F, M, d, s => (petrinetref53_Run.f k nm ps ts ws s steps).bind fun x => if x.2.2.2 = true then (if (∀ t ∈ x.1, 0 ≤ t ∧ t < (F.length : Int)) ∧ x.1.length ≤ 1000000 ∧ x.2.1.length ≤ 1000000 then (maxAllL k M x.2.1).bind fun M2 => refManyL k nm ps ts ws steps j (x.1.foldl incS F) M2 (if (x.1.length : Int) < steps then wrap64 (d + 1) else d) x.2.2.1 else none) else some ([], 0, [], 3)
theorem refManyL_mono (nm : ByteArray) (ps : List S65) (ts : List S68) (ws : List Int) (steps : Int) (k : Nat) : ∀ (j : Nat) (F M : List Int) (d s : Int), LeO (refManyL k nm ps ts ws steps j F M d s) (refManyL (k + 1) nm ps ts ws steps j F M d s) := by
  intro j
  induction j with
  | zero => intro F M d s; exact LeO.refl _
  | succ j ih => intro F M d s; exact LeO.bind (petrinetref53_Run.mono _ _ _ _ _ _ _) (fun x => LeO.ite (LeO.ite (LeO.bind (maxAllL_mono _ _ _) (fun M2 => ih _ _ _ _)) (LeO.refl _)) (LeO.refl _))
def petrinetref53_Many.f (k : Nat) (a0_0 : ByteArray) (l0_1 : List (S65)) (l0_2 : List (S68)) (l1 : List Int) (a2 : Int) (a3 : Int) (a4 : Int) : Option (List Int × Int × List Int × Int) :=
  (petrinetref53_Check.f k a0_0 l0_1 l0_2 l1 a3).bind fun c => if c = 0 then (if a4 < 1 ∨ a4 > 100 then some ([], 0, [], 1) else if l0_2.length ≤ 1000000 then (petrinetref09_Initial.f k a0_0 l0_1 l0_2).bind fun m0 => refManyL k a0_0 l0_1 l0_2 l1 a3 a4.toNat (List.replicate l0_2.length 0) m0 0 a2 else none) else some ([], 0, [], c)
theorem petrinetref53_Many.mono : ∀ a0 a1 a2 a3 a4 a5 a6 k, LeO (petrinetref53_Many.f k a0 a1 a2 a3 a4 a5 a6) (petrinetref53_Many.f (k + 1) a0 a1 a2 a3 a4 a5 a6) := by
  intro a0 a1 a2 a3 a4 a5 a6 k
  exact LeO.bind (petrinetref53_Check.mono _ _ _ _ _ _) (fun c => LeO.ite (LeO.ite (LeO.refl _) (LeO.ite (LeO.bind (petrinetref09_Initial.mono _ _ _ _) (fun m0 => refManyL_mono _ _ _ _ _ _ _ _ _ _ _)) (LeO.refl _))) (LeO.refl _))
theorem inc_fir : ∀ (l : List (Int × List Int)) (F : List Int), (∀ p ∈ l, 0 ≤ p.1) → (l.map (·.1)).foldl incS F = l.foldl firS F := by
  intro l
  induction l with
  | nil => intro F _; rfl
  | cons p r ih =>
    intro F h
    rw [List.map_cons, List.foldl_cons, List.foldl_cons, ih _ (fun q hq => h q (List.mem_cons_of_mem _ hq)), firS, if_pos (h p List.mem_cons_self)]
    rfl
theorem firS_fold_len : ∀ (l : List (Int × List Int)) (F : List Int), (l.foldl firS F).length = F.length := by
  intro l
  induction l with
  | nil => intro F; rfl
  | cons p r ih => intro F; rw [List.foldl_cons, ih, firS_len]
theorem maxAll_ev : ∀ (L : List (List Int)) (M : List Int), M.length ≤ 1000 → (∀ x ∈ L, x.length = M.length) → Ev (fun k => maxAllL k M L) (topL M L) := by
  intro L
  induction L with
  | nil => intro M _ _; exact Ev.of fun _ => rfl
  | cons x r ih =>
    intro M hM h
    have hx := h x List.mem_cons_self
    have hz : (List.zipWith mx M x).length = M.length := by simp; omega
    simp only [maxAllL]
    refine Ev.bind (max4_ev M x hx.symm hM) ?_
    exact ih _ (by omega) (fun y hy => by rw [hz]; exact h y (List.mem_cons_of_mem _ hy))
theorem refManyL_ev {nm : ByteArray} {ps : List S65} {ts : List S68} {ws : List Int} {steps : Int} (h0 : Chk0 nm ps ts ws steps) (hk : lenOk ts) : ∀ (j : Nat) (F M : List Int) (d : Int) (s : Nat), F.length = ts.length → M.length = ps.length → Ev (fun k => refManyL k nm ps ts ws steps j F M d (s : Int)) (manyR ps ts ws steps j F M d s) := by
  intro j
  induction j with
  | zero => intro F M d s _ _; exact Ev.of fun _ => rfl
  | succ j ih =>
    intro F M d s hF hM
    have hrl := run_len ps ts ws s steps h0.st.2
    have hpos := walk_pos steps.toNat (m0L ps) s h0.way
    have h24 := h0.way.net.np
    simp only [refManyL, manyR]
    refine Ev.bind (SimRef_ev h0 hk s) ?_
    by_cases he : (runR' ps ts ws s steps).2.2 = 0
    · have hlen : ∀ x ∈ m0L ps :: (runR' ps ts ws s steps).1.map (·.2), x.length = M.length := by
        intro x hx
        rcases List.mem_cons.1 hx with rfl | hx
        · rw [h0.way.mark.len, hM]
        · obtain ⟨p, hp, rfl⟩ := List.mem_map.1 hx
          rw [(hpos p hp).2.2.2.len, hM]
      have hg : (∀ t ∈ (runR' ps ts ws s steps).1.map (·.1), 0 ≤ t ∧ t < (F.length : Int)) ∧ (runR' ps ts ws s steps).1.length ≤ 1000000 ∧ (m0L ps :: (runR' ps ts ws s steps).1.map (·.2)).length ≤ 1000000 := by
        refine ⟨fun t ht => ?_, by omega, by simp; omega⟩
        obtain ⟨p, hp, rfl⟩ := List.mem_map.1 ht
        have := hpos p hp
        rw [hF]; exact ⟨this.1, this.2.1⟩
      simp only [SimRef, if_pos he, if_true, List.length_map, if_pos hg]
      refine Ev.bind (maxAll_ev _ M (by omega) hlen) ?_
      have hi := inc_fir (runR' ps ts ws s steps).1 F (fun p hp => (hpos p hp).1)
      rw [hi]
      exact ih _ _ _ _ (by rw [firS_fold_len]; exact hF) (by rw [topL_len _ _ hlen, hM])
    · simp only [SimRef, if_neg he, if_neg (show ¬ (false = true) by decide)]
      exact Ev.of fun _ => rfl
theorem RefMany_ev (nm : ByteArray) (ps : List S65) (ts : List S68) (ws : List Int) (s : Nat) (steps runs : Int) (hl : ws.length ≤ 9223372036854775807) (hl1 : ps.length ≤ 9223372036854775807) (hl2 : ts.length ≤ 9223372036854775807) (hk : lenOk ts) : Ev (fun k => petrinetref53_Many.f k nm ps ts ws (s : Int) steps runs) (SimMany nm ps ts ws s steps runs) := by
  simp only [petrinetref53_Many.f, SimMany]
  refine Ev.bind (refcheck_ev nm ps ts ws steps hl hl1 hl2 hk) ?_
  by_cases hc : simChk nm ps ts ws steps = 0
  · have h0 := simChk_zero hc
    have h25 := h0.way.net.nt
    simp only [if_pos hc]
    by_cases hr : runs < 1 ∨ runs > 100
    · simp only [if_pos hr]; exact Ev.of fun _ => rfl
    · simp only [if_neg hr, if_pos (show ts.length ≤ 1000000 by omega)]
      refine Ev.bind (refinit_ev h0.net h0.way.net hk) ?_
      exact refManyL_ev h0 hk _ _ _ _ _ (by simp) h0.way.mark.len
  · simp only [if_neg hc]; exact Ev.of fun _ => rfl

end Go.Proofs.Yteaimaafahpamaa.Hy
