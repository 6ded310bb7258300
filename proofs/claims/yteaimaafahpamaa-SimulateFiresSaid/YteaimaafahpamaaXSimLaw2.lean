/- By hand (sim_law2): a part of this seat's proofs. -/
import Derived.Test.YteaimaafahpamaaXSimPure2
import Derived.Test.YteaimaafahpamaaXSimEvR
import Derived.Test.YteaimaafahpamaaH21
import Derived.Test.YteaimaafahpamaaH23
namespace Go.Proofs.Yteaimaafahpamaa.Hy
open Go.RowKit Go.Shelf Go.Proofs.YteaimaafahpamaaW.PrintWords Go.Proofs.YteaimaafahpamaaW.PrintLast Go.Proofs.YteaimaafahpamaaW.PrintMore
set_option linter.unusedVariables false
set_option linter.unusedSimpArgs false
attribute [local go_sem] Oper.semAt_some
/-! ### SimulateFires -/
def lastOf (m : List Int) (l : List (Int × List Int)) : List Int := (l.getLast?.map (·.2)).getD m
theorem lastOf_cons (m : List Int) (p : Int × List Int) (l : List (Int × List Int)) : lastOf m (p :: l) = lastOf p.2 l := by
  cases l with
  | nil => rfl
  | cons q r => simp [lastOf, List.getLast?_cons_cons, List.getLast?_cons]
theorem lastL_of (m0 : List Int) (l : List (Int × List Int)) : lastL ((-1, m0) :: l) = lastOf m0 l := by
  rw [← lastOf_cons [] (-1, m0) l]; rfl
theorem walk_runs {nm : ByteArray} {ps : List S65} {ts : List S68} {ws : List Int} (hc : (chkNet nm ps ts).1 = 0) : ∀ (j : Nat) (m : List Int) (s : Nat) (i : Nat), Way ps ts ws m → (walkR ps ts ws j m s).2.2 = 0 →
    runR nm ps ts i m ((walkR ps ts ws j m s).1.map (·.1)) = (lastOf m (walkR ps ts ws j m s).1, 0, 0) ∧ Way ps ts ws (lastOf m (walkR ps ts ws j m s).1) ∧ ((walkR ps ts ws j m s).1.length < j → (wgt ps ts ws (lastOf m (walkR ps ts ws j m s).1)).sum = 0) := by
  intro j
  induction j with
  | zero => intro m s i h _; exact ⟨rfl, h, fun hl => by simp [walkR] at hl⟩
  | succ j ih =>
    intro m s i h he
    rw [walkR] at he ⊢
    by_cases hz : (wgt ps ts ws m).sum = 0
    · rw [if_pos hz] at he ⊢
      exact ⟨rfl, h, fun _ => hz⟩
    · rw [if_neg hz] at he ⊢
      obtain ⟨n, e, hn, hm, _⟩ := h.chT_spec s hz
      have hnx := fun o => h.next (s := s) (o := o) hz
      cases hro : refAfter (rd_T68 ts (chT ps ts ws m s)) m ps.length with
      | none => rw [hro] at he; cases he
      | some o =>
        rw [hro] at he
        have hW := hnx o hro
        obtain ⟨h1, h2, h3⟩ := ih o (stp s) (i + 1) hW he
        have hf := fire_may hc h hn hm
        rw [← e, hro] at hf
        simp only [lastOf_cons, List.map_cons, List.length_cons]
        refine ⟨?_, h2, fun hl => h3 (by omega)⟩
        rw [runR, hf, if_pos rfl]
        exact h1
theorem sumW_zero {ws : List Int} (hw : ∀ w ∈ ws, okW w) : ∀ may : List Int, sumW ws may = 0 → ∀ t ∈ may, rd ws t = 0 := by
  intro may
  induction may with
  | nil => intro _ t ht; simp at ht
  | cons x r ih =>
    intro h t ht
    have hb := sumW_bd ws hw r
    have hx := sumW_bd ws hw [x]
    simp only [sumW, List.map_cons, List.map_nil, List.sum_cons, List.sum_nil] at h hb hx
    rcases List.mem_cons.1 ht with rfl | ht
    · omega
    · exact ih (by unfold sumW; omega) t ht
theorem reflist_ev {nm : ByteArray} {ps : List S65} {ts : List S68} {m : List Int} (hc : (chkNet nm ps ts).1 = 0) (hn : NetOk ps ts) (hM : MOk ps.length m) (hk : lenOk ts) : Ev (fun k => petrinetref11_List.f k nm ps ts m) (firesN ps ts m) := by
  have h24 := hn.np
  have h25 := hn.nt
  simp only [petrinetref11_List.f, petrinetref11_Good.f]
  refine Ev.bind (a := true) ?_ ?_
  · refine Ev.bind (refCheck_ev nm ps ts (by omega) (by omega) hk) ?_
    simp only [hc, if_true]
    refine Ev.bind (valid4_ev m ps.length (by rw [hM.len]; omega)) ?_
    rw [markB_of hM]
    exact Ev.of fun _ => rfl
  · simp only [if_true]
    exact Ev.bind (fires_ev nm ps ts m (by omega) (by rw [hM.len]; exact Nat.le_refl _)) (Ev.of fun _ => rfl)

end Go.Proofs.Yteaimaafahpamaa.Hy
