/- By hand (sim_law3): a part of this seat's proofs. -/
import Derived.Test.YteaimaafahpamaaXSimLists
import Derived.Test.YteaimaafahpamaaXSimMany
import Derived.Test.YteaimaafahpamaaH30
import Derived.Test.YteaimaafahpamaaH32
namespace Go.Proofs.Yteaimaafahpamaa.Hy
open Go.RowKit Go.Shelf Go.Proofs.YteaimaafahpamaaW.PrintWords Go.Proofs.YteaimaafahpamaaW.PrintLast Go.Proofs.YteaimaafahpamaaW.PrintMore
set_option linter.unusedVariables false
set_option linter.unusedSimpArgs false
attribute [local go_sem] Oper.semAt_some
/-! ### what SimulateExtends needs -/
theorem walk_take {ps : List S65} {ts : List S68} {ws : List Int} : ∀ (j' j : Nat) (m : List Int) (s : Nat), j' ≤ j → (walkR ps ts ws j m s).2.2 = 0 → (walkR ps ts ws j' m s).1 = (walkR ps ts ws j m s).1.take j' ∧ (walkR ps ts ws j' m s).2.2 = 0 := by
  intro j'
  induction j' with
  | zero => intro j m s _ _; exact ⟨by simp [walkR], rfl⟩
  | succ j' ih =>
    intro j m s hj he
    obtain ⟨j, rfl⟩ : ∃ i, j = i + 1 := ⟨j - 1, by omega⟩
    rw [walkR] at he ⊢
    rw [walkR]
    by_cases hz : (wgt ps ts ws m).sum = 0
    · rw [if_pos hz] at he ⊢
      rw [if_pos hz]
      exact ⟨by simp, rfl⟩
    · rw [if_neg hz] at he ⊢
      rw [if_neg hz]
      cases hro : refAfter (rd_T68 ts (chT ps ts ws m s)) m ps.length with
      | none => rw [hro] at he; cases he
      | some o =>
        rw [hro] at he
        have := ih j o (stp s) (by omega) he
        exact ⟨by simp only [List.take_succ_cons, this.1], this.2⟩
theorem simChk_fewer {nm : ByteArray} {ps : List S65} {ts : List S68} {ws : List Int} {steps fewer : Int} (h : simChk nm ps ts ws steps = 0) (h0 : 0 ≤ fewer) (h1 : fewer ≤ steps) : simChk nm ps ts ws fewer = 0 := by
  have hst := (simChk_zero h).st
  unfold simChk at h ⊢
  split at h
  · rename_i hc
    split at h
    · rename_i hn
      split at h
      · rename_i hw
        rw [if_pos hc, if_pos hn, if_pos hw, if_neg (by omega), if_neg (by omega)]
      · cases h
    · cases h
  · rename_i hc; exact absurd h hc
theorem cnt_fold : ∀ (l : List (Int × List Int)) (c : Int), (∀ p ∈ l, 0 ≤ p.1) → 0 ≤ c → c + l.length ≤ 1000000 → l.foldl cntS c = c + l.length := by
  intro l
  induction l with
  | nil => intro c _ _ _; simp
  | cons p r ih =>
    intro c h h0 h1
    simp only [List.length_cons] at h1
    rw [List.foldl_cons, cntS, if_pos (h p List.mem_cons_self), w_id (by omega) (by omega), ih _ (fun q hq => h q (List.mem_cons_of_mem _ hq)) (by omega) (by omega)]
    simp only [List.length_cons]
    omega
theorem fir_fold : ∀ (l : List (Int × List Int)) (F : List Int) (c : Int), (∀ p ∈ l, 0 ≤ p.1 ∧ p.1 < (F.length : Int)) → (∀ x ∈ F, 0 ≤ x ∧ x ≤ c) → F.sum = c → 0 ≤ c → c + l.length ≤ 1000000 →
    (l.foldl firS F).length = F.length ∧ (∀ x ∈ l.foldl firS F, 0 ≤ x ∧ x ≤ c + l.length) ∧ (l.foldl firS F).sum = c + l.length := by
  intro l
  induction l with
  | nil => intro F c _ h2 h3 _ _; exact ⟨rfl, by simpa using h2, by simpa using h3⟩
  | cons p r ih =>
    intro F c h1 h2 h3 h0 h4
    simp only [List.length_cons] at h4
    have hp := h1 p List.mem_cons_self
    have hi : p.1.toNat < F.length := by omega
    have hg : 0 ≤ F.getD p.1.toNat 0 ∧ F.getD p.1.toNat 0 ≤ c := by
      rw [List.getD_eq_getElem?_getD, List.getElem?_eq_getElem hi]
      exact h2 _ (List.getElem_mem hi)
    have e : firS F p = F.set p.1.toNat (F.getD p.1.toNat 0 + 1) := by rw [firS, if_pos hp.1, w_id (by omega) (by omega)]
    rw [List.foldl_cons, e]
    obtain ⟨q1, q2, q3⟩ := ih (F.set p.1.toNat (F.getD p.1.toNat 0 + 1)) (c + 1) (fun q hq => by rw [List.length_set]; exact h1 q (List.mem_cons_of_mem _ hq)) (fun x hx => by
      rcases List.mem_or_eq_of_mem_set hx with hx | rfl
      · have := h2 x hx; omega
      · omega) (by rw [sum_set _ _ _ hi, h3]; omega) (by omega) (by omega)
    refine ⟨by rw [q1, List.length_set], fun x hx => ?_, ?_⟩
    · have := q2 x hx
      simp only [List.length_cons]
      omega
    · rw [q3]; simp only [List.length_cons]; omega
theorem total_ev (F : List Int) (hl : F.length ≤ 24) (hb : ∀ x ∈ F, 0 ≤ x ∧ x ≤ 1048576) : Ev (fun k => petrinetref04_Total.f k F) F.sum := by
  simp only [petrinetref04_Total.f]
  refine Ev.bind (valid4_ev F F.length (by omega)) ?_
  rw [markB_of ⟨rfl, hb⟩]
  simp only [if_true, decide_eq_false (show ¬ (F.length : Int) > 24 by omega)]
  refine Ev.up ?_
  simp only [petrinetref04_Total.j0, if_neg (show ¬ (false = true) by decide)]
  have hs : ∀ i, i ≤ F.length → 0 ≤ (F.take i).sum ∧ (F.take i).sum ≤ 1048576 * i := by
    intro i
    induction i with
    | zero => intro _; simp
    | succ i ih =>
      intro hi
      have h1 := ih (by omega)
      have hlt : i < F.length := by omega
      have h2 := hb _ (List.getElem_mem hlt)
      rw [List.take_succ_eq_append_getElem hlt, List.sum_append]
      simp only [List.sum_cons, List.sum_nil]
      omega
  have key := Ev.loop F.length (fun k i => petrinetref04_Total.l0 k F (F.take i).sum (i : Int)) (fun _ => F.sum) (fun i hi ih => ?_) ?_ 0 (Nat.zero_le _)
  · simpa using key
  · have h1 := hs i (by omega)
    have h2 := hs (i + 1) (by omega)
    have e : (F.take i).sum + rd F (i : Int) = (F.take (i + 1)).sum := by
      rw [List.take_succ_eq_append_getElem hi, List.sum_append, rd_nat, List.getD_eq_getElem?_getD, List.getElem?_eq_getElem hi]; simp
    refine Ev.up ?_
    simp only [petrinetref04_Total.l0, if_pos (show (i : Int) < (F.length : Int) by omega), if_pos (show (0 : Int) ≤ (i : Int) by omega), w_succ (show i < 9223372036854775807 by omega), e, w_id (show -9223372036854775808 ≤ (F.take (i + 1)).sum by omega) (show (F.take (i + 1)).sum ≤ 9223372036854775807 by omega)]
    exact ih
  · refine Ev.up ?_
    simp only [petrinetref04_Total.l0, if_neg (show ¬ (F.length : Int) < (F.length : Int) by omega), List.take_length]
    exact Ev.of fun _ => rfl
theorem max4_ev (a b : List Int) (hab : a.length = b.length) (hl : a.length ≤ 1000) : Ev (fun k => petrinetref04_Max.f k a b) (List.zipWith mx a b) := by
  simp only [petrinetref04_Max.f, if_pos (show (a.length : Int) = (b.length : Int) by omega)]
  have hzl : (List.zipWith mx a b).length = a.length := by simp; omega
  have key := Ev.loop a.length (fun k i => petrinetref04_Max.l0 k a b ((List.zipWith mx a b).take i) (i : Int)) (fun _ => List.zipWith mx a b) (fun i hi ih => ?_) ?_ 0 (Nat.zero_le _)
  · simpa using key
  · have e : (List.zipWith mx a b).take i ++ [mx (rd a (i : Int)) (rd b (i : Int))] = (List.zipWith mx a b).take (i + 1) := by
      rw [List.take_succ_eq_append_getElem (by omega), List.getElem_zipWith, rd_nat, rd_nat, List.getD_eq_getElem?_getD, List.getD_eq_getElem?_getD, List.getElem?_eq_getElem hi, List.getElem?_eq_getElem (show i < b.length by omega)]; rfl
    refine Ev.up ?_
    simp only [petrinetref04_Max.l0, if_pos (show (i : Int) < (a.length : Int) by omega), if_pos (show (0 : Int) ≤ (i : Int) by omega), if_pos (show (i : Int) < (b.length : Int) by omega), if_pos (show ((List.zipWith mx a b).take i).length < 17592186044416 by rw [List.length_take]; omega), w_succ (show i < 9223372036854775807 by omega), e]
    exact ih
  · refine Ev.up ?_
    simp only [petrinetref04_Max.l0, if_neg (show ¬ (a.length : Int) < (a.length : Int) by omega)]
    rw [← hzl, List.take_length]
    exact Ev.of fun _ => rfl
theorem zip_self : ∀ m : List Int, List.zipWith mx m m = m := by
  intro m
  induction m with
  | nil => rfl
  | cons x r ih => simp only [List.zipWith_cons_cons, ih, mx]; congr 1; split <;> rfl
theorem zip_zero : ∀ m : List Int, (∀ x ∈ m, 0 ≤ x) → List.zipWith mx (List.replicate m.length 0) m = m := by
  intro m
  induction m with
  | nil => intro _; rfl
  | cons x r ih =>
    intro h
    have hx := h x List.mem_cons_self
    rw [List.length_cons, List.replicate_succ, List.zipWith_cons_cons, ih (fun y hy => h y (List.mem_cons_of_mem _ hy)), mx]
    congr 1
    split <;> omega
def topL (m0 : List Int) (Mk : List (List Int)) : List Int := Mk.foldl (fun t x => List.zipWith mx t x) m0
theorem topL_len : ∀ (Mk : List (List Int)) (m0 : List Int), (∀ x ∈ Mk, x.length = m0.length) → (topL m0 Mk).length = m0.length := by
  intro Mk
  induction Mk with
  | nil => intro m0 _; rfl
  | cons x r ih =>
    intro m0 h
    have hx := h x List.mem_cons_self
    show (topL (List.zipWith mx m0 x) r).length = _
    have hz : (List.zipWith mx m0 x).length = m0.length := by simp; omega
    rw [ih _ (fun y hy => by rw [hz]; exact h y (List.mem_cons_of_mem _ hy)), hz]
theorem max_fold (l : List (Int × List Int)) (M : List Int) : l.foldl maxS M = topL M (l.map (·.2)) := by
  unfold topL
  rw [List.foldl_map]
  rfl
/-- one run alone -/
theorem many1_ev {nm : ByteArray} {ps : List S65} {ts : List S68} {ws : List Int} {steps : Int} (hc : simChk nm ps ts ws steps = 0) (s : Nat) (he : (runR' ps ts ws s steps).2.2 = 0) (hw : ws.length ≤ 9223372036854775807) :
    Ev (fun k => simulate_Many.f k nm ps ts ws (s : Int) steps 1) ((runR' ps ts ws s steps).1.foldl firS (List.replicate ts.length 0), (if ((runR' ps ts ws s steps).1.length : Int) < steps then 1 else 0), topL (m0L ps) ((runR' ps ts ws s steps).1.map (·.2)), 0) := by
  have h0 := simChk_zero hc
  have hrl := run_len ps ts ws s steps h0.st.2
  have hpos := walk_pos steps.toNat (m0L ps) s h0.way
  have h24 := h0.way.net.np
  have h25 := h0.way.net.nt
  simp only [simulate_Many.f]
  refine Ev.bind (check_ev nm ps ts ws steps hw) ?_
  simp only [hc, if_true, if_neg (show ¬ ((1 : Int) < 1 ∨ (1 : Int) > 100) by decide), if_pos (show ps.length ≤ 1000000 ∧ ts.length ≤ 1000000 by omega), show (1 : Int).toNat = 0 + 1 from rfl, manyL]
  refine Ev.bind (runF_ev h0 s) ?_
  simp only [he, if_true]
  refine Ev.of fun _ => ?_
  have e1 : ((-1, m0L ps) :: (runR' ps ts ws s steps).1).foldl firS (List.replicate ts.length 0) = (runR' ps ts ws s steps).1.foldl firS (List.replicate ts.length 0) := by rw [List.foldl_cons, firS, if_neg (show ¬ (0 : Int) ≤ -1 by decide)]
  have e2 : ((-1, m0L ps) :: (runR' ps ts ws s steps).1).foldl cntS 0 = ((runR' ps ts ws s steps).1.length : Int) := by
    rw [List.foldl_cons, cntS, if_neg (show ¬ (0 : Int) ≤ -1 by decide), cnt_fold (runR' ps ts ws s steps).1 0 (fun p hp => (hpos p hp).1) (by omega) (by omega)]; omega
  have e3 : ((-1, m0L ps) :: (runR' ps ts ws s steps).1).foldl maxS (List.replicate ps.length 0) = topL (m0L ps) ((runR' ps ts ws s steps).1.map (·.2)) := by
    rw [List.foldl_cons, maxS, max_fold]
    have := zip_zero (m0L ps) (fun x hx => (h0.way.mark.bd x hx).1)
    rw [h0.way.mark.len] at this
    rw [this]
  rw [e1, e2, e3, show wrap64 ((0 : Int) + 1) = 1 from by rw [w_id (by omega) (by omega)]; rfl]

end Go.Proofs.Yteaimaafahpamaa.Hy
