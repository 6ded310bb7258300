/- By hand (up_minlaw): a part of this seat's proofs. -/
import Derived.Test.YtliagbliaiigaaaXMinD
import Derived.Test.YtliagbliaiigaaaXSem
import Derived.Test.YtliagbliaiigaaaXRefM
namespace Go.Proofs.Ytliagbliaiigaaa.Hy
open Go.RowKit Go.Shelf Go.Proofs.YtliagbliaiigaaaW.PrintWords Go.Proofs.YtliagbliaiigaaaW.PrintLast Go.Proofs.YtliagbliaiigaaaW.PrintMore
set_option linter.unusedVariables false
set_option linter.unusedSimpArgs false
attribute [local go_sem] Oper.semAt_some
theorem sorted_at {u : List (List Int)} (hs : Sorted u) {i j : Nat} (hij : i < j) (hj : j < u.length) : cmpL (rd_L1 u (i : Int)) (rd_L1 u (j : Int)) < 0 := by
  rw [rdL_nat, rdL_nat, List.getD_eq_getElem?_getD, List.getD_eq_getElem?_getD, List.getElem?_eq_getElem (by omega), List.getElem?_eq_getElem hj]
  exact List.pairwise_iff_getElem.1 hs i j (by omega) hj hij
theorem make_ne (l : List (List Int)) {i j : Nat} (hi : i < (makeL l).length) (hj : j < (makeL l).length) (h : j ≠ i) : leqL (rd_L1 (makeL l) (j : Int)) (rd_L1 (makeL l) (i : Int)) = false := by
  cases hc : leqL (rd_L1 (makeL l) (j : Int)) (rd_L1 (makeL l) (i : Int)) with
  | false => rfl
  | true =>
    have e := (base_make l).anti _ (rdL_mem hj) _ (rdL_mem hi) hc
    exfalso
    rcases Nat.lt_or_gt_of_ne h with h' | h'
    · have := sorted_at (sorted_make l) h' hi; rw [e, cmpL_refl] at this; omega
    · have := sorted_at (sorted_make l) h' hj; rw [e, cmpL_refl] at this; omega
theorem useL_in {l : List (List Int)} {x y : List Int} (hy : y ∈ useL l) (hx : x ∈ l) (hv : vldL x = true) (hl : x.length = y.length) : x ∈ useL l := by
  unfold useL at hy ⊢
  cases hf : l.find? goodB with
  | none => rw [hf] at hy; cases hy
  | some m0 =>
    rw [hf] at hy
    simp only [List.mem_filter, Bool.and_eq_true, decide_eq_true_eq] at hy ⊢
    exact ⟨hx, by omega, hv⟩
theorem useL_sub {l : List (List Int)} {x : List Int} (hx : x ∈ useL l) : x ∈ l := by
  unfold useL at hx
  cases hf : l.find? goodB with
  | none => rw [hf] at hx; cases hx
  | some m0 => rw [hf] at hx; exact (List.mem_filter.1 hx).1
theorem makeL_sub {l : List (List Int)} {x : List Int} (hx : x ∈ makeL l) : x ∈ l := useL_sub ((base_make l).sub _ hx)
theorem min_l2 (l : List (List Int)) (hok : okIn (makeL l)) (i : Nat) (hi : i < (makeL l).length) (H : Ev (fun k => petrinetlaw21_UpsetMinimal.l0 k l (makeL l) ((i + 1 : Nat) : Int)) true) :
    ∀ d j : Nat, j + d = (makeL l).length → Ev (fun k => petrinetlaw21_UpsetMinimal.l2 k l (makeL l) i j) true := by
  intro d
  induction d with
  | zero =>
    intro j hj
    refine Ev.up ?_
    simp only [petrinetlaw21_UpsetMinimal.l2, if_neg (show ¬ (j : Int) < ((makeL l).length : Int) by omega), w_succ (show i < 9223372036854775807 by have := hok.1; omega)]
    exact H
  | succ d ih =>
    intro j hj
    have hlt : j < (makeL l).length := by omega
    have hIH := ih (j + 1) (by omega)
    refine Ev.up ?_
    by_cases h : j = i
    · simp only [petrinetlaw21_UpsetMinimal.l2, if_pos (show (j : Int) < ((makeL l).length : Int) by omega), w_succ (show j < 9223372036854775807 by have := hok.1; omega), if_pos (show (j : Int) = (i : Int) by omega)]
      exact hIH
    · simp only [petrinetlaw21_UpsetMinimal.l2, if_pos (show (j : Int) < ((makeL l).length : Int) by omega), w_succ (show j < 9223372036854775807 by have := hok.1; omega), if_neg (show ¬ (j : Int) = (i : Int) by omega), if_pos (show (0 : Int) ≤ (j : Int) by omega), if_pos (show (0 : Int) ≤ (i : Int) by omega), if_pos (show (i : Int) < ((makeL l).length : Int) by omega)]
      refine Ev.bind (leq04_ev _ _ (hok.2 _ (rdL_mem hlt))) ?_
      simp only [make_ne l hi hlt h, if_neg (show ¬ (false = true) by decide)]
      exact hIH
theorem min_j2 (l : List (List Int)) (hok : okIn (makeL l)) (i : Nat) (hi : i < (makeL l).length) (H : Ev (fun k => petrinetlaw21_UpsetMinimal.l0 k l (makeL l) ((i + 1 : Nat) : Int)) true) : Ev (fun k => petrinetlaw21_UpsetMinimal.j2 k l (makeL l) i false) true := by
  refine Ev.up ?_
  simp only [petrinetlaw21_UpsetMinimal.j2, if_neg (show ¬ (false = true) by decide)]
  exact min_l2 l hok i hi H (makeL l).length 0 (by omega)
theorem min_l1 (l : List (List Int)) (hokl : okIn l) (hok : okIn (makeL l)) (i : Nat) (hi : i < (makeL l).length) (H : Ev (fun k => petrinetlaw21_UpsetMinimal.l0 k l (makeL l) ((i + 1 : Nat) : Int)) true) :
    ∀ (d j : Nat) (b : Bool), j + d = l.length → (b = true ∨ rd_L1 (makeL l) (i : Int) ∈ l.drop j) → Ev (fun k => petrinetlaw21_UpsetMinimal.l1 k l (makeL l) i b j) true := by
  intro d
  have hmi := hok.2 _ (rdL_mem hi)
  have hJ := min_j2 l hok i hi H
  induction d with
  | zero =>
    intro j b hj hb
    have hb' : b = true := by
      rcases hb with h | h
      · exact h
      · rw [List.drop_of_length_le (by omega)] at h; cases h
    subst hb'
    refine Ev.up ?_
    simp only [petrinetlaw21_UpsetMinimal.l1, if_neg (show ¬ (j : Int) < (l.length : Int) by omega), if_true, if_pos (show (0 : Int) ≤ (i : Int) by omega), if_pos (show (i : Int) < ((makeL l).length : Int) by omega), has_f hokl hmi, Option.bind_some, hasL_mem (rdL_mem hi)]
    by_cases h0 : i = 0
    · simp only [if_neg (show ¬ (i : Int) > 0 by omega)]
      exact hJ
    · have ew : wrap64 ((i : Int) - 1) = ((i - 1 : Nat) : Int) := by rw [w_id (by omega) (by have := hok.1; omega)]; omega
      simp only [if_pos (show (i : Int) > 0 by omega), ew, if_pos (show (0 : Int) ≤ ((i - 1 : Nat) : Int) by omega), if_pos (show ((i - 1 : Nat) : Int) < ((makeL l).length : Int) by omega)]
      refine Ev.bind (cmp04_ev _ _ (hok.2 _ (rdL_mem (by omega))) hmi) ?_
      have hc := sorted_at (sorted_make l) (show i - 1 < i by omega) hi
      simp only [decide_eq_false (show ¬ cmpL (rd_L1 (makeL l) ((i - 1 : Nat) : Int)) (rd_L1 (makeL l) (i : Int)) ≥ 0 by omega)]
      exact hJ
  | succ d ih =>
    intro j b hj hb
    have hlt : j < l.length := by omega
    have ej := w_succ (show j < 9223372036854775807 by have := hokl.1; omega)
    refine Ev.up ?_
    cases b with
    | true =>
      simp only [petrinetlaw21_UpsetMinimal.l1, if_pos (show (j : Int) < (l.length : Int) by omega), if_true, ej]
      exact ih (j + 1) true (by omega) (Or.inl rfl)
    | false =>
      simp only [petrinetlaw21_UpsetMinimal.l1, if_pos (show (j : Int) < (l.length : Int) by omega), if_neg (show ¬ (false = true) by decide), ej, if_pos (show (0 : Int) ≤ (j : Int) by omega), if_pos (show (0 : Int) ≤ (i : Int) by omega), if_pos (show (i : Int) < ((makeL l).length : Int) by omega)]
      refine Ev.bind (same04_ev _ _ (hokl.2 _ (rdL_mem hlt))) ?_
      refine ih (j + 1) _ (by omega) ?_
      rcases hb with h | h
      · cases h
      · rw [dropL hlt] at h
        rcases List.mem_cons.1 h with h | h
        · exact Or.inl (decide_eq_true h.symm)
        · exact Or.inr h
theorem min_end (l : List (List Int)) (hokl : okIn l) (hok : okIn (makeL l)) (x : Int) : Ev (fun k => petrinetlaw21_UpsetMinimal.j5 k l (makeL l) x false) true := by
  refine Ev.up ?_
  simp only [petrinetlaw21_UpsetMinimal.j5, if_neg (show ¬ (false = true) by decide), make_f hok, make_make, Option.bind_some]
  refine Ev.bind (lists_ev _ _ hok) ?_
  have s1 : subL (makeL l) l = true := (subL_iff _ _).2 fun x h => by rwa [hasL_make] at h
  have s2 : subL l (makeL l) = true := (subL_iff _ _).2 fun x h => by rwa [hasL_make]
  simp only [decide_eq_true rfl, if_true, same_f hok hokl, Option.bind_some, s1, s2, Bool.and_self]
  by_cases h0 : ((makeL l).length : Int) = 0
  · simp only [if_pos h0]; exact Ev.of fun _ => rfl
  · have hv : validL (makeL l) ((rd_L1 (makeL l) 0).length : Int) = true := by
      unfold validL
      rw [make_make, decide_eq_true rfl, Bool.true_and, Bool.not_eq_true', List.any_eq_false]
      intro m hm
      have := make_same hm (rdL_mem (l := makeL l) (i := 0) (by omega))
      simp [this]
    simp only [if_neg h0, if_pos (show (0 : Int) < ((makeL l).length : Int) by omega), valid_f hok, Option.bind_some, hv]
    exact Ev.of fun _ => rfl
theorem min_l3 (l : List (List Int)) (hokl : okIn l) (hok : okIn (makeL l)) : ∀ d j : Nat, j + d = l.length → Ev (fun k => petrinetlaw21_UpsetMinimal.l3 k l (makeL l) j) true := by
  intro d
  induction d with
  | zero =>
    intro j hj
    refine Ev.up ?_
    simp only [petrinetlaw21_UpsetMinimal.l3, if_neg (show ¬ (j : Int) < (l.length : Int) by omega)]
    exact min_end l hokl hok j
  | succ d ih =>
    intro j hj
    have hlt : j < l.length := by omega
    have ej := w_succ (show j < 9223372036854775807 by have := hokl.1; omega)
    have hIH := ih (j + 1) (by omega)
    refine Ev.up ?_
    simp only [petrinetlaw21_UpsetMinimal.l3, if_pos (show (j : Int) < (l.length : Int) by omega)]
    by_cases h0 : (makeL l).length = 0
    · simp only [decide_eq_false (show ¬ ((makeL l).length : Int) > 0 by omega)]
      exact min_end l hokl hok j
    · simp only [decide_eq_true (show ((makeL l).length : Int) > 0 by omega)]
      have h00 : rd_L1 (makeL l) 0 ∈ makeL l := rdL_mem (l := makeL l) (i := 0) (by omega)
      refine Ev.up ?_
      simp only [petrinetlaw21_UpsetMinimal.j5, if_true, if_pos (show (j : Int) < (l.length : Int) by omega), if_pos (show (0 : Int) ≤ (j : Int) by omega), if_pos (show (0 : Int) < ((makeL l).length : Int) by omega), ej]
      refine Ev.bind (valid04_ev _ _ (hokl.2 _ (rdL_mem hlt))) ?_
      cases hv : (vldL (rd_L1 l (j : Int)) && (((rd_L1 l (j : Int)).length : Int) == ((rd_L1 (makeL l) 0).length : Int))) with
      | false => simp only [if_neg (show ¬ (false = true) by decide)]; exact hIH
      | true =>
        simp only [Bool.and_eq_true, beq_iff_eq] at hv
        have hu := useL_in ((base_make l).sub _ h00) (rdL_mem hlt) hv.1 (by omega)
        have hh : hasL (makeL l) (rd_L1 l (j : Int)) = true := by
          rw [hasL_make, hasL_iff]; exact ⟨hv.1, _, hu, leqL_refl _⟩
        simp only [if_true, has_f hok (hokl.2 _ (rdL_mem hlt)), Option.bind_some, hh]
        exact hIH
theorem min_l0 (l : List (List Int)) (hokl : okIn l) (hok : okIn (makeL l)) : ∀ d i : Nat, i + d = (makeL l).length → Ev (fun k => petrinetlaw21_UpsetMinimal.l0 k l (makeL l) i) true := by
  intro d
  induction d with
  | zero =>
    intro i hi
    refine Ev.up ?_
    simp only [petrinetlaw21_UpsetMinimal.l0, if_neg (show ¬ (i : Int) < ((makeL l).length : Int) by omega)]
    exact min_l3 l hokl hok l.length 0 (by omega)
  | succ d ih =>
    intro i hi
    have hlt : i < (makeL l).length := by omega
    refine Ev.up ?_
    simp only [petrinetlaw21_UpsetMinimal.l0, if_pos (show (i : Int) < ((makeL l).length : Int) by omega)]
    exact min_l1 l hokl hok i hlt (ih (i + 1) (by omega)) l.length 0 false (by omega) (Or.inr (makeL_sub (rdL_mem hlt)))
theorem minimal_all_ev (l : List (List Int)) : Ev (fun k => petrinetlaw21_UpsetMinimal.f k l) true := by
  simp only [petrinetlaw21_UpsetMinimal.f, petrinetlaw21_lives.f, Option.bind_some]
  refine Ev.bind (few_ev l) ?_
  cases hf : fewB l with
  | false => simp only [if_neg (show ¬ (false = true) by decide)]; exact Ev.of fun _ => rfl
  | true =>
    have hok := few_in hf
    simp only [if_true, make_f hok, Option.bind_some]
    exact min_l0 l hok (makeL_ok hok) (makeL l).length 0 (by omega)
theorem minimal_row (l : List (List Int)) (_ : l.length ≤ 9223372036854775807) : Ev (fun k => petrinetlaw21_UpsetMinimal.f k l) true := minimal_all_ev l

end Go.Proofs.Ytliagbliaiigaaa.Hy
