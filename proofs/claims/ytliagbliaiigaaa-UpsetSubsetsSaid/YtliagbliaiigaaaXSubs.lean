/- By hand (up_lists, up_subs): a part of this seat's proofs. -/
import Derived.Test.YtliagbliaiigaaaXUp
import Derived.Test.YtliagbliaiigaaaH5
import Derived.Test.YtliagbliaiigaaaH21
namespace Go.Proofs.Ytliagbliaiigaaa.Hy
open Go.RowKit Go.Shelf Go.Proofs.YtliagbliaiigaaaW.PrintWords Go.Proofs.YtliagbliaiigaaaW.PrintLast Go.Proofs.YtliagbliaiigaaaW.PrintMore
set_option linter.unusedVariables false
set_option linter.unusedSimpArgs false
attribute [local go_sem] Oper.semAt_some
/-! ### the reference's small functions -/
theorem same04_loop (a b : List Int) (hab : a.length = b.length) (hl : a.length ≤ 1000000) : ∀ (m i : Nat), i + m = a.length → Ev (fun k => petrinetref04_Same.l0 k a b i) (decide (a.drop i = b.drop i)) := by
  intro m
  induction m with
  | zero =>
    intro i hi
    refine Ev.up ?_
    simp only [petrinetref04_Same.l0, if_neg (show ¬ (i : Int) < (a.length : Int) by omega)]
    rw [List.drop_of_length_le (by omega), List.drop_of_length_le (by omega)]
    exact Ev.of fun _ => rfl
  | succ m ih =>
    intro i hi
    refine Ev.up ?_
    simp only [petrinetref04_Same.l0, if_pos (show (i : Int) < (a.length : Int) by omega), if_pos (show (0 : Int) ≤ (i : Int) by omega), if_pos (show (i : Int) < (b.length : Int) by omega), w_succ (show i < 9223372036854775807 by omega)]
    rw [dropI (show i < a.length by omega), dropI (show i < b.length by omega)]
    by_cases h : rd a (i : Int) = rd b (i : Int)
    · simp only [if_pos h]
      refine Ev.cast (ih (i + 1) (by omega)) ?_
      rw [h]; simp
    · simp only [if_neg h]
      refine Ev.of fun _ => ?_
      simp [h]
theorem same04_ev (a b : List Int) (hl : a.length ≤ 1000000) : Ev (fun k => petrinetref04_Same.f k a b) (decide (a = b)) := by
  by_cases h : (a.length : Int) = (b.length : Int)
  · simp only [petrinetref04_Same.f, if_pos h]
    exact same04_loop a b (by omega) hl a.length 0 (by omega)
  · simp only [petrinetref04_Same.f, if_neg h]
    rw [decide_eq_false (fun e => h (by rw [e]))]
    exact Ev.of fun _ => rfl
theorem lists_loop (a b : List (List Int)) (hab : a.length = b.length) (hl : a.length ≤ 1000000) (hm : ∀ x ∈ a, x.length ≤ 1000000) : ∀ (m i : Nat), i + m = a.length → Ev (fun k => petrinetref04_Lists.l0 k a b i) (decide (a.drop i = b.drop i)) := by
  intro m
  induction m with
  | zero =>
    intro i hi
    refine Ev.up ?_
    simp only [petrinetref04_Lists.l0, if_neg (show ¬ (i : Int) < (a.length : Int) by omega)]
    rw [List.drop_of_length_le (by omega), List.drop_of_length_le (by omega)]
    exact Ev.of fun _ => rfl
  | succ m ih =>
    intro i hi
    refine Ev.up ?_
    simp only [petrinetref04_Lists.l0, if_pos (show (i : Int) < (a.length : Int) by omega), if_pos (show (0 : Int) ≤ (i : Int) by omega), if_pos (show (i : Int) < (b.length : Int) by omega), w_succ (show i < 9223372036854775807 by omega)]
    have hmem : rd_L1 a (i : Int) ∈ a := by rw [rdL_nat, List.getD_eq_getElem?_getD, List.getElem?_eq_getElem (show i < a.length by omega)]; exact List.getElem_mem _
    refine Ev.bind (same04_ev _ _ (hm _ hmem)) ?_
    rw [dropL (show i < a.length by omega), dropL (show i < b.length by omega)]
    by_cases h : rd_L1 a (i : Int) = rd_L1 b (i : Int)
    · simp only [decide_eq_true h, if_true]
      refine Ev.cast (ih (i + 1) (by omega)) ?_
      rw [h]; simp
    · simp only [decide_eq_false h, if_neg (show ¬ (false = true) by decide)]
      refine Ev.of fun _ => ?_
      simp [h]
theorem lists_ev (a b : List (List Int)) (h : okIn a) : Ev (fun k => petrinetref04_Lists.f k a b) (decide (a = b)) := by
  by_cases hab : (a.length : Int) = (b.length : Int)
  · simp only [petrinetref04_Lists.f, if_pos hab]
    exact lists_loop a b (by omega) h.1 h.2 a.length 0 (by omega)
  · simp only [petrinetref04_Lists.f, if_neg hab]
    rw [decide_eq_false (fun e => hab (by rw [e]))]
    exact Ev.of fun _ => rfl

/-! ### UpsetSubsets -/
theorem subL_refl (a : List (List Int)) : subL a a = true := (subL_iff a a).2 fun _ h => h
theorem subL_trans {a b c : List (List Int)} (h1 : subL a b = true) (h2 : subL b c = true) : subL a c = true :=
  (subL_iff a c).2 fun x hx => (subL_iff b c).1 h2 x ((subL_iff a b).1 h1 x hx)
theorem subs_j2 (a b c : List (List Int)) (ha : okIn a) (hb : okIn b) (hc : okIn c) : Ev (fun k => petrinetlaw21_UpsetSubsets.j2 k a b c false) true := by
  refine Ev.up ?_
  simp only [petrinetlaw21_UpsetSubsets.j2, if_neg (show ¬ (false = true) by decide), sub_f ha hb, sub_f hb hc, sub_f ha hc, Option.bind_some]
  cases h1 : subL a b with
  | false => exact Ev.of fun _ => rfl
  | true =>
    simp only [if_true]
    cases h2 : subL b c with
    | false => exact Ev.of fun _ => rfl
    | true => simp only [if_true, subL_trans h1 h2]; exact Ev.of fun _ => rfl
theorem subs_j1 (a b c : List (List Int)) (ha : okIn a) (hb : okIn b) (hc : okIn c) : Ev (fun k => petrinetlaw21_UpsetSubsets.j1 k a b c false) true := by
  refine Ev.up ?_
  simp only [petrinetlaw21_UpsetSubsets.j1, if_neg (show ¬ (false = true) by decide), same_f ha hb, make_f ha, make_f hb, Option.bind_some]
  cases h1 : (subL a b && subL b a) with
  | false => simp only [if_neg (show ¬ (false = true) by decide)]; exact subs_j2 a b c ha hb hc
  | true =>
    simp only [if_true]
    rw [Bool.and_eq_true] at h1
    refine Ev.bind (lists_ev _ _ (makeL_ok ha)) ?_
    rw [make_eq h1.1 h1.2, decide_eq_true rfl]
    exact subs_j2 a b c ha hb hc
theorem subsets_ev (a b c : List (List Int)) : Ev (fun k => petrinetlaw21_UpsetSubsets.f k a b c) true := by
  have hj : Ev (fun k => petrinetlaw21_UpsetSubsets.j0 k a b c true) true := Ev.up (Ev.of fun _ => rfl)
  simp only [petrinetlaw21_UpsetSubsets.f, petrinetlaw21_lives.f, Option.bind_some, if_true]
  refine Ev.bind (few_ev a) ?_
  cases hfa : fewB a with
  | false => simp only [if_neg (show ¬ (false = true) by decide)]; exact hj
  | true =>
    simp only [if_true]
    refine Ev.bind (few_ev b) ?_
    cases hfb : fewB b with
    | false => simp only [if_neg (show ¬ (false = true) by decide)]; exact hj
    | true =>
      simp only [if_true]
      refine Ev.bind (few_ev c) ?_
      cases hfc : fewB c with
      | false => exact hj
      | true =>
        have ha := few_in hfa
        have hb := few_in hfb
        have hc := few_in hfc
        refine Ev.up ?_
        simp only [petrinetlaw21_UpsetSubsets.j0, Bool.not_true, if_neg (show ¬ (false = true) by decide), sub_f ha ha, same_f ha hb, sub_f ha hb, sub_f hb ha, Option.bind_some, subL_refl, if_true]
        have hj1 := subs_j1 a b c ha hb hc
        cases h1 : subL a b with
        | false => simpa using hj1
        | true =>
          simp only [if_true, Bool.true_and]
          cases h2 : subL b a <;> simpa using hj1
theorem subsets_row (a b c : List (List Int)) (_ : a.length ≤ 9223372036854775807) (_ : b.length ≤ 9223372036854775807) (_ : c.length ≤ 9223372036854775807) : Ev (fun k => petrinetlaw21_UpsetSubsets.f k a b c) true := subsets_ev a b c

end Go.Proofs.Ytliagbliaiigaaa.Hy
