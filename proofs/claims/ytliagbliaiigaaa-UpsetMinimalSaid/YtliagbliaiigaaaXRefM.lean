/- By hand (up_lists, up_ref1): a part of this seat's proofs. -/
import Derived.Test.YtliagbliaiigaaaXUp
import Derived.Test.YtliagbliaiigaaaH5
import Derived.Test.YtliagbliaiigaaaH6
import Derived.Test.YtliagbliaiigaaaH8
import Derived.Test.YtliagbliaiigaaaH9
namespace Go.Proofs.Ytliagbliaiigaaa.Hy
open Go.RowKit Go.Shelf Go.Proofs.YtliagbliaiigaaaW.PrintWords Go.Proofs.YtliagbliaiigaaaW.PrintLast Go.Proofs.YtliagbliaiigaaaW.PrintMore
set_option linter.unusedVariables false
set_option linter.unusedSimpArgs false
attribute [local go_sem] Oper.semAt_some
/-! ### the reference's small functions -/
theorem same04_loop (a b : List Int) (hab : a.length = b.length) (hl : a.length ≤ 1000000) : ∀ (m i : Nat), i + m = a.length → Ev (fun k => petrinetref04_Same.l0 k a b i) (decide (a.drop i = b.drop i)) := by
  intro m
  induction m with
  | zero =>
    intro i hi
    refine Ev.up ?_
    simp only [petrinetref04_Same.l0, if_neg (show ¬ (i : Int) < (a.length : Int) by omega)]
    rw [List.drop_of_length_le (by omega), List.drop_of_length_le (by omega)]
    exact Ev.of fun _ => rfl
  | succ m ih =>
    intro i hi
    refine Ev.up ?_
    simp only [petrinetref04_Same.l0, if_pos (show (i : Int) < (a.length : Int) by omega), if_pos (show (0 : Int) ≤ (i : Int) by omega), if_pos (show (i : Int) < (b.length : Int) by omega), w_succ (show i < 9223372036854775807 by omega)]
    rw [dropI (show i < a.length by omega), dropI (show i < b.length by omega)]
    by_cases h : rd a (i : Int) = rd b (i : Int)
    · simp only [if_pos h]
      refine Ev.cast (ih (i + 1) (by omega)) ?_
      rw [h]; simp
    · simp only [if_neg h]
      refine Ev.of fun _ => ?_
      simp [h]
theorem same04_ev (a b : List Int) (hl : a.length ≤ 1000000) : Ev (fun k => petrinetref04_Same.f k a b) (decide (a = b)) := by
  by_cases h : (a.length : Int) = (b.length : Int)
  · simp only [petrinetref04_Same.f, if_pos h]
    exact same04_loop a b (by omega) hl a.length 0 (by omega)
  · simp only [petrinetref04_Same.f, if_neg h]
    rw [decide_eq_false (fun e => h (by rw [e]))]
    exact Ev.of fun _ => rfl
theorem lists_loop (a b : List (List Int)) (hab : a.length = b.length) (hl : a.length ≤ 1000000) (hm : ∀ x ∈ a, x.length ≤ 1000000) : ∀ (m i : Nat), i + m = a.length → Ev (fun k => petrinetref04_Lists.l0 k a b i) (decide (a.drop i = b.drop i)) := by
  intro m
  induction m with
  | zero =>
    intro i hi
    refine Ev.up ?_
    simp only [petrinetref04_Lists.l0, if_neg (show ¬ (i : Int) < (a.length : Int) by omega)]
    rw [List.drop_of_length_le (by omega), List.drop_of_length_le (by omega)]
    exact Ev.of fun _ => rfl
  | succ m ih =>
    intro i hi
    refine Ev.up ?_
    simp only [petrinetref04_Lists.l0, if_pos (show (i : Int) < (a.length : Int) by omega), if_pos (show (0 : Int) ≤ (i : Int) by omega), if_pos (show (i : Int) < (b.length : Int) by omega), w_succ (show i < 9223372036854775807 by omega)]
    have hmem : rd_L1 a (i : Int) ∈ a := by rw [rdL_nat, List.getD_eq_getElem?_getD, List.getElem?_eq_getElem (show i < a.length by omega)]; exact List.getElem_mem _
    refine Ev.bind (same04_ev _ _ (hm _ hmem)) ?_
    rw [dropL (show i < a.length by omega), dropL (show i < b.length by omega)]
    by_cases h : rd_L1 a (i : Int) = rd_L1 b (i : Int)
    · simp only [decide_eq_true h, if_true]
      refine Ev.cast (ih (i + 1) (by omega)) ?_
      rw [h]; simp
    · simp only [decide_eq_false h, if_neg (show ¬ (false = true) by decide)]
      refine Ev.of fun _ => ?_
      simp [h]
theorem lists_ev (a b : List (List Int)) (h : okIn a) : Ev (fun k => petrinetref04_Lists.f k a b) (decide (a = b)) := by
  by_cases hab : (a.length : Int) = (b.length : Int)
  · simp only [petrinetref04_Lists.f, if_pos hab]
    exact lists_loop a b (by omega) h.1 h.2 a.length 0 (by omega)
  · simp only [petrinetref04_Lists.f, if_neg hab]
    rw [decide_eq_false (fun e => hab (by rw [e]))]
    exact Ev.of fun _ => rfl

/-! ### the reference -/
theorem valid04_loop (a : List Int) (n : Int) (hl : a.length ≤ 1000000) : ∀ (m i : Nat), i + m = a.length → Ev (fun k => petrinetref04_Valid.l0 k a n i) (vldL (a.drop i) && ((a.length : Int) == n)) := by
  intro m
  induction m with
  | zero =>
    intro i hi
    refine Ev.up ?_
    simp only [petrinetref04_Valid.l0, if_neg (show ¬ (i : Int) < (a.length : Int) by omega)]
    rw [List.drop_of_length_le (by omega)]
    exact Ev.of fun _ => by simp [vldL]
  | succ m ih =>
    intro i hi
    refine Ev.up ?_
    simp only [petrinetref04_Valid.l0, if_pos (show (i : Int) < (a.length : Int) by omega), if_pos (show (0 : Int) ≤ (i : Int) by omega), w_succ (show i < 9223372036854775807 by omega)]
    rw [dropI (show i < a.length by omega)]
    unfold vldL
    rw [List.all_cons, okZ]
    by_cases h : rd a (i : Int) < 0
    · simp only [if_pos h]
      rw [decide_eq_false (by omega)]
      exact Ev.of fun _ => rfl
    · simp only [if_neg h]
      rw [decide_eq_true (show 0 ≤ rd a (i : Int) by omega)]
      by_cases h2 : rd a (i : Int) > 1048576
      · simp only [if_pos h2]
        rw [decide_eq_false (by omega)]
        exact Ev.of fun _ => rfl
      · simp only [if_neg h2]
        rw [decide_eq_true (by omega)]
        have := ih (i + 1) (by omega)
        unfold vldL at this
        simpa using this
theorem valid04_ev (a : List Int) (n : Int) (hl : a.length ≤ 1000000) : Ev (fun k => petrinetref04_Valid.f k a n) (vldL a && ((a.length : Int) == n)) := by
  have := valid04_loop a n hl a.length 0 (by omega)
  simpa [petrinetref04_Valid.f] using this
theorem leq04_loop (a b : List Int) (hab : a.length = b.length) (hl : a.length ≤ 1000000) : ∀ (m i : Nat), i + m = a.length → Ev (fun k => petrinetref04_Leq.l0 k a b i) (leqL (a.drop i) (b.drop i)) := by
  intro m
  induction m with
  | zero =>
    intro i hi
    refine Ev.up ?_
    simp only [petrinetref04_Leq.l0, if_neg (show ¬ (i : Int) < (a.length : Int) by omega)]
    rw [List.drop_of_length_le (by omega), List.drop_of_length_le (by omega)]
    exact Ev.of fun _ => rfl
  | succ m ih =>
    intro i hi
    refine Ev.up ?_
    simp only [petrinetref04_Leq.l0, if_pos (show (i : Int) < (a.length : Int) by omega), if_pos (show (0 : Int) ≤ (i : Int) by omega), if_pos (show (i : Int) < (b.length : Int) by omega), w_succ (show i < 9223372036854775807 by omega)]
    rw [dropI (show i < a.length by omega), dropI (show i < b.length by omega), leqL]
    by_cases h : rd a (i : Int) > rd b (i : Int)
    · simp only [if_pos h]
      rw [decide_eq_false (by omega)]
      exact Ev.of fun _ => rfl
    · simp only [if_neg h]
      rw [decide_eq_true (by omega), Bool.true_and]
      exact ih (i + 1) (by omega)
theorem leq04_ev (a b : List Int) (hl : a.length ≤ 1000000) : Ev (fun k => petrinetref04_Leq.f k a b) (leqL a b) := by
  by_cases h : (a.length : Int) = (b.length : Int)
  · simp only [petrinetref04_Leq.f, if_pos h]
    exact leq04_loop a b (by omega) hl a.length 0 (by omega)
  · simp only [petrinetref04_Leq.f, if_neg h]
    rw [leqL_len a b (by omega)]
    exact Ev.of fun _ => rfl
theorem cmp04_loop (a b : List Int) (hl : a.length ≤ 1000000) (hl2 : b.length ≤ 1000000) : ∀ (m i : Nat), i + m = min a.length b.length → Ev (fun k => petrinetref04_Compare.l0 k a b i) (cmpL (a.drop i) (b.drop i)) := by
  intro m
  induction m with
  | zero =>
    intro i hi
    have key : Ev (fun k => petrinetref04_Compare.j1 k a b i false) (cmpL (a.drop i) (b.drop i)) := by
      refine Ev.up ?_
      simp only [petrinetref04_Compare.j1, if_neg (show ¬ (false = true) by decide)]
      rcases Nat.lt_trichotomy a.length b.length with h | h | h
      · simp only [if_pos (show (a.length : Int) < (b.length : Int) by omega)]
        rw [List.drop_of_length_le (show a.length ≤ i by omega), dropI (show i < b.length by omega)]
        exact Ev.of fun _ => rfl
      · simp only [if_neg (show ¬ (a.length : Int) < (b.length : Int) by omega), if_neg (show ¬ (a.length : Int) > (b.length : Int) by omega)]
        rw [List.drop_of_length_le (show a.length ≤ i by omega), List.drop_of_length_le (show b.length ≤ i by omega)]
        exact Ev.of fun _ => rfl
      · simp only [if_neg (show ¬ (a.length : Int) < (b.length : Int) by omega), if_pos (show (a.length : Int) > (b.length : Int) by omega)]
        rw [List.drop_of_length_le (show b.length ≤ i by omega), dropI (show i < a.length by omega)]
        exact Ev.of fun _ => rfl
    refine Ev.up ?_
    simp only [petrinetref04_Compare.l0]
    by_cases h : (i : Int) < (a.length : Int)
    · simp only [if_pos h]
      rw [decide_eq_false (show ¬ (i : Int) < (b.length : Int) by omega)]
      exact key
    · simp only [if_neg h]; exact key
  | succ m ih =>
    intro i hi
    refine Ev.up ?_
    simp only [petrinetref04_Compare.l0, if_pos (show (i : Int) < (a.length : Int) by omega)]
    rw [decide_eq_true (show (i : Int) < (b.length : Int) by omega)]
    refine Ev.up ?_
    simp only [petrinetref04_Compare.j1, if_true, if_pos (show (i : Int) < (a.length : Int) by omega), if_pos (show (0 : Int) ≤ (i : Int) by omega), if_pos (show (i : Int) < (b.length : Int) by omega), w_succ (show i < 9223372036854775807 by omega)]
    rw [dropI (show i < a.length by omega), dropI (show i < b.length by omega), cmpL]
    by_cases h : rd a (i : Int) < rd b (i : Int)
    · simp only [if_pos h]; exact Ev.of fun _ => rfl
    · simp only [if_neg h]
      by_cases h2 : rd a (i : Int) > rd b (i : Int)
      · simp only [if_pos h2, if_pos (show rd b (i : Int) < rd a (i : Int) from h2)]; exact Ev.of fun _ => rfl
      · simp only [if_neg h2, if_neg (show ¬ rd b (i : Int) < rd a (i : Int) from h2)]
        exact ih (i + 1) (by omega)
theorem cmp04_ev (a b : List Int) (hl : a.length ≤ 1000000) (hl2 : b.length ≤ 1000000) : Ev (fun k => petrinetref04_Compare.f k a b) (cmpL a b) := cmp04_loop a b hl hl2 (min a.length b.length) 0 (by omega)
/-! usable -/
theorem rdL_mem {l : List (List Int)} {i : Nat} (h : i < l.length) : rd_L1 l (i : Int) ∈ l := by
  rw [rdL_nat, List.getD_eq_getElem?_getD, List.getElem?_eq_getElem h]; exact List.getElem_mem _
theorem valid_f {l : List (List Int)} (h : okIn l) (n : Int) : upset_Valid.f l n = some (validL l n) := by unfold upset_Valid.f; rw [if_pos h]

end Go.Proofs.Ytliagbliaiigaaa.Hy
