/- By hand (up_lists, up_ref, up_refmk): a part of this seat's proofs. -/
import Derived.Test.YtliagbliaiigaaaXUp
import Derived.Test.YtliagbliaiigaaaH7
import Derived.Test.YtliagbliaiigaaaH8
import Derived.Test.YtliagbliaiigaaaH9
import Derived.Test.YtliagbliaiigaaaH5
import Derived.Test.YtliagbliaiigaaaH10
import Derived.Test.YtliagbliaiigaaaH11
import Derived.Test.YtliagbliaiigaaaH12
namespace Go.Proofs.Ytliagbliaiigaaa.Hy
open Go.RowKit Go.Shelf Go.Proofs.YtliagbliaiigaaaW.PrintWords Go.Proofs.YtliagbliaiigaaaW.PrintLast Go.Proofs.YtliagbliaiigaaaW.PrintMore
set_option linter.unusedVariables false
set_option linter.unusedSimpArgs false
attribute [local go_sem] Oper.semAt_some
/-! ### the reference's small functions -/
theorem same04_loop (a b : List Int) (hab : a.length = b.length) (hl : a.length ≤ 1000000) : ∀ (m i : Nat), i + m = a.length → Ev (fun k => petrinetref04_Same.l0 k a b i) (decide (a.drop i = b.drop i)) := by
  intro m
  induction m with
  | zero =>
    intro i hi
    refine Ev.up ?_
    simp only [petrinetref04_Same.l0, if_neg (show ¬ (i : Int) < (a.length : Int) by omega)]
    rw [List.drop_of_length_le (by omega), List.drop_of_length_le (by omega)]
    exact Ev.of fun _ => rfl
  | succ m ih =>
    intro i hi
    refine Ev.up ?_
    simp only [petrinetref04_Same.l0, if_pos (show (i : Int) < (a.length : Int) by omega), if_pos (show (0 : Int) ≤ (i : Int) by omega), if_pos (show (i : Int) < (b.length : Int) by omega), w_succ (show i < 9223372036854775807 by omega)]
    rw [dropI (show i < a.length by omega), dropI (show i < b.length by omega)]
    by_cases h : rd a (i : Int) = rd b (i : Int)
    · simp only [if_pos h]
      refine Ev.cast (ih (i + 1) (by omega)) ?_
      rw [h]; simp
    · simp only [if_neg h]
      refine Ev.of fun _ => ?_
      simp [h]
theorem same04_ev (a b : List Int) (hl : a.length ≤ 1000000) : Ev (fun k => petrinetref04_Same.f k a b) (decide (a = b)) := by
  by_cases h : (a.length : Int) = (b.length : Int)
  · simp only [petrinetref04_Same.f, if_pos h]
    exact same04_loop a b (by omega) hl a.length 0 (by omega)
  · simp only [petrinetref04_Same.f, if_neg h]
    rw [decide_eq_false (fun e => h (by rw [e]))]
    exact Ev.of fun _ => rfl
theorem lists_loop (a b : List (List Int)) (hab : a.length = b.length) (hl : a.length ≤ 1000000) (hm : ∀ x ∈ a, x.length ≤ 1000000) : ∀ (m i : Nat), i + m = a.length → Ev (fun k => petrinetref04_Lists.l0 k a b i) (decide (a.drop i = b.drop i)) := by
  intro m
  induction m with
  | zero =>
    intro i hi
    refine Ev.up ?_
    simp only [petrinetref04_Lists.l0, if_neg (show ¬ (i : Int) < (a.length : Int) by omega)]
    rw [List.drop_of_length_le (by omega), List.drop_of_length_le (by omega)]
    exact Ev.of fun _ => rfl
  | succ m ih =>
    intro i hi
    refine Ev.up ?_
    simp only [petrinetref04_Lists.l0, if_pos (show (i : Int) < (a.length : Int) by omega), if_pos (show (0 : Int) ≤ (i : Int) by omega), if_pos (show (i : Int) < (b.length : Int) by omega), w_succ (show i < 9223372036854775807 by omega)]
    have hmem : rd_L1 a (i : Int) ∈ a := by rw [rdL_nat, List.getD_eq_getElem?_getD, List.getElem?_eq_getElem (show i < a.length by omega)]; exact List.getElem_mem _
    refine Ev.bind (same04_ev _ _ (hm _ hmem)) ?_
    rw [dropL (show i < a.length by omega), dropL (show i < b.length by omega)]
    by_cases h : rd_L1 a (i : Int) = rd_L1 b (i : Int)
    · simp only [decide_eq_true h, if_true]
      refine Ev.cast (ih (i + 1) (by omega)) ?_
      rw [h]; simp
    · simp only [decide_eq_false h, if_neg (show ¬ (false = true) by decide)]
      refine Ev.of fun _ => ?_
      simp [h]
theorem lists_ev (a b : List (List Int)) (h : okIn a) : Ev (fun k => petrinetref04_Lists.f k a b) (decide (a = b)) := by
  by_cases hab : (a.length : Int) = (b.length : Int)
  · simp only [petrinetref04_Lists.f, if_pos hab]
    exact lists_loop a b (by omega) h.1 h.2 a.length 0 (by omega)
  · simp only [petrinetref04_Lists.f, if_neg hab]
    rw [decide_eq_false (fun e => hab (by rw [e]))]
    exact Ev.of fun _ => rfl

/-! ### the reference -/
theorem valid04_loop (a : List Int) (n : Int) (hl : a.length ≤ 1000000) : ∀ (m i : Nat), i + m = a.length → Ev (fun k => petrinetref04_Valid.l0 k a n i) (vldL (a.drop i) && ((a.length : Int) == n)) := by
  intro m
  induction m with
  | zero =>
    intro i hi
    refine Ev.up ?_
    simp only [petrinetref04_Valid.l0, if_neg (show ¬ (i : Int) < (a.length : Int) by omega)]
    rw [List.drop_of_length_le (by omega)]
    exact Ev.of fun _ => by simp [vldL]
  | succ m ih =>
    intro i hi
    refine Ev.up ?_
    simp only [petrinetref04_Valid.l0, if_pos (show (i : Int) < (a.length : Int) by omega), if_pos (show (0 : Int) ≤ (i : Int) by omega), w_succ (show i < 9223372036854775807 by omega)]
    rw [dropI (show i < a.length by omega)]
    unfold vldL
    rw [List.all_cons, okZ]
    by_cases h : rd a (i : Int) < 0
    · simp only [if_pos h]
      rw [decide_eq_false (by omega)]
      exact Ev.of fun _ => rfl
    · simp only [if_neg h]
      rw [decide_eq_true (show 0 ≤ rd a (i : Int) by omega)]
      by_cases h2 : rd a (i : Int) > 1048576
      · simp only [if_pos h2]
        rw [decide_eq_false (by omega)]
        exact Ev.of fun _ => rfl
      · simp only [if_neg h2]
        rw [decide_eq_true (by omega)]
        have := ih (i + 1) (by omega)
        unfold vldL at this
        simpa using this
theorem valid04_ev (a : List Int) (n : Int) (hl : a.length ≤ 1000000) : Ev (fun k => petrinetref04_Valid.f k a n) (vldL a && ((a.length : Int) == n)) := by
  have := valid04_loop a n hl a.length 0 (by omega)
  simpa [petrinetref04_Valid.f] using this
theorem copy04_loop (a : List Int) (hl : a.length ≤ 1000000) : ∀ (m i : Nat), i + m = a.length → Ev (fun k => petrinetref04_Copy.l0 k a (a.take i) i) a := by
  intro m
  induction m with
  | zero =>
    intro i hi
    refine Ev.up ?_
    simp only [petrinetref04_Copy.l0, if_neg (show ¬ (i : Int) < (a.length : Int) by omega)]
    rw [List.take_of_length_le (by omega)]
    exact Ev.of fun _ => rfl
  | succ m ih =>
    intro i hi
    refine Ev.up ?_
    have ht : a.take i ++ [rd a (i : Int)] = a.take (i + 1) := by
      rw [List.take_succ_eq_append_getElem (show i < a.length by omega), rdI_nat, List.getD_eq_getElem?_getD, List.getElem?_eq_getElem (show i < a.length by omega)]; rfl
    simp only [petrinetref04_Copy.l0, if_pos (show (i : Int) < (a.length : Int) by omega), if_pos (show (0 : Int) ≤ (i : Int) by omega), if_pos (show (a.take i).length < 17592186044416 by rw [List.length_take]; omega), w_succ (show i < 9223372036854775807 by omega), ht]
    exact ih (i + 1) (by omega)
theorem copy04_ev (a : List Int) (hl : a.length ≤ 1000000) : Ev (fun k => petrinetref04_Copy.f k a) a := copy04_loop a hl a.length 0 (by omega)
theorem leq04_loop (a b : List Int) (hab : a.length = b.length) (hl : a.length ≤ 1000000) : ∀ (m i : Nat), i + m = a.length → Ev (fun k => petrinetref04_Leq.l0 k a b i) (leqL (a.drop i) (b.drop i)) := by
  intro m
  induction m with
  | zero =>
    intro i hi
    refine Ev.up ?_
    simp only [petrinetref04_Leq.l0, if_neg (show ¬ (i : Int) < (a.length : Int) by omega)]
    rw [List.drop_of_length_le (by omega), List.drop_of_length_le (by omega)]
    exact Ev.of fun _ => rfl
  | succ m ih =>
    intro i hi
    refine Ev.up ?_
    simp only [petrinetref04_Leq.l0, if_pos (show (i : Int) < (a.length : Int) by omega), if_pos (show (0 : Int) ≤ (i : Int) by omega), if_pos (show (i : Int) < (b.length : Int) by omega), w_succ (show i < 9223372036854775807 by omega)]
    rw [dropI (show i < a.length by omega), dropI (show i < b.length by omega), leqL]
    by_cases h : rd a (i : Int) > rd b (i : Int)
    · simp only [if_pos h]
      rw [decide_eq_false (by omega)]
      exact Ev.of fun _ => rfl
    · simp only [if_neg h]
      rw [decide_eq_true (by omega), Bool.true_and]
      exact ih (i + 1) (by omega)
theorem leq04_ev (a b : List Int) (hl : a.length ≤ 1000000) : Ev (fun k => petrinetref04_Leq.f k a b) (leqL a b) := by
  by_cases h : (a.length : Int) = (b.length : Int)
  · simp only [petrinetref04_Leq.f, if_pos h]
    exact leq04_loop a b (by omega) hl a.length 0 (by omega)
  · simp only [petrinetref04_Leq.f, if_neg h]
    rw [leqL_len a b (by omega)]
    exact Ev.of fun _ => rfl
theorem cmp04_loop (a b : List Int) (hl : a.length ≤ 1000000) (hl2 : b.length ≤ 1000000) : ∀ (m i : Nat), i + m = min a.length b.length → Ev (fun k => petrinetref04_Compare.l0 k a b i) (cmpL (a.drop i) (b.drop i)) := by
  intro m
  induction m with
  | zero =>
    intro i hi
    have key : Ev (fun k => petrinetref04_Compare.j1 k a b i false) (cmpL (a.drop i) (b.drop i)) := by
      refine Ev.up ?_
      simp only [petrinetref04_Compare.j1, if_neg (show ¬ (false = true) by decide)]
      rcases Nat.lt_trichotomy a.length b.length with h | h | h
      · simp only [if_pos (show (a.length : Int) < (b.length : Int) by omega)]
        rw [List.drop_of_length_le (show a.length ≤ i by omega), dropI (show i < b.length by omega)]
        exact Ev.of fun _ => rfl
      · simp only [if_neg (show ¬ (a.length : Int) < (b.length : Int) by omega), if_neg (show ¬ (a.length : Int) > (b.length : Int) by omega)]
        rw [List.drop_of_length_le (show a.length ≤ i by omega), List.drop_of_length_le (show b.length ≤ i by omega)]
        exact Ev.of fun _ => rfl
      · simp only [if_neg (show ¬ (a.length : Int) < (b.length : Int) by omega), if_pos (show (a.length : Int) > (b.length : Int) by omega)]
        rw [List.drop_of_length_le (show b.length ≤ i by omega), dropI (show i < a.length by omega)]
        exact Ev.of fun _ => rfl
    refine Ev.up ?_
    simp only [petrinetref04_Compare.l0]
    by_cases h : (i : Int) < (a.length : Int)
    · simp only [if_pos h]
      rw [decide_eq_false (show ¬ (i : Int) < (b.length : Int) by omega)]
      exact key
    · simp only [if_neg h]; exact key
  | succ m ih =>
    intro i hi
    refine Ev.up ?_
    simp only [petrinetref04_Compare.l0, if_pos (show (i : Int) < (a.length : Int) by omega)]
    rw [decide_eq_true (show (i : Int) < (b.length : Int) by omega)]
    refine Ev.up ?_
    simp only [petrinetref04_Compare.j1, if_true, if_pos (show (i : Int) < (a.length : Int) by omega), if_pos (show (0 : Int) ≤ (i : Int) by omega), if_pos (show (i : Int) < (b.length : Int) by omega), w_succ (show i < 9223372036854775807 by omega)]
    rw [dropI (show i < a.length by omega), dropI (show i < b.length by omega), cmpL]
    by_cases h : rd a (i : Int) < rd b (i : Int)
    · simp only [if_pos h]; exact Ev.of fun _ => rfl
    · simp only [if_neg h]
      by_cases h2 : rd a (i : Int) > rd b (i : Int)
      · simp only [if_pos h2, if_pos (show rd b (i : Int) < rd a (i : Int) from h2)]; exact Ev.of fun _ => rfl
      · simp only [if_neg h2, if_neg (show ¬ rd b (i : Int) < rd a (i : Int) from h2)]
        exact ih (i + 1) (by omega)
theorem cmp04_ev (a b : List Int) (hl : a.length ≤ 1000000) (hl2 : b.length ≤ 1000000) : Ev (fun k => petrinetref04_Compare.f k a b) (cmpL a b) := cmp04_loop a b hl hl2 (min a.length b.length) 0 (by omega)
/-! usable -/
def nOf (l : List (List Int)) : Nat := match l.find? goodB with | none => 0 | some m0 => m0.length
theorem use_snoc (p : List (List Int)) (m : List Int) (hp : nOf p ≠ 0) : useL (p ++ [m]) = (if (vldL m && ((m.length : Int) == (nOf p : Int))) = true then useL p ++ [m] else useL p) ∧ nOf (p ++ [m]) = nOf p := by
  unfold nOf at hp ⊢
  unfold useL
  rw [List.find?_append]
  cases hf : p.find? goodB with
  | none => rw [hf] at hp; exact absurd rfl hp
  | some m0 =>
    simp only [Option.some_or, List.filter_append, List.filter_cons, List.filter_nil]
    refine ⟨?_, by first | rfl | trivial⟩
    rw [Bool.and_comm]
    cases h1 : vldL m <;> by_cases h2 : (m.length : Int) = (m0.length : Int) <;> simp [h2]
theorem use_first (p : List (List Int)) (m : List Int) (hp : nOf p = 0) : useL p = [] ∧ useL (p ++ [m]) = (if goodB m = true then [m] else []) ∧ nOf (p ++ [m]) = (if goodB m = true then m.length else 0) := by
  have hf : p.find? goodB = none := by
    unfold nOf at hp
    cases hf : p.find? goodB with
    | none => rfl
    | some m0 =>
      rw [hf] at hp
      have := List.find?_some hf
      simp only [goodB, Bool.and_eq_true, decide_eq_true_eq] at this
      simp only at hp
      omega
  have hno : ∀ x ∈ p, goodB x = false := fun x hx => by simpa using (List.find?_eq_none.1 hf) x hx
  unfold useL nOf
  rw [List.find?_append, hf]
  refine ⟨rfl, ?_, ?_⟩
  · by_cases hg : goodB m = true
    · simp only [Option.none_or, List.find?_cons_of_pos hg, if_pos hg, List.filter_append]
      have h1 : p.filter (fun x => decide ((x.length : Int) = (m.length : Int)) && vldL x) = [] := by
        rw [List.filter_eq_nil_iff]
        intro x hx hc
        have h2 := hno x hx
        simp only [goodB, Bool.and_eq_true, decide_eq_true_eq] at hg hc
        have : goodB x = true := by
          simp only [goodB, Bool.and_eq_true, decide_eq_true_eq]
          exact ⟨by omega, by omega, hc.2⟩
        rw [this] at h2; cases h2
      simp only [goodB, Bool.and_eq_true, decide_eq_true_eq] at hg
      rw [h1]
      simp [hg.2.2]
    · simp only [Option.none_or, List.find?_cons_of_neg hg, List.find?_nil, if_neg hg]
  · by_cases hg : goodB m = true
    · simp only [Option.none_or, List.find?_cons_of_pos hg, if_pos hg]
    · simp only [Option.none_or, List.find?_cons_of_neg hg, List.find?_nil, if_neg hg]
theorem usable_j2 (l : List (List Int)) (hok : okIn l) (i : Nat) (hi : i < l.length) (n : Nat) (out : List (List Int)) (ho : out.length ≤ 1000000) {R : List (List Int)}
    (hR : Ev (fun k => petrinetref21_usable.l0 k l (if (decide (0 < n) && (vldL (rd_L1 l (i : Int)) && (((rd_L1 l (i : Int)).length : Int) == (n : Int)))) = true then out ++ [rd_L1 l (i : Int)] else out) (n : Int) ((i + 1 : Nat) : Int)) R) :
    Ev (fun k => petrinetref21_usable.j2 k l out (n : Int) (i : Int)) R := by
  have hml : (rd_L1 l (i : Int)).length ≤ 1000000 := hok.2 _ (by rw [rdL_nat, List.getD_eq_getElem?_getD, List.getElem?_eq_getElem hi]; exact List.getElem_mem _)
  refine Ev.up ?_
  simp only [petrinetref21_usable.j2, if_pos (show (0 : Int) ≤ (i : Int) by omega), if_pos (show (i : Int) < (l.length : Int) by omega), w_succ (show i < 9223372036854775807 by have := hok.1; omega)]
  by_cases hn : (n : Int) > 0
  · simp only [if_pos hn]
    rw [decide_eq_true (show 0 < n by omega), Bool.true_and] at hR
    refine Ev.bind (valid04_ev _ _ hml) ?_
    cases hv : (vldL (rd_L1 l (i : Int)) && (((rd_L1 l (i : Int)).length : Int) == (n : Int))) with
    | false =>
      rw [hv] at hR
      simp only [if_neg (show ¬ (false = true) by decide)] at hR ⊢
      exact hR
    | true =>
      rw [hv] at hR
      simp only [if_true] at hR ⊢
      refine Ev.bind (copy04_ev _ hml) ?_
      simp only [if_pos (show out.length < 5864062014805 by omega)]
      exact hR
  · simp only [if_neg hn]
    rw [decide_eq_false (show ¬ 0 < n by omega), Bool.false_and] at hR
    simp only [if_neg (show ¬ (false = true) by decide)] at hR
    exact hR
theorem usable_loop (l : List (List Int)) (hok : okIn l) : ∀ (m i : Nat), i + m = l.length → Ev (fun k => petrinetref21_usable.l0 k l (useL (l.take i)) (nOf (l.take i) : Int) i) (useL l) := by
  intro m
  induction m with
  | zero =>
    intro i hi
    refine Ev.up ?_
    simp only [petrinetref21_usable.l0, if_neg (show ¬ (i : Int) < (l.length : Int) by omega)]
    rw [List.take_of_length_le (by omega)]
    exact Ev.of fun _ => rfl
  | succ m ih =>
    intro i hi
    have hlt : i < l.length := by omega
    have hmem : rd_L1 l (i : Int) ∈ l := by rw [rdL_nat, List.getD_eq_getElem?_getD, List.getElem?_eq_getElem hlt]; exact List.getElem_mem _
    have hml := hok.2 _ hmem
    have ht : l.take (i + 1) = l.take i ++ [rd_L1 l (i : Int)] := by
      rw [List.take_succ_eq_append_getElem hlt, rdL_nat, List.getD_eq_getElem?_getD, List.getElem?_eq_getElem hlt]; rfl
    have hIH := ih (i + 1) (by omega)
    rw [ht] at hIH
    have ho : (useL (l.take i)).length ≤ 1000000 := Nat.le_trans (useL_len _) (by rw [List.length_take]; have := hok.1; omega)
    obtain ⟨x, hx⟩ : ∃ x, rd_L1 l (i : Int) = x := ⟨_, rfl⟩
    refine Ev.up ?_
    simp only [petrinetref21_usable.l0, if_pos (show (i : Int) < (l.length : Int) by omega), if_pos (show (0 : Int) ≤ (i : Int) by omega)]
    by_cases hn : nOf (l.take i) = 0
    · obtain ⟨e1, e2, e3⟩ := use_first (l.take i) (rd_L1 l (i : Int)) hn
      rw [hn, e1]
      rw [e2, e3] at hIH
      simp only [Int.natCast_zero, if_true]
      have hj2 : ∀ n : Nat, (n = 0 ∧ goodB (rd_L1 l (i : Int)) = false) ∨ (n = (rd_L1 l (i : Int)).length ∧ vldL (rd_L1 l (i : Int)) = true ∧ n ≤ 24 ∧ (goodB (rd_L1 l (i : Int)) = true ∨ n = 0)) → Ev (fun k => petrinetref21_usable.j2 k l [] (n : Int) (i : Int)) (useL l) := by
        intro n hnn
        refine usable_j2 l hok i hlt n [] (by simp) ?_
        rcases hnn with ⟨rfl, hg⟩ | ⟨rfl, hv, h24, hg⟩
        · rw [hg] at hIH
          simpa using hIH
        · by_cases h0 : (rd_L1 l (i : Int)).length = 0
          · have hg2 : goodB (rd_L1 l (i : Int)) = false := by simp [goodB, h0]
            rw [hg2] at hIH
            simpa [h0] using hIH
          · have hg2 : goodB (rd_L1 l (i : Int)) = true := by
              simp only [goodB, Bool.and_eq_true, decide_eq_true_eq]
              exact ⟨by omega, by omega, hv⟩
            rw [hg2] at hIH
            simpa [hv, show 0 < (rd_L1 l (i : Int)).length by omega] using hIH
      have hfalse : goodB (rd_L1 l (i : Int)) = false → Ev (fun k => petrinetref21_usable.j1 k l [] 0 (i : Int) false) (useL l) := fun hg => by
        refine Ev.up ?_
        simp only [petrinetref21_usable.j1, if_neg (show ¬ (false = true) by decide)]
        exact hj2 0 (.inl ⟨rfl, hg⟩)
      by_cases h24 : ((rd_L1 l (i : Int)).length : Int) ≤ 24
      · simp only [if_pos h24]
        refine Ev.bind (valid04_ev _ _ hml) ?_
        rw [beq_self_eq_true, Bool.and_true]
        cases hv : vldL (rd_L1 l (i : Int)) with
        | false => exact hfalse (by simp [goodB, hv])
        | true =>
          refine Ev.up ?_
          simp only [petrinetref21_usable.j1, if_true, if_pos (show (0 : Int) ≤ (i : Int) by omega), if_pos (show (i : Int) < (l.length : Int) by omega)]
          refine hj2 _ (.inr ⟨rfl, hv, by omega, ?_⟩)
          by_cases h0 : (rd_L1 l (i : Int)).length = 0
          · exact .inr h0
          · left
            simp only [goodB, Bool.and_eq_true, decide_eq_true_eq]
            exact ⟨by omega, by omega, hv⟩
      · simp only [if_neg h24]
        refine hfalse ?_
        simp only [goodB]
        rw [decide_eq_false (show ¬ (rd_L1 l (i : Int)).length ≤ 24 by omega)]
        simp
    · obtain ⟨e2, e3⟩ := use_snoc (l.take i) (rd_L1 l (i : Int)) hn
      simp only [if_neg (show ¬ ((nOf (l.take i) : Nat) : Int) = 0 by omega)]
      refine Ev.up ?_
      simp only [petrinetref21_usable.j1, if_neg (show ¬ (false = true) by decide)]
      refine usable_j2 l hok i hlt _ _ ho ?_
      rw [e2, e3] at hIH
      rw [decide_eq_true (show 0 < nOf (l.take i) by omega), Bool.true_and]
      exact hIH
theorem usable_ev (l : List (List Int)) (hok : okIn l) : Ev (fun k => petrinetref21_usable.f k l) (useL l) := by
  have := usable_loop l hok l.length 0 (by omega)
  simpa [petrinetref21_usable.f, useL, nOf] using this

/-! ### the reference's Make, Has, Valid -/
def minB (l : List (List Int)) (m : List Int) : Bool := l.all fun y => !leqL y m || decide (y = m)
theorem rdL_mem {l : List (List Int)} {i : Nat} (h : i < l.length) : rd_L1 l (i : Int) ∈ l := by
  rw [rdL_nat, List.getD_eq_getElem?_getD, List.getElem?_eq_getElem h]; exact List.getElem_mem _
theorem minimal_loop (l : List (List Int)) (m : List Int) (hok : okIn l) : ∀ (d i : Nat), i + d = l.length → Ev (fun k => petrinetref21_minimal.l0 k l m i) (minB (l.drop i) m) := by
  intro d
  induction d with
  | zero =>
    intro i hi
    refine Ev.up ?_
    simp only [petrinetref21_minimal.l0, if_neg (show ¬ (i : Int) < (l.length : Int) by omega)]
    rw [List.drop_of_length_le (by omega)]
    exact Ev.of fun _ => rfl
  | succ d ih =>
    intro i hi
    have hlt : i < l.length := by omega
    have hml := hok.2 _ (rdL_mem hlt)
    refine Ev.up ?_
    simp only [petrinetref21_minimal.l0, if_pos (show (i : Int) < (l.length : Int) by omega), if_pos (show (0 : Int) ≤ (i : Int) by omega), w_succ (show i < 9223372036854775807 by have := hok.1; omega)]
    refine Ev.bind (leq04_ev _ _ hml) ?_
    have hIH := ih (i + 1) (by omega)
    rw [dropL hlt]
    unfold minB at hIH ⊢
    rw [List.all_cons]
    cases h1 : leqL (rd_L1 l (i : Int)) m with
    | false => simpa using hIH
    | true =>
      simp only [if_true]
      refine Ev.bind (same04_ev _ _ hml) ?_
      by_cases h2 : rd_L1 l (i : Int) = m
      · simp only [decide_eq_true h2, if_true]
        simpa using hIH
      · simp only [decide_eq_false h2, if_neg (show ¬ (false = true) by decide)]
        exact Ev.of fun _ => by simp
theorem minimal_ev (l : List (List Int)) (m : List Int) (hok : okIn l) : Ev (fun k => petrinetref21_minimal.f k l m) (minB l m) := minimal_loop l m hok l.length 0 (by omega)
def insF (m : List Int) : Bool → List (List Int) → List (List Int)
  | true, l => l
  | false, [] => [m]
  | false, x :: r => if cmpL x m > 0 then m :: x :: r else if cmpL x m = 0 then x :: r else x :: insF m false r
theorem insert_loop (l : List (List Int)) (m : List Int) (hok : okIn l) (hm : m.length ≤ 1000000) : ∀ (d i : Nat) (out : List (List Int)) (b : Bool), i + d = l.length → out.length ≤ 2 * i → Ev (fun k => petrinetref21_insert.l0 k l m out b i) (out ++ insF m b (l.drop i)) := by
  intro d
  induction d with
  | zero =>
    intro i out b hi ho
    refine Ev.up ?_
    simp only [petrinetref21_insert.l0, if_neg (show ¬ (i : Int) < (l.length : Int) by omega)]
    rw [List.drop_of_length_le (by omega)]
    have := hok.1
    cases b with
    | true => simp only [if_true]; exact Ev.of fun _ => by simp [insF]
    | false => simp only [if_neg (show ¬ (false = true) by decide), if_pos (show out.length < 5864062014805 by omega)]; exact Ev.of fun _ => by simp [insF]
  | succ d ih =>
    intro i out b hi ho
    have hlt : i < l.length := by omega
    have hml := hok.2 _ (rdL_mem hlt)
    have hl := hok.1
    have go : ∀ (out : List (List Int)) (b : Bool), out.length ≤ 2 * (i + 1) → Ev (fun k => petrinetref21_insert.l0 k l m out b ((i + 1 : Nat) : Int)) (out ++ insF m b (l.drop (i + 1))) := fun out b h => ih (i + 1) out b (by omega) (by omega)
    refine Ev.up ?_
    simp only [petrinetref21_insert.l0, if_pos (show (i : Int) < (l.length : Int) by omega), if_pos (show (0 : Int) ≤ (i : Int) by omega)]
    refine Ev.bind (cmp04_ev _ _ hml hm) ?_
    rw [dropL hlt]
    obtain ⟨x, hx⟩ : ∃ x, rd_L1 l (i : Int) = x := ⟨_, rfl⟩
    rw [hx]
    cases b with
    | true =>
      simp only [if_true]
      refine Ev.up ?_
      simp only [petrinetref21_insert.j1, if_neg (show ¬ (false = true) by decide), if_pos (show (0 : Int) ≤ (i : Int) by omega), if_pos (show (i : Int) < (l.length : Int) by omega), if_pos (show out.length < 5864062014805 by omega), w_succ (show i < 9223372036854775807 by omega), hx]
      have h := go (out ++ [x]) true (by simp; omega)
      simp only [insF, List.append_assoc, List.singleton_append] at h ⊢
      by_cases h0 : cmpL x m = 0
      · simp only [if_pos h0]; exact h
      · simp only [if_neg h0]; exact h
    | false =>
      simp only [if_neg (show ¬ (false = true) by decide)]
      by_cases hc : cmpL x m > 0
      · rw [decide_eq_true hc]
        refine Ev.up ?_
        simp only [petrinetref21_insert.j1, if_true, Option.bind_some, if_pos (show (0 : Int) ≤ (i : Int) by omega), if_pos (show (i : Int) < (l.length : Int) by omega), if_pos (show out.length < 5864062014805 by omega), if_pos (show (out ++ [m]).length < 5864062014805 by simp; omega), if_neg (show ¬ cmpL x m = 0 by omega), w_succ (show i < 9223372036854775807 by omega), hx]
        have h := go ((out ++ [m]) ++ [x]) true (by simp; omega)
        simp only [insF, if_pos hc, List.append_assoc, List.singleton_append] at h ⊢
        exact h
      · rw [decide_eq_false hc]
        refine Ev.up ?_
        simp only [petrinetref21_insert.j1, if_neg (show ¬ (false = true) by decide), if_pos (show (0 : Int) ≤ (i : Int) by omega), if_pos (show (i : Int) < (l.length : Int) by omega), if_pos (show out.length < 5864062014805 by omega), w_succ (show i < 9223372036854775807 by omega), hx]
        by_cases h0 : cmpL x m = 0
        · simp only [if_pos h0]
          have h := go (out ++ [x]) true (by simp; omega)
          simp only [insF, if_neg hc, if_pos h0, List.append_assoc, List.singleton_append] at h ⊢
          exact h
        · simp only [if_neg h0]
          have h := go (out ++ [x]) false (by simp; omega)
          simp only [insF, if_neg hc, if_neg h0, List.append_assoc, List.singleton_append] at h ⊢
          exact h
theorem insert_ev (l : List (List Int)) (m : List Int) (hok : okIn l) (hm : m.length ≤ 1000000) : Ev (fun k => petrinetref21_insert.f k l m) (insF m false l) := by
  have := insert_loop l m hok hm l.length 0 [] false (by omega) (by simp)
  simpa [petrinetref21_insert.f] using this
theorem insF_mem (m : List Int) : ∀ (l : List (List Int)) (x : List Int), x ∈ insF m false l ↔ x = m ∨ x ∈ l
  | [], x => by simp [insF]
  | y :: r, x => by
    rw [insF]
    split
    · simp
    · split
      · rename_i _ h0
        have e := cmpL_zero h0
        subst e
        simp
      · rw [List.mem_cons, insF_mem m r x, List.mem_cons]
        constructor
        · rintro (h | h | h)
          · exact .inr (.inl h)
          · exact .inl h
          · exact .inr (.inr h)
        · rintro (h | h | h)
          · exact .inr (.inl h)
          · exact .inl h
          · exact .inr (.inr h)
theorem insF_sorted (m : List Int) : ∀ (l : List (List Int)), Sorted l → Sorted (insF m false l)
  | [], _ => List.pairwise_singleton _ _
  | y :: r, h => by
    have h' := List.pairwise_cons.1 h
    rw [insF]
    split
    · rename_i hc
      have hmy : cmpL m y < 0 := (cmpL_flip m y).2 hc
      refine List.pairwise_cons.2 ⟨fun z hz => ?_, h⟩
      rcases List.mem_cons.1 hz with rfl | hz
      · exact hmy
      · exact cmpL_trans hmy (h'.1 z hz)
    · split
      · exact h
      · rename_i hc h0
        refine List.pairwise_cons.2 ⟨fun z hz => ?_, insF_sorted m r h'.2⟩
        rcases (insF_mem m r z).1 hz with rfl | hz
        · omega
        · exact h'.1 z hz
def refStep (us out : List (List Int)) (m : List Int) : List (List Int) := if minB us m = true then insF m false out else out
theorem refFold (us : List (List Int)) : ∀ (p out : List (List Int)), Sorted out → Sorted (p.foldl (refStep us) out) ∧ ∀ x, x ∈ p.foldl (refStep us) out ↔ x ∈ out ∨ (x ∈ p ∧ minB us x = true)
  | [], out, h => ⟨h, fun x => by simp⟩
  | m :: r, out, h => by
    have hs : Sorted (refStep us out m) := by unfold refStep; split; exact insF_sorted m out h; exact h
    obtain ⟨h1, h2⟩ := refFold us r (refStep us out m) hs
    refine ⟨h1, fun x => ?_⟩
    rw [List.foldl_cons, h2 x]
    have hm : x ∈ refStep us out m ↔ x ∈ out ∨ (x = m ∧ minB us x = true) := by
      unfold refStep
      split
      · rename_i hb
        rw [insF_mem]
        constructor
        · rintro (rfl | h)
          · exact .inr ⟨rfl, hb⟩
          · exact .inl h
        · rintro (h | ⟨h, _⟩)
          · exact .inr h
          · exact .inl h
      · rename_i hb
        constructor
        · exact .inl
        · rintro (h | ⟨rfl, h⟩)
          · exact h
          · exact absurd h hb
    rw [hm, List.mem_cons]
    constructor
    · rintro ((h | ⟨rfl, h⟩) | ⟨h, h'⟩)
      · exact .inl h
      · exact .inr ⟨.inl rfl, h⟩
      · exact .inr ⟨.inr h, h'⟩
    · rintro (h | ⟨rfl | h, h'⟩)
      · exact .inl (.inl h)
      · exact .inl (.inr ⟨rfl, h'⟩)
      · exact .inr ⟨h, h'⟩
theorem ref_make_eq (l : List (List Int)) : (useL l).foldl (refStep (useL l)) [] = makeL l := by
  obtain ⟨h1, h2⟩ := refFold (useL l) (useL l) [] List.Pairwise.nil
  refine sorted_ext h1 (sorted_make l) fun x => ?_
  rw [h2 x, base_iff (base_make l)]
  simp only [List.not_mem_nil, false_or]
  refine and_congr_right fun _ => ?_
  unfold minB
  rw [List.all_eq_true]
  constructor
  · intro h y hy hle
    have := h y hy
    rw [hle] at this
    simpa using this
  · intro h y hy
    cases hle : leqL y x with
    | false => rfl
    | true => simpa using h y hy hle
theorem insF_len (m : List Int) : ∀ (l : List (List Int)), (insF m false l).length ≤ l.length + 1
  | [] => by simp [insF]
  | y :: r => by
    have := insF_len m r
    rw [insF]
    split
    · simp
    · split
      · simp
      · simp; omega
theorem refFold_len (us : List (List Int)) : ∀ (p out : List (List Int)), (p.foldl (refStep us) out).length ≤ out.length + p.length
  | [], out => by simp
  | m :: r, out => by
    have h1 := refFold_len us r (refStep us out m)
    have h2 : (refStep us out m).length ≤ out.length + 1 := by unfold refStep; split; exact insF_len m out; omega
    simp only [List.foldl_cons, List.length_cons]; omega
theorem refFold_mem (us : List (List Int)) : ∀ (p out : List (List Int)) (x : List Int), x ∈ p.foldl (refStep us) out → x ∈ out ∨ x ∈ p
  | [], _, _, h => .inl h
  | m :: r, out, x, h => by
    rcases refFold_mem us r _ x h with h | h
    · unfold refStep at h
      split at h
      · rcases (insF_mem m out x).1 h with rfl | h
        · exact .inr List.mem_cons_self
        · exact .inl h
      · exact .inl h
    · exact .inr (List.mem_cons_of_mem _ h)
theorem refmk_loop (us : List (List Int)) (hok : okIn us) (hl : us.length ≤ 100000) : ∀ (d i : Nat), i + d = us.length → Ev (fun k => petrinetref21_Make.l0 k us ((us.take i).foldl (refStep us) []) i) (us.foldl (refStep us) []) := by
  intro d
  induction d with
  | zero =>
    intro i hi
    refine Ev.up ?_
    simp only [petrinetref21_Make.l0, if_neg (show ¬ (i : Int) < (us.length : Int) by omega)]
    rw [List.take_of_length_le (by omega)]
    exact Ev.of fun _ => rfl
  | succ d ih =>
    intro i hi
    have hlt : i < us.length := by omega
    have hml := hok.2 _ (rdL_mem hlt)
    have ht : us.take (i + 1) = us.take i ++ [rd_L1 us (i : Int)] := by
      rw [List.take_succ_eq_append_getElem hlt, rdL_nat, List.getD_eq_getElem?_getD, List.getElem?_eq_getElem hlt]; rfl
    have hIH := ih (i + 1) (by omega)
    rw [ht, List.foldl_append, List.foldl_cons, List.foldl_nil] at hIH
    have hoko : okIn ((us.take i).foldl (refStep us) []) := by
      refine ⟨?_, fun x hx => ?_⟩
      · have := refFold_len us (us.take i) []
        rw [List.length_take] at this
        simp at this
        omega
      · rcases refFold_mem us _ _ x hx with h | h
        · cases h
        · exact hok.2 x (List.mem_of_mem_take h)
    refine Ev.up ?_
    simp only [petrinetref21_Make.l0, if_pos (show (i : Int) < (us.length : Int) by omega), if_pos (show (0 : Int) ≤ (i : Int) by omega), w_succ (show i < 9223372036854775807 by omega)]
    refine Ev.bind (minimal_ev us _ hok) ?_
    unfold refStep at hIH
    cases hb : minB us (rd_L1 us (i : Int)) with
    | false =>
      rw [hb] at hIH
      simp only [if_neg (show ¬ (false = true) by decide)] at hIH ⊢
      exact hIH
    | true =>
      rw [hb] at hIH
      simp only [if_true] at hIH ⊢
      exact Ev.bind (insert_ev _ _ hoko hml) hIH
theorem refmake_ev (l : List (List Int)) (hok : okIn l) (hl : l.length ≤ 100000) : Ev (fun k => petrinetref21_Make.f k l) (makeL l) := by
  simp only [petrinetref21_Make.f]
  refine Ev.bind (usable_ev l hok) ?_
  have hok2 : okIn (useL l) := ⟨Nat.le_trans (useL_len l) hok.1, fun m hm => hok.2 m (useL_mem hm).1⟩
  rw [← ref_make_eq l]
  exact refmk_loop (useL l) hok2 (Nat.le_trans (useL_len l) hl) (useL l).length 0 (by omega)
theorem refhas_loop (u : List (List Int)) (m : List Int) (hok : okIn u) : ∀ (d i : Nat), i + d = u.length → Ev (fun k => petrinetref21_Has.l0 k m u i) ((u.drop i).any fun x => leqL x m) := by
  intro d
  induction d with
  | zero =>
    intro i hi
    refine Ev.up ?_
    simp only [petrinetref21_Has.l0, if_neg (show ¬ (i : Int) < (u.length : Int) by omega)]
    rw [List.drop_of_length_le (by omega)]
    exact Ev.of fun _ => rfl
  | succ d ih =>
    intro i hi
    have hlt : i < u.length := by omega
    refine Ev.up ?_
    simp only [petrinetref21_Has.l0, if_pos (show (i : Int) < (u.length : Int) by omega), if_pos (show (0 : Int) ≤ (i : Int) by omega), w_succ (show i < 9223372036854775807 by have := hok.1; omega)]
    refine Ev.bind (leq04_ev _ _ (hok.2 _ (rdL_mem hlt))) ?_
    rw [dropL hlt, List.any_cons]
    cases h : leqL (rd_L1 u (i : Int)) m with
    | true => simp only [if_true]; exact Ev.of fun _ => rfl
    | false => simp only [if_neg (show ¬ (false = true) by decide), Bool.false_or]; exact ih (i + 1) (by omega)
theorem refhas_ev (l : List (List Int)) (m : List Int) (hok : okIn l) (hl : l.length ≤ 100000) (hm : m.length ≤ 1000000) : Ev (fun k => petrinetref21_Has.f k l m) (hasL l m) := by
  simp only [petrinetref21_Has.f]
  refine Ev.bind (valid04_ev m _ hm) ?_
  rw [beq_self_eq_true, Bool.and_true]
  unfold hasL
  cases hv : vldL m with
  | false => simp only [if_neg (show ¬ (false = true) by decide)]; exact Ev.of fun _ => rfl
  | true =>
    simp only [if_true, Bool.true_and]
    refine Ev.bind (refmake_ev l hok hl) ?_
    exact refhas_loop (makeL l) m (makeL_ok hok) (makeL l).length 0 (by omega)
theorem refvalid_loop (u : List (List Int)) (n : Int) (hok : okIn u) (hl : u.length ≤ 100000) : ∀ (d i : Nat), i + d = u.length → ((u.take i).any fun m => (m.length : Int) != n) = false → Ev (fun k => petrinetref21_Valid.l0 k u n i) (validL u n) := by
  intro d
  induction d with
  | zero =>
    intro i hi hno
    refine Ev.up ?_
    simp only [petrinetref21_Valid.l0, if_neg (show ¬ (i : Int) < (u.length : Int) by omega)]
    rw [List.take_of_length_le (by omega)] at hno
    refine Ev.bind (refmake_ev u hok hl) ?_
    refine Ev.bind (lists_ev _ _ hok) ?_
    refine Ev.of fun _ => ?_
    rw [validL, hno]; simp
  | succ d ih =>
    intro i hi hno
    have hlt : i < u.length := by omega
    have ht : u.take (i + 1) = u.take i ++ [rd_L1 u (i : Int)] := by
      rw [List.take_succ_eq_append_getElem hlt, rdL_nat, List.getD_eq_getElem?_getD, List.getElem?_eq_getElem hlt]; rfl
    refine Ev.up ?_
    simp only [petrinetref21_Valid.l0, if_pos (show (i : Int) < (u.length : Int) by omega), if_pos (show (0 : Int) ≤ (i : Int) by omega), w_succ (show i < 9223372036854775807 by omega)]
    by_cases h : ((rd_L1 u (i : Int)).length : Int) = n
    · simp only [if_pos h]
      refine ih (i + 1) (by omega) ?_
      rw [ht, List.any_append, hno]
      simp [h]
    · simp only [if_neg h]
      refine Ev.of fun _ => ?_
      have : (u.any fun m => (m.length : Int) != n) = true := List.any_eq_true.2 ⟨_, rdL_mem hlt, by simp [h]⟩
      rw [validL, this]; simp
theorem refvalid_ev (u : List (List Int)) (n : Int) (hok : okIn u) (hl : u.length ≤ 100000) : Ev (fun k => petrinetref21_Valid.f k u n) (validL u n) := refvalid_loop u n hok hl u.length 0 (by omega) rfl
/-! ### UpsetMakes, UpsetContains -/
theorem valid_f {l : List (List Int)} (h : okIn l) (n : Int) : upset_Valid.f l n = some (validL l n) := by unfold upset_Valid.f; rw [if_pos h]

end Go.Proofs.Ytliagbliaiigaaa.Hy
