/- By hand (ev, up_few): a part of this seat's proofs. -/
import Derived.Test.YtliagbliaiigaaaXSem
import Derived.Test.YtliagbliaiigaaaXLives
import Derived.Test.YtliagbliaiigaaaH4
import Derived.Test.YtliagbliaiigaaaH1
import Derived.Test.YtliagbliaiigaaaH20
namespace Go.Proofs.Ytliagbliaiigaaa.Hy
open Go.RowKit Go.Shelf Go.Proofs.YtliagbliaiigaaaW.PrintWords Go.Proofs.YtliagbliaiigaaaW.PrintLast Go.Proofs.YtliagbliaiigaaaW.PrintMore
set_option linter.unusedVariables false
set_option linter.unusedSimpArgs false
attribute [local go_sem] Oper.semAt_some
/-! ### what comes out with rounds enough -/
def Ev {α : Type} (x : Nat → Option α) (v : α) : Prop := ∃ K, ∀ k, K ≤ k → x k = some v
theorem Ev.of {α : Type} {x : Nat → Option α} {v : α} (h : ∀ k, x k = some v) : Ev x v := ⟨0, fun k _ => h k⟩
theorem Ev.up {α : Type} {x : Nat → Option α} {v : α} (h : Ev (fun k => x (k + 1)) v) : Ev x v := by
  obtain ⟨K, h⟩ := h
  refine ⟨K + 1, fun k hk => ?_⟩
  obtain ⟨m, rfl⟩ : ∃ m, k = m + 1 := ⟨k - 1, by omega⟩
  exact h m (by omega)
theorem Ev.bind {α β : Type} {x : Nat → Option α} {g : Nat → α → Option β} {a : α} {r : β} (h : Ev x a) (h2 : Ev (fun k => g k a) r) : Ev (fun k => (x k).bind (g k)) r := by
  obtain ⟨K, h⟩ := h
  obtain ⟨K2, h2⟩ := h2
  refine ⟨max K K2, fun k hk => ?_⟩
  show (x k).bind (g k) = some r
  rw [h k (by omega), Option.bind_some]
  exact h2 k (by omega)
theorem Ev.cast {α : Type} {x : Nat → Option α} {v v' : α} (h : Ev x v) (e : v = v') : Ev x v' := e ▸ h
theorem Ev.ex {α : Type} {x : Nat → Option α} {v : α} (h : Ev x v) : ∃ k, x k = some v := ⟨_, h.choose_spec _ (Nat.le_refl _)⟩
theorem Ev.of_mono {α : Type} {x : Nat → Option α} {v : α} (hm : ∀ k, LeO (x k) (x (k + 1))) {k : Nat} (h : x k = some v) : Ev x v := by
  refine ⟨k, fun m hm' => ?_⟩
  obtain ⟨d, rfl⟩ : ∃ d, m = k + d := ⟨m - k, by omega⟩
  clear hm'
  induction d with
  | zero => exact h
  | succ d ih => exact hm _ _ ih
theorem w_id {x : Int} (h0 : -9223372036854775808 ≤ x) (h1 : x ≤ 9223372036854775807) : wrap64 x = x := by unfold wrap64; omega
theorem w_succ {i : Nat} (h : i < 9223372036854775807) : wrap64 ((i : Int) + 1) = ((i + 1 : Nat) : Int) := by rw [w_id (by omega) (by omega)]; rfl
theorem rd_nat (l : List Int) (i : Nat) : rd l (i : Int) = l.getD i 0 := by simp [rd]
theorem rd_mem {l : List Int} {i : Nat} (h : i < l.length) : rd l (i : Int) ∈ l := by
  rw [rd_nat, List.getD_eq_getElem?_getD, List.getElem?_eq_getElem h]; exact List.getElem_mem h
theorem drop_rd {l : List Int} {i : Nat} (h : i < l.length) : l.drop i = rd l (i : Int) :: l.drop (i + 1) := by
  rw [rd_nat, List.getD_eq_getElem?_getD, List.getElem?_eq_getElem h]; exact List.drop_eq_getElem_cons h

/-! ### Few, and the laws that need no reference -/
def fewB (l : List (List Int)) : Bool := decide (l.length ≤ 12) && l.all fun m => decide (m.length ≤ 26)
theorem rdL_nat (l : List (List Int)) (i : Nat) : rd_L1 l (i : Int) = l.getD i [] := by simp [rd_L1]
theorem dropL {l : List (List Int)} {i : Nat} (h : i < l.length) : l.drop i = rd_L1 l (i : Int) :: l.drop (i + 1) := by
  rw [rdL_nat, List.getD_eq_getElem?_getD, List.getElem?_eq_getElem h]; exact List.drop_eq_getElem_cons h
theorem few_loop (l : List (List Int)) (hl : l.length ≤ 12) : ∀ (m i : Nat), i + m = l.length → Ev (fun k => petrinetref21_Few.l0 k l i) ((l.drop i).all fun m => decide (m.length ≤ 26)) := by
  intro m
  induction m with
  | zero =>
    intro i hi
    refine Ev.up ?_
    simp only [petrinetref21_Few.l0, if_neg (show ¬ (i : Int) < (l.length : Int) by omega)]
    rw [List.drop_of_length_le (by omega)]
    exact Ev.of fun _ => rfl
  | succ m ih =>
    intro i hi
    refine Ev.up ?_
    simp only [petrinetref21_Few.l0, if_pos (show (i : Int) < (l.length : Int) by omega), if_pos (show (0 : Int) ≤ (i : Int) by omega), w_succ (show i < 9223372036854775807 by omega)]
    rw [dropL (show i < l.length by omega), List.all_cons]
    by_cases h : ((rd_L1 l (i : Int)).length : Int) > 26
    · simp only [if_pos h]
      rw [decide_eq_false (by omega)]
      exact Ev.of fun _ => rfl
    · simp only [if_neg h]
      rw [decide_eq_true (by omega), Bool.true_and]
      exact ih (i + 1) (by omega)
theorem few_ev (l : List (List Int)) : Ev (fun k => petrinetref21_Few.f k l) (fewB l) := by
  unfold fewB
  by_cases h : (l.length : Int) > 12
  · simp only [petrinetref21_Few.f, if_pos h]
    rw [decide_eq_false (by omega)]
    exact Ev.of fun _ => rfl
  · simp only [petrinetref21_Few.f, if_neg h]
    rw [decide_eq_true (by omega), Bool.true_and]
    exact few_loop l (by omega) l.length 0 (by omega)
theorem few_ok {l : List (List Int)} (h : fewB l = true) : l.length ≤ 12 ∧ ∀ m ∈ l, m.length ≤ 26 := by
  simp only [fewB, Bool.and_eq_true, decide_eq_true_eq, List.all_eq_true] at h
  exact h
theorem few_in {l : List (List Int)} (h : fewB l = true) : okIn l := by
  obtain ⟨h1, h2⟩ := few_ok h
  exact ⟨by omega, fun m hm => by have := h2 m hm; omega⟩
theorem make_f {l : List (List Int)} (h : okIn l) : upset_Make.f l = some (makeL l) := by unfold upset_Make.f; rw [if_pos h]
theorem has_f {l : List (List Int)} {m : List Int} (h : okIn l) (hm : m.length ≤ 1000000) : upset_Has.f l m = some (hasL l m) := by unfold upset_Has.f; rw [if_pos ⟨h, hm⟩]
theorem sub_f {a b : List (List Int)} (h : okIn a) (h2 : okIn b) : upset_Subset.f a b = some (subL a b) := by unfold upset_Subset.f; rw [if_pos ⟨h, h2⟩]
theorem same_f {a b : List (List Int)} (h : okIn a) (h2 : okIn b) : upset_Same.f a b = some (subL a b && subL b a) := by
  unfold upset_Same.f
  rw [sub_f h h2, Option.bind_some, sub_f h2 h]
  cases subL a b <;> rfl
/-! UpsetUpward -/
theorem leq_add : ∀ (m s : List Int), m.length = s.length → (∀ i, i < m.length → m.getD i 0 ≤ s.getD i 0) → leqL m s = true
  | [], [], _, _ => rfl
  | [], _ :: _, h, _ => by simp at h
  | _ :: _, [], h, _ => by simp at h
  | a :: x, b :: y, h, hi => by
    rw [leqL, leq_add x y (by simpa using h) (fun i hl => by simpa using hi (i + 1) (by simpa using hl)), Bool.and_true]
    exact decide_eq_true (by simpa using hi 0 (by simp))
theorem vld_iff (m : List Int) : vldL m = true ↔ ∀ i, i < m.length → 0 ≤ m.getD i 0 ∧ m.getD i 0 ≤ 1048576 := by
  unfold vldL
  rw [List.all_eq_true]
  constructor
  · intro h i hi
    have := h (m.getD i 0) (by rw [List.getD_eq_getElem?_getD, List.getElem?_eq_getElem hi]; exact List.getElem_mem hi)
    simpa [okZ] using this
  · intro h z hz
    obtain ⟨i, hi, rfl⟩ := List.getElem_of_mem hz
    have := h i hi
    rw [List.getD_eq_getElem?_getD, List.getElem?_eq_getElem hi] at this
    simpa [okZ] using this
theorem up_loop (l : List (List Int)) (m more : List Int) (hok : okIn l) (hm : m.length ≤ 24) (hl : more.length = m.length) (hh : hasL l m = true) : ∀ (d i : Nat) (s : List Int), i + d = m.length → s.length = i → (∀ t, t < i → 0 ≤ more.getD t 0 ∧ more.getD t 0 ≤ 100000 ∧ m.getD t 0 ≤ 900000 ∧ s.getD t 0 = m.getD t 0 + more.getD t 0) →
    Ev (fun k => petrinetlaw21_UpsetUpward.l0 k l m more s i) true := by
  have hv := (hasL_iff l m).1 hh
  have hv' := (vld_iff m).1 hv.1
  intro d
  induction d with
  | zero =>
    intro i s hi hs ht
    refine Ev.up ?_
    simp only [petrinetlaw21_UpsetUpward.l0, if_neg (show ¬ (i : Int) < (m.length : Int) by omega)]
    rw [has_f hok (by omega)]
    have hs2 : vldL s = true := (vld_iff s).2 fun t h => by
      have h1 := ht t (by omega)
      have h2 := hv' t (by omega)
      omega
    have hle : leqL m s = true := leq_add m s (by omega) fun t h => by
      have h1 := ht t (by omega)
      omega
    rw [hasL_up hh hle hs2]
    exact Ev.of fun _ => rfl
  | succ d ih =>
    intro i s hi hs ht
    refine Ev.up ?_
    simp only [petrinetlaw21_UpsetUpward.l0, if_pos (show (i : Int) < (m.length : Int) by omega), if_pos (show (0 : Int) ≤ (i : Int) by omega), if_pos (show (i : Int) < (more.length : Int) by omega), w_succ (show i < 9223372036854775807 by omega), if_pos (show s.length < 17592186044416 by omega)]
    by_cases h1 : rd more (i : Int) < 0
    · simp only [if_pos h1]; exact Ev.of fun _ => rfl
    · simp only [if_neg h1]
      by_cases h2 : rd more (i : Int) > 100000
      · simp only [if_pos h2]; exact Ev.of fun _ => rfl
      · simp only [if_neg h2]
        by_cases h3 : rd m (i : Int) > 900000
        · simp only [if_pos h3]; exact Ev.of fun _ => rfl
        · simp only [if_neg h3]
          have h4 := hv' i (by omega)
          rw [rdI_nat] at h1 h2 h3
          rw [rdI_nat, rdI_nat, w_id (by omega) (by omega)]
          refine ih (i + 1) _ (by omega) (by simp [hs]) fun t htl => ?_
          rcases Nat.lt_or_ge t i with h | h
          · have h5 := ht t h
            have e : (s ++ [m.getD i 0 + more.getD i 0]).getD t 0 = s.getD t 0 := by
              rw [List.getD_eq_getElem?_getD, List.getElem?_append_left (by omega), ← List.getD_eq_getElem?_getD]
            rw [e]
            exact h5
          · obtain rfl : t = i := by omega
            have e : (s ++ [m.getD t 0 + more.getD t 0]).getD t 0 = m.getD t 0 + more.getD t 0 := by
              rw [List.getD_eq_getElem?_getD, List.getElem?_append_right (by omega), hs, Nat.sub_self]
              rfl
            rw [e]
            exact ⟨by omega, by omega, by omega, rfl⟩
theorem upward_ev (l : List (List Int)) (m more : List Int) : Ev (fun k => petrinetlaw21_UpsetUpward.f k l m more) true := by
  have hj : Ev (fun k => petrinetlaw21_UpsetUpward.j0 k l m more true) true := Ev.up (Ev.of fun _ => rfl)
  simp only [petrinetlaw21_UpsetUpward.f, petrinetlaw21_lives.f, Option.bind_some, if_true]
  refine Ev.bind (few_ev l) ?_
  cases hf : fewB l with
  | false => simp only [if_neg (show ¬ (false = true) by decide)]; exact hj
  | true =>
    simp only [if_true]
    by_cases h1 : (m.length : Int) > 24
    · simp only [if_pos h1]; exact hj
    · simp only [if_neg h1]
      by_cases h2 : (more.length : Int) = (m.length : Int)
      · simp only [if_pos h2]
        rw [has_f (few_in hf) (by omega)]
        simp only [Option.bind_some]
        cases hh : hasL l m with
        | false => exact hj
        | true =>
          refine Ev.up ?_
          simp only [petrinetlaw21_UpsetUpward.j0, Bool.not_true, if_neg (show ¬ (false = true) by decide)]
          exact up_loop l m more (few_in hf) (by omega) (by omega) hh m.length 0 [] (by omega) rfl (fun t h => by omega)
      · simp only [if_neg h2]; exact hj
theorem upward_row (l : List (List Int)) (m more : List Int) (_ : l.length ≤ 9223372036854775807) (_ : m.length ≤ 9223372036854775807) (_ : more.length ≤ 9223372036854775807) : Ev (fun k => petrinetlaw21_UpsetUpward.f k l m more) true := upward_ev l m more

end Go.Proofs.Ytliagbliaiigaaa.Hy
