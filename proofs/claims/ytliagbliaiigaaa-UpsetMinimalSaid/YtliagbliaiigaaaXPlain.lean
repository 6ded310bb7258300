/- By hand (up_plain): a part of this seat's proofs. -/
import Derived.Test.YtliagbliaiigaaaXBase
import Derived.Test.YtliagbliaiigaaaH0
import Derived.Test.YtliagbliaiigaaaH1
import Derived.Test.YtliagbliaiigaaaH2
import Derived.Test.YtliagbliaiigaaaH3
namespace Go.Proofs.Ytliagbliaiigaaa.Hy
open Go.RowKit Go.Shelf Go.Proofs.YtliagbliaiigaaaW.PrintWords Go.Proofs.YtliagbliaiigaaaW.PrintLast Go.Proofs.YtliagbliaiigaaaW.PrintMore
set_option linter.unusedVariables false
set_option linter.unusedSimpArgs false
attribute [local go_sem] Oper.semAt_some
/-! ### markings, plainly -/
def leqL : List Int → List Int → Bool
  | a :: x, b :: y => decide (a ≤ b) && leqL x y
  | [], [] => true
  | _, _ => false
def okZ (z : Int) : Bool := decide (0 ≤ z) && decide (z ≤ 1048576)
def vldL (m : List Int) : Bool := m.all okZ
def cmpL : List Int → List Int → Int
  | a :: x, b :: y => if a < b then -1 else if b < a then 1 else cmpL x y
  | [], [] => 0
  | [], _ => -1
  | _, [] => 1
theorem leqL_len : ∀ a b : List Int, a.length ≠ b.length → leqL a b = false
  | [], [], h => absurd rfl h
  | [], _ :: _, _ => rfl
  | _ :: _, [], _ => rfl
  | a :: x, b :: y, h => by rw [leqL, leqL_len x y (fun e => h (by simp [e])), Bool.and_false]
theorem rdI_nat (l : List Int) (i : Nat) : rd l (i : Int) = l.getD i 0 := by simp [rd]
theorem dropI {l : List Int} {i : Nat} (h : i < l.length) : l.drop i = rd l (i : Int) :: l.drop (i + 1) := by
  rw [rdI_nat, List.getD_eq_getElem?_getD, List.getElem?_eq_getElem h]; exact List.drop_eq_getElem_cons h
theorem wI {i : Nat} (h : i < 9223372036854775807) : wrap64 ((i : Int) + 1) = ((i + 1 : Nat) : Int) := by
  unfold wrap64; omega
theorem leq_loop (a b : List Int) (hab : a.length = b.length) (hl : a.length ≤ 1000000) : ∀ (m i k : Nat), i + m = a.length → m < k → marking_Leq.l0 k a b (a.length : Int) i = some (leqL (a.drop i) (b.drop i)) := by
  intro m
  induction m with
  | zero =>
    intro i k hi hk
    obtain ⟨k, rfl⟩ : ∃ j, k = j + 1 := ⟨k - 1, by omega⟩
    simp only [marking_Leq.l0, if_neg (show ¬ (i : Int) < (a.length : Int) by omega)]
    rw [List.drop_of_length_le (by omega), List.drop_of_length_le (by omega)]; rfl
  | succ m ih =>
    intro i k hi hk
    obtain ⟨k, rfl⟩ : ∃ j, k = j + 1 := ⟨k - 1, by omega⟩
    simp only [marking_Leq.l0, if_pos (show (i : Int) < (a.length : Int) by omega), if_pos (show (0 : Int) ≤ (i : Int) by omega), if_pos (show (i : Int) < (b.length : Int) by omega), wI (show i < 9223372036854775807 by omega)]
    rw [dropI (show i < a.length by omega), dropI (show i < b.length by omega), leqL, ih (i + 1) k (by omega) (by omega)]
    by_cases h : rd a i > rd b i
    · rw [if_pos h, decide_eq_false (by omega)]; rfl
    · rw [if_neg h, decide_eq_true (by omega)]; rfl
theorem leq_at (a b : List Int) (hl : a.length ≤ 1000000) : marking_Leq.f (a.length + 1) a b = some (leqL a b) := by
  unfold marking_Leq.f
  by_cases h : (a.length : Int) = (b.length : Int)
  · rw [if_pos h]; exact leq_loop a b (by omega) hl a.length 0 _ (by omega) (by omega)
  · rw [if_neg h, leqL_len a b (by omega)]
theorem valid_loop (a : List Int) (hl : a.length ≤ 1000000) : ∀ (m i k : Nat), i + m = a.length → m < k → marking_Valid.l0 k a (a.length : Int) i = some (vldL (a.drop i)) := by
  intro m
  induction m with
  | zero =>
    intro i k hi hk
    obtain ⟨k, rfl⟩ : ∃ j, k = j + 1 := ⟨k - 1, by omega⟩
    simp only [marking_Valid.l0, if_neg (show ¬ (i : Int) < (a.length : Int) by omega)]
    rw [List.drop_of_length_le (by omega)]; rfl
  | succ m ih =>
    intro i k hi hk
    obtain ⟨k, rfl⟩ : ∃ j, k = j + 1 := ⟨k - 1, by omega⟩
    simp only [marking_Valid.l0, if_pos (show (i : Int) < (a.length : Int) by omega), if_pos (show (0 : Int) ≤ (i : Int) by omega), wI (show i < 9223372036854775807 by omega)]
    rw [dropI (show i < a.length by omega), ih (i + 1) k (by omega) (by omega)]
    unfold vldL
    rw [List.all_cons, okZ]
    by_cases h : rd a i < 0
    · rw [if_pos h, decide_eq_false (by omega)]; rfl
    · rw [if_neg h, decide_eq_true (show 0 ≤ rd a i by omega)]
      by_cases h2 : rd a i > 1048576
      · rw [if_pos h2, decide_eq_false (by omega)]; rfl
      · rw [if_neg h2, decide_eq_true (by omega)]; rfl
theorem valid_at (a : List Int) (n : Int) (hl : a.length ≤ 1000000) : marking_Valid.f (a.length + 1) a n = some (decide ((a.length : Int) = n) && vldL a) := by
  unfold marking_Valid.f
  by_cases h : (a.length : Int) = n
  · rw [if_pos h, decide_eq_true h]; exact valid_loop a hl a.length 0 _ (by omega) (by omega)
  · rw [if_neg h, decide_eq_false h]; rfl
theorem good_at (a : List Int) (hl : a.length ≤ 1000000) : upset_good.f (a.length + 1) a = some (vldL a) := by
  unfold upset_good.f
  rw [valid_at a _ hl, decide_eq_true rfl]; rfl
theorem cmp_loop (a b : List Int) (hl : a.length ≤ 1000000) (hl2 : b.length ≤ 1000000) : ∀ (m i k : Nat), i + m = min a.length b.length → m < k → marking_Compare.l0 k a b ((min a.length b.length : Nat) : Int) i = some (cmpL (a.drop i) (b.drop i)) := by
  intro m
  induction m with
  | zero =>
    intro i k hi hk
    obtain ⟨k, rfl⟩ : ∃ j, k = j + 1 := ⟨k - 1, by omega⟩
    simp only [marking_Compare.l0]
    rw [if_neg (show ¬ (i : Int) < ((min a.length b.length : Nat) : Int) by omega)]
    rcases Nat.lt_trichotomy a.length b.length with h | h | h
    · rw [if_pos (by omega), List.drop_of_length_le (show a.length ≤ i by omega), dropI (show i < b.length by omega)]; rfl
    · rw [if_neg (by omega), if_neg (by omega), List.drop_of_length_le (show a.length ≤ i by omega), List.drop_of_length_le (show b.length ≤ i by omega)]; rfl
    · rw [if_neg (by omega), if_pos (by omega), List.drop_of_length_le (show b.length ≤ i by omega), dropI (show i < a.length by omega)]; rfl
  | succ m ih =>
    intro i k hi hk
    obtain ⟨k, rfl⟩ : ∃ j, k = j + 1 := ⟨k - 1, by omega⟩
    simp only [marking_Compare.l0]
    rw [if_pos (show (i : Int) < ((min a.length b.length : Nat) : Int) by omega), if_pos (show (0 : Int) ≤ (i : Int) by omega), if_pos (show (i : Int) < (a.length : Int) by omega), if_pos (show (i : Int) < (b.length : Int) by omega), wI (show i < 9223372036854775807 by omega), ih (i + 1) k (by omega) (by omega),
      dropI (show i < a.length by omega), dropI (show i < b.length by omega), cmpL]
    by_cases h : rd a i < rd b i
    · rw [if_pos h, if_pos h]
    · rw [if_neg h, if_neg h]
      by_cases h2 : rd a i > rd b i
      · rw [if_pos h2, if_pos h2]
      · rw [if_neg h2, if_neg h2]
theorem cmp_at (a b : List Int) (hl : a.length ≤ 1000000) (hl2 : b.length ≤ 1000000) : marking_Compare.f (a.length + 1) a b = some (cmpL a b) := by
  unfold marking_Compare.f
  have e : mn (a.length : Int) (b.length : Int) = ((min a.length b.length : Nat) : Int) := by unfold mn; split <;> omega
  rw [e]
  exact cmp_loop a b hl hl2 (min a.length b.length) 0 _ (by omega) (by omega)

end Go.Proofs.Ytliagbliaiigaaa.Hy
