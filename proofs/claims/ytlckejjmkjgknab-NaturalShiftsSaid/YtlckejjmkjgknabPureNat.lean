/- the plain law -/
import Derived.Test.YtlckejjmkjgknabXAll
import Derived.Test.YtlckejjmkjgknabH7
import Derived.Test.YtlckejjmkjgknabH10
import Derived.Test.YtlckejjmkjgknabH12
import Derived.Test.YtlckejjmkjgknabH11
namespace Go.Proofs.Ytlckejjmkjgknab.Pure
open Go.RowKit Go.Proofs.Ytlckejjmkjgknab.Hy Go.Proofs.YtlckejjmkjgknabW.PrintWords Go.Proofs.YtlckejjmkjgknabW.PrintLast Go.Proofs.YtlckejjmkjgknabW.PrintMore
/-! ### what comes out with rounds enough -/
def Ev {α : Type} (x : Nat → Option α) (v : α) : Prop := ∃ K, ∀ k, K ≤ k → x k = some v
theorem Ev.of {α : Type} {x : Nat → Option α} {v : α} (h : ∀ k, x k = some v) : Ev x v := ⟨0, fun k _ => h k⟩
theorem Ev.up {α : Type} {x : Nat → Option α} {v : α} (h : Ev (fun k => x (k + 1)) v) : Ev x v := by
  obtain ⟨K, h⟩ := h
  refine ⟨K + 1, fun k hk => ?_⟩
  obtain ⟨m, rfl⟩ : ∃ m, k = m + 1 := ⟨k - 1, by omega⟩
  exact h m (by omega)
theorem Ev.bind {α β : Type} {x : Nat → Option α} {g : Nat → α → Option β} {a : α} {r : β} (h : Ev x a) (h2 : Ev (fun k => g k a) r) : Ev (fun k => (x k).bind (g k)) r := by
  obtain ⟨K, h⟩ := h
  obtain ⟨K2, h2⟩ := h2
  refine ⟨max K K2, fun k hk => ?_⟩
  show (x k).bind (g k) = some r
  rw [h k (by omega), Option.bind_some]
  exact h2 k (by omega)
theorem Ev.cast {α : Type} {x : Nat → Option α} {v v' : α} (h : Ev x v) (e : v = v') : Ev x v' := e ▸ h
theorem Ev.ex {α : Type} {x : Nat → Option α} {v : α} (h : Ev x v) : ∃ k, x k = some v := ⟨_, h.choose_spec _ (Nat.le_refl _)⟩
theorem Ev.of_mono {α : Type} {x : Nat → Option α} {v : α} (hm : ∀ k, LeO (x k) (x (k + 1))) {k : Nat} (h : x k = some v) : Ev x v := by
  refine ⟨k, fun m hm' => ?_⟩
  obtain ⟨d, rfl⟩ : ∃ d, m = k + d := ⟨m - k, by omega⟩
  clear hm'
  induction d with
  | zero => exact h
  | succ d ih => exact hm _ _ ih
theorem w_id {x : Int} (h0 : -9223372036854775808 ≤ x) (h1 : x ≤ 9223372036854775807) : wrap64 x = x := by unfold wrap64; omega
theorem w_succ {i : Nat} (h : i < 9223372036854775807) : wrap64 ((i : Int) + 1) = ((i + 1 : Nat) : Int) := by rw [w_id (by omega) (by omega)]; rfl
theorem rd_nat (l : List Int) (i : Nat) : rd l (i : Int) = l.getD i 0 := by simp [rd]
theorem rd_mem {l : List Int} {i : Nat} (h : i < l.length) : rd l (i : Int) ∈ l := by
  rw [rd_nat, List.getD_eq_getElem?_getD, List.getElem?_eq_getElem h]; exact List.getElem_mem h
theorem drop_rd {l : List Int} {i : Nat} (h : i < l.length) : l.drop i = rd l (i : Int) :: l.drop (i + 1) := by
  rw [rd_nat, List.getD_eq_getElem?_getD, List.getElem?_eq_getElem h]; exact List.drop_eq_getElem_cons h

theorem rdL_nat (l : List (List Int)) (i : Nat) : rd_L1 l (i : Int) = l.getD i [] := by simp [rd_L1]
theorem rdL_mem {l : List (List Int)} {i : Nat} (h : i < l.length) : rd_L1 l (i : Int) ∈ l := by
  rw [rdL_nat, List.getD_eq_getElem?_getD, List.getElem?_eq_getElem h]; exact List.getElem_mem h
theorem drop_rdL {l : List (List Int)} {i : Nat} (h : i < l.length) : l.drop i = rd_L1 l (i : Int) :: l.drop (i + 1) := by
  rw [rdL_nat, List.getD_eq_getElem?_getD, List.getElem?_eq_getElem h]; exact List.drop_eq_getElem_cons h
/-! ### the checks -/
def inW (z : Int) : Bool := decide (-10000 ≤ z) && decide (z ≤ 10000)
def inU (z : Int) : Bool := decide (0 ≤ z) && decide (z ≤ 1000)
def over : List Int → Int → Bool
  | [], _ => false
  | u :: us, n => if n * (u + 1) > 100000 then true else over us (n * (u + 1))
def chk (a : List (List Int)) (b u : List Int) : Int :=
  if u.length < 1 ∨ u.length > 64 ∨ a.length ≠ b.length ∨ a.length > 64 then 2
  else if a.all (fun r => r.length == u.length) = false then 2
  else if (a.all (fun r => r.all inW) && b.all inW && u.all inU) = false then 1
  else if over u 1 then 14 else 0
theorem l4_ev (us : List Int) (hu : ∀ z ∈ us, inU z) (hl : us.length ≤ 64) : ∀ (m i : Nat) (n : Int), i + m = us.length → 1 ≤ n → n ≤ 100000 →
    Ev (fun k => petrinetref35_Check.l4 k us n i) (if over (us.drop i) n then 14 else 0) := by
  intro m
  induction m with
  | zero =>
    intro i n hi h1 h2
    refine Ev.up (Ev.of fun k => ?_)
    simp only [petrinetref35_Check.l4]
    rw [if_neg (by omega), List.drop_of_length_le (by omega)]
    rfl
  | succ m ih =>
    intro i n hi h1 h2
    have hlt : i < us.length := by omega
    have hz := hu _ (rd_mem hlt)
    simp only [inU, Bool.and_eq_true, decide_eq_true_eq] at hz
    obtain ⟨z, hzd⟩ : ∃ z, z = rd us (i : Int) := ⟨_, rfl⟩
    rw [← hzd] at hz
    have hp : 1 ≤ n * (z + 1) := by
      have := Int.mul_le_mul h1 (show (1 : Int) ≤ z + 1 by omega) (by omega) (by omega)
      omega
    have hp2 : n * (z + 1) ≤ 100000 * 1001 := Int.mul_le_mul h2 (by omega) (by omega) (by omega)
    have e1 : wrap64 (z + 1) = z + 1 := w_id (by omega) (by omega)
    have e2 : wrap64 (n * (z + 1)) = n * (z + 1) := w_id (by omega) (by omega)
    refine Ev.up ?_
    simp only [petrinetref35_Check.l4, ← hzd, e1, e2, w_succ (show i < 9223372036854775807 by omega), if_pos (show (i : Int) < (us.length : Int) by omega), if_pos (show (0 : Int) ≤ (i : Int) by omega)]
    rw [drop_rd hlt, ← hzd, over]
    by_cases hc : n * (z + 1) > 100000
    · simp only [if_pos hc]
      exact Ev.of fun _ => rfl
    · simp only [if_neg hc]
      exact ih (i + 1) _ (by omega) hp (by omega)
theorem l3_ev (us : List Int) (hl : us.length ≤ 64) : ∀ (m i : Nat), i + m = us.length → (∀ z ∈ us.take i, inU z) →
    Ev (fun k => petrinetref35_Check.l3 k us i) (if us.all inU then (if over us 1 then 14 else 0) else 1) := by
  intro m
  induction m with
  | zero =>
    intro i hi h0
    rw [List.take_of_length_le (by omega)] at h0
    refine Ev.up ?_
    simp only [petrinetref35_Check.l3, if_neg (show ¬ (i : Int) < (us.length : Int) by omega)]
    rw [if_pos (List.all_eq_true.2 h0)]
    exact l4_ev us h0 hl us.length 0 1 (by omega) (by omega) (by omega)
  | succ m ih =>
    intro i hi h0
    have hlt : i < us.length := by omega
    obtain ⟨z, hzd⟩ : ∃ z, z = rd us (i : Int) := ⟨_, rfl⟩
    refine Ev.up ?_
    simp only [petrinetref35_Check.l3, ← hzd, w_succ (show i < 9223372036854775807 by omega), if_pos (show (i : Int) < (us.length : Int) by omega), if_pos (show (0 : Int) ≤ (i : Int) by omega)]
    have bad : inU z = false → us.all inU = false := fun h => by
      rw [List.all_eq_false]; exact ⟨z, by rw [hzd]; exact rd_mem hlt, by simp [h]⟩
    by_cases h1 : z < 0
    · simp only [if_pos h1, bad (by simp [inU]; omega)]
      exact Ev.of fun _ => rfl
    · by_cases h2 : z > 1000
      · simp only [if_neg h1, if_pos h2, bad (by simp [inU]; omega)]
        exact Ev.of fun _ => rfl
      · simp only [if_neg h1, if_neg h2]
        refine ih (i + 1) (by omega) (fun y hy => ?_)
        rw [List.take_succ_eq_append_getElem hlt, List.mem_append] at hy
        rcases hy with hy | hy
        · exact h0 y hy
        · have : y = z := by rw [hzd, rd_nat, List.getD_eq_getElem?_getD, List.getElem?_eq_getElem hlt]; simpa using hy
          subst this
          simp [inU]; omega
theorem and4 (p1 p2 p3 p4 : Bool) (R : Int) : (if p1 && p2 then (if p3 && p4 then R else 1) else 1) = if (p1 && p3) && (p2 && p4) then R else 1 := by
  cases p1 <;> cases p2 <;> cases p3 <;> cases p4 <;> rfl
theorem and3 (p1 p2 p3 : Bool) (R : Int) : (if p1 && p2 then (if p3 then R else 1) else 1) = if (p1 && p2 && p3) = false then 1 else R := by
  cases p1 <;> cases p2 <;> cases p3 <;> rfl
theorem inW_no {z : Int} : inW z = false ↔ z < -10000 ∨ z > 10000 := by simp [inW]; omega
theorem l2_ev (a : List (List Int)) (b u : List Int) (i : Nat) (hi : i < a.length) (hb : i < b.length) (hr : (rd_L1 a i).length ≤ 64) (ha : a.length ≤ 64) (V : Int) (hV : Ev (fun k => petrinetref35_Check.l1 k a b u ((i + 1 : Nat) : Int)) V) :
    ∀ (m j : Nat), j + m = (rd_L1 a i).length → Ev (fun k => petrinetref35_Check.l2 k a b u i j) (if ((rd_L1 a i).drop j).all inW && inW (rd b i) then V else 1) := by
  intro m
  induction m with
  | zero =>
    intro j hj
    obtain ⟨z, hzd⟩ : ∃ z, z = rd b (i : Int) := ⟨_, rfl⟩
    refine Ev.up ?_
    simp only [petrinetref35_Check.l2, ← hzd, if_pos (show (0 : Int) ≤ (i : Int) by omega), if_pos (show (i : Int) < (a.length : Int) by omega), if_neg (show ¬ (j : Int) < ((rd_L1 a i).length : Int) by omega), if_pos (show (i : Int) < (b.length : Int) by omega), w_succ (show i < 9223372036854775807 by omega)]
    rw [List.drop_of_length_le (by omega)]
    simp only [List.all_nil, Bool.true_and]
    by_cases h1 : z < -10000
    · simp only [if_pos h1, inW_no.2 (.inl h1)]; exact Ev.of fun _ => rfl
    · by_cases h2 : z > 10000
      · simp only [if_neg h1, if_pos h2, inW_no.2 (.inr h2)]; exact Ev.of fun _ => rfl
      · have : inW z = true := by simp [inW]; omega
        simp only [if_neg h1, if_neg h2, this, if_true]
        exact hV
  | succ m ih =>
    intro j hj
    have hlt : j < (rd_L1 a i).length := by omega
    rw [drop_rd hlt]
    obtain ⟨z, hzd⟩ : ∃ z, z = rd (rd_L1 a i) (j : Int) := ⟨_, rfl⟩
    refine Ev.up ?_
    simp only [petrinetref35_Check.l2, ← hzd, if_pos (show (0 : Int) ≤ (i : Int) by omega), if_pos (show (0 : Int) ≤ (j : Int) by omega), if_pos (show (i : Int) < (a.length : Int) by omega), if_pos (show (j : Int) < ((rd_L1 a i).length : Int) by omega), w_succ (show j < 9223372036854775807 by omega), List.all_cons]
    by_cases h1 : z < -10000
    · simp only [if_pos h1, inW_no.2 (.inl h1)]; exact Ev.of fun _ => rfl
    · by_cases h2 : z > 10000
      · simp only [if_neg h1, if_pos h2, inW_no.2 (.inr h2)]; exact Ev.of fun _ => rfl
      · have : inW z = true := by simp [inW]; omega
        simp only [if_neg h1, if_neg h2, this, Bool.true_and]
        exact ih (j + 1) (by omega)
theorem l1_ev (a : List (List Int)) (b u : List Int) (hab : a.length = b.length) (ha : a.length ≤ 64) (hu : u.length ≤ 64) (hr : ∀ r ∈ a, r.length ≤ 64) :
    ∀ (m i : Nat), i + m = a.length → Ev (fun k => petrinetref35_Check.l1 k a b u i) (if (a.drop i).all (fun r => r.all inW) && (b.drop i).all inW then (if u.all inU then (if over u 1 then 14 else 0) else 1) else 1) := by
  intro m
  induction m with
  | zero =>
    intro i hi
    refine Ev.up ?_
    simp only [petrinetref35_Check.l1, if_neg (show ¬ (i : Int) < (a.length : Int) by omega)]
    rw [List.drop_of_length_le (by omega), List.drop_of_length_le (by omega)]
    exact l3_ev u hu u.length 0 (by omega) (by simp)
  | succ m ih =>
    intro i hi
    refine Ev.up ?_
    simp only [petrinetref35_Check.l1, if_pos (show (i : Int) < (a.length : Int) by omega)]
    refine (l2_ev a b u i (by omega) (by omega) (hr _ (rdL_mem (by omega))) ha _ (ih (i + 1) (by omega)) (rd_L1 a i).length 0 (by omega)).cast ?_
    rw [drop_rdL (show i < a.length by omega), drop_rd (show i < b.length by omega)]
    simp only [List.drop_zero, List.all_cons]
    exact and4 _ _ _ _ _
theorem l0_ev (a : List (List Int)) (b u : List Int) (hab : a.length = b.length) (ha : a.length ≤ 64) (hu : u.length ≤ 64) :
    ∀ (m i : Nat), i + m = a.length → (∀ r ∈ a.take i, r.length = u.length) → Ev (fun k => petrinetref35_Check.l0 k a b u i) (if a.all (fun r => r.length == u.length) = false then 2 else if (a.all (fun r => r.all inW) && b.all inW && u.all inU) = false then 1 else if over u 1 then 14 else 0) := by
  intro m
  induction m with
  | zero =>
    intro i hi h0
    rw [List.take_of_length_le (by omega)] at h0
    refine Ev.up ?_
    simp only [petrinetref35_Check.l0, if_neg (show ¬ (i : Int) < (a.length : Int) by omega)]
    refine (l1_ev a b u hab ha hu (fun r hr => by rw [h0 r hr]; exact hu) a.length 0 (by omega)).cast ?_
    rw [if_neg (show ¬ a.all (fun r => r.length == u.length) = false by rw [Bool.not_eq_false, List.all_eq_true]; exact fun r hr => by simp [h0 r hr])]
    simp only [List.drop_zero]
    exact and3 _ _ _ _
  | succ m ih =>
    intro i hi h0
    refine Ev.up ?_
    have hlt : i < a.length := by omega
    obtain ⟨z, hzd⟩ : ∃ z, z = rd_L1 a (i : Int) := ⟨_, rfl⟩
    simp only [petrinetref35_Check.l0, ← hzd, if_pos (show (i : Int) < (a.length : Int) by omega), if_pos (show (0 : Int) ≤ (i : Int) by omega), w_succ (show i < 9223372036854775807 by omega)]
    by_cases h1 : (z.length : Int) = (u.length : Int)
    · simp only [if_pos h1]
      refine ih (i + 1) (by omega) (fun y hy => ?_)
      rw [List.take_succ_eq_append_getElem hlt, List.mem_append] at hy
      rcases hy with hy | hy
      · exact h0 y hy
      · have : y = z := by rw [hzd, rdL_nat, List.getD_eq_getElem?_getD, List.getElem?_eq_getElem hlt]; simpa using hy
        subst this
        omega
    · simp only [if_neg h1]
      rw [if_pos]
      · exact Ev.of fun _ => rfl
      · rw [List.all_eq_false]
        refine ⟨z, by rw [hzd]; exact rdL_mem hlt, ?_⟩
        simp; omega
theorem refCheck_ev (a : List (List Int)) (b u : List Int) : Ev (fun k => petrinetref35_Check.f k a b u) (chk a b u) := by
  simp only [petrinetref35_Check.f]
  by_cases h1 : (u.length : Int) < 1
  · simp only [if_pos h1]
    rw [chk, if_pos (by omega)]
    exact Ev.up (Ev.of fun k => by simp [petrinetref35_Check.j0])
  · simp only [if_neg h1]
    by_cases h2 : (u.length : Int) > 64
    · simp only [if_pos h2]
      rw [chk, if_pos (by omega)]
      exact Ev.up (Ev.of fun k => by simp [petrinetref35_Check.j0])
    · simp only [if_neg h2]
      by_cases h3 : (a.length : Int) = (b.length : Int)
      · simp only [if_pos h3]
        by_cases h4 : (a.length : Int) > 64
        · rw [chk, if_pos (by omega), decide_eq_true h4]
          exact Ev.up (Ev.of fun k => by simp [petrinetref35_Check.j0])
        · rw [chk, if_neg (by omega), decide_eq_false h4]
          refine Ev.up ?_
          simp only [petrinetref35_Check.j0, if_neg (show ¬ (false = true) by decide)]
          exact l0_ev a b u (by omega) (by omega) (by omega) a.length 0 (by omega) (by simp)
      · simp only [if_neg h3]
        rw [chk, if_pos (by omega)]
        exact Ev.up (Ev.of fun k => by simp [petrinetref35_Check.j0])
/-! ### the program's check -/
theorem within_ev (lo hi : Int) (l : List Int) (hl : l.length ≤ 64) : ∀ (m i : Nat), i + m = l.length → Ev (fun k => natural_within.l0 k lo hi l (l.length : Int) i) ((l.drop i).all fun z => decide (lo ≤ z) && decide (z ≤ hi)) := by
  intro m
  induction m with
  | zero =>
    intro i hi
    refine Ev.up (Ev.of fun k => ?_)
    simp only [natural_within.l0]
    rw [if_neg (by omega), List.drop_of_length_le (by omega)]
    rfl
  | succ m ih =>
    intro i hi'
    have hlt : i < l.length := by omega
    rw [drop_rd hlt]
    obtain ⟨z, hzd⟩ : ∃ z, z = rd l (i : Int) := ⟨_, rfl⟩
    refine Ev.up ?_
    simp only [natural_within.l0, ← hzd, if_pos (show (0 : Int) ≤ (i : Int) by omega), if_pos (show (i : Int) < (l.length : Int) by omega), w_succ (show i < 9223372036854775807 by omega), List.all_cons]
    by_cases h1 : z < lo
    · simp only [if_pos h1, decide_eq_false (show ¬ lo ≤ z by omega), Bool.false_and]; exact Ev.of fun _ => rfl
    · by_cases h2 : z > hi
      · simp only [if_neg h1, if_pos h2, decide_eq_false (show ¬ z ≤ hi by omega), Bool.and_false, Bool.false_and]; exact Ev.of fun _ => rfl
      · simp only [if_neg h1, if_neg h2, decide_eq_true (show lo ≤ z by omega), decide_eq_true (show z ≤ hi by omega), Bool.true_and]
        exact ih (i + 1) (by omega)
theorem withinW (l : List Int) (hl : l.length ≤ 64) : Ev (fun k => natural_within.f k l (-10000) 10000) (l.all inW) := within_ev _ _ l hl l.length 0 (by omega)
theorem withinU (l : List Int) (hl : l.length ≤ 64) : Ev (fun k => natural_within.f k l 0 1000) (l.all inU) := within_ev _ _ l hl l.length 0 (by omega)
theorem nl2_ev (us : List Int) (hu : ∀ z ∈ us, inU z) (hl : us.length ≤ 64) : ∀ (m i : Nat) (n : Int), i + m = us.length → 1 ≤ n → n ≤ 100000 →
    Ev (fun k => natural_Check.l2 k n us (us.length : Int) i) (if over (us.drop i) n then 14 else 0) := by
  intro m
  induction m with
  | zero =>
    intro i n hi h1 h2
    refine Ev.up (Ev.of fun k => ?_)
    simp only [natural_Check.l2]
    rw [if_neg (by omega), List.drop_of_length_le (by omega)]
    rfl
  | succ m ih =>
    intro i n hi h1 h2
    have hlt : i < us.length := by omega
    have hz := hu _ (rd_mem hlt)
    simp only [inU, Bool.and_eq_true, decide_eq_true_eq] at hz
    obtain ⟨z, hzd⟩ : ∃ z, z = rd us (i : Int) := ⟨_, rfl⟩
    rw [← hzd] at hz
    have hp : 1 ≤ n * (z + 1) := by
      have := Int.mul_le_mul h1 (show (1 : Int) ≤ z + 1 by omega) (by omega) (by omega)
      omega
    have hp2 : n * (z + 1) ≤ 100000 * 1001 := Int.mul_le_mul h2 (by omega) (by omega) (by omega)
    have e1 : wrap64 (z + 1) = z + 1 := w_id (by omega) (by omega)
    have e2 : wrap64 (n * (z + 1)) = n * (z + 1) := w_id (by omega) (by omega)
    refine Ev.up ?_
    simp only [natural_Check.l2, ← hzd, e1, e2, w_succ (show i < 9223372036854775807 by omega), if_pos (show (i : Int) < (us.length : Int) by omega), if_pos (show (0 : Int) ≤ (i : Int) by omega)]
    rw [drop_rd hlt, ← hzd, over]
    by_cases hc : n * (z + 1) > 100000
    · simp only [if_pos hc]
      exact Ev.of fun _ => rfl
    · simp only [if_neg hc]
      exact ih (i + 1) _ (by omega) hp (by omega)
theorem nl1_ev (us : List Int) (hl : us.length ≤ 64) (a : List (List Int)) (ha : a.length ≤ 64) (hr : ∀ r ∈ a, r.length ≤ 64) : ∀ (m i : Nat) (p : Bool), i + m = a.length → (p = true → us.all inU = true) →
    Ev (fun k => natural_Check.l1 k us p a (a.length : Int) i) (if (p && (a.drop i).all (fun r => r.all inW)) = false then 1 else if over us 1 then 14 else 0) := by
  intro m
  induction m with
  | zero =>
    intro i p hi hp
    refine Ev.up ?_
    simp only [natural_Check.l1, if_neg (show ¬ (i : Int) < (a.length : Int) by omega)]
    rw [List.drop_of_length_le (by omega)]
    cases p with
    | false => exact Ev.of fun _ => rfl
    | true =>
      simp only [if_true]
      exact nl2_ev us (by simpa using hp rfl) hl us.length 0 1 (by omega) (by omega) (by omega)
  | succ m ih =>
    intro i p hi hp
    have hlt : i < a.length := by omega
    refine Ev.up ?_
    simp only [natural_Check.l1, if_pos (show (0 : Int) ≤ (i : Int) by omega), if_pos (show (i : Int) < (a.length : Int) by omega), w_succ (show i < 9223372036854775807 by omega)]
    rw [drop_rdL hlt]
    cases p with
    | false =>
      simp only [if_neg (show ¬ (false = true) by decide)]
      refine (ih (i + 1) false (by omega) (by simp)).cast ?_
      simp
    | true =>
      simp only [if_true]
      refine Ev.bind (withinW _ (hr _ (rdL_mem hlt))) ?_
      refine (ih (i + 1) ((rd_L1 a (i : Int)).all inW) (by omega) (fun _ => hp rfl)).cast ?_
      simp only [List.all_cons, Bool.true_and]
theorem nl0_ev (a : List (List Int)) (b u : List Int) (hab : a.length = b.length) (ha : a.length ≤ 64) (hu : u.length ≤ 64) :
    ∀ (m i : Nat), i + m = a.length → (∀ r ∈ a.take i, r.length = u.length) → Ev (fun k => natural_Check.l0 k a b u a (a.length : Int) i) (if a.all (fun r => r.length == u.length) = false then 2 else if (a.all (fun r => r.all inW) && b.all inW && u.all inU) = false then 1 else if over u 1 then 14 else 0) := by
  intro m
  induction m with
  | zero =>
    intro i hi h0
    rw [List.take_of_length_le (by omega)] at h0
    refine Ev.up ?_
    simp only [natural_Check.l0, if_neg (show ¬ (i : Int) < (a.length : Int) by omega)]
    rw [if_neg (show ¬ a.all (fun r => r.length == u.length) = false by rw [Bool.not_eq_false, List.all_eq_true]; exact fun r hr => by simp [h0 r hr])]
    have hr : ∀ r ∈ a, r.length ≤ 64 := fun r hr => by rw [h0 r hr]; exact hu
    refine Ev.bind (withinW b (by omega)) ?_
    cases hb : b.all inW with
    | false =>
      simp only [if_neg (show ¬ (false = true) by decide)]
      refine Ev.up ?_
      simp only [natural_Check.j2]
      refine (nl1_ev u hu a ha hr a.length 0 false (by omega) (by simp)).cast ?_
      simp
    | true =>
      simp only [if_true]
      refine Ev.bind (withinU u hu) ?_
      refine Ev.up ?_
      simp only [natural_Check.j2]
      refine (nl1_ev u hu a ha hr a.length 0 (u.all inU) (by omega) (fun h => h)).cast ?_
      rw [List.drop_zero, Bool.and_true, Bool.and_comm]
  | succ m ih =>
    intro i hi h0
    refine Ev.up ?_
    have hlt : i < a.length := by omega
    obtain ⟨z, hzd⟩ : ∃ z, z = rd_L1 a (i : Int) := ⟨_, rfl⟩
    simp only [natural_Check.l0, ← hzd, if_pos (show (i : Int) < (a.length : Int) by omega), if_pos (show (0 : Int) ≤ (i : Int) by omega), w_succ (show i < 9223372036854775807 by omega)]
    by_cases h1 : (z.length : Int) = (u.length : Int)
    · simp only [if_pos h1]
      refine ih (i + 1) (by omega) (fun y hy => ?_)
      rw [List.take_succ_eq_append_getElem hlt, List.mem_append] at hy
      rcases hy with hy | hy
      · exact h0 y hy
      · have : y = z := by rw [hzd, rdL_nat, List.getD_eq_getElem?_getD, List.getElem?_eq_getElem hlt]; simpa using hy
        subst this
        omega
    · simp only [if_neg h1]
      rw [if_pos]
      · exact Ev.of fun _ => rfl
      · rw [List.all_eq_false]
        refine ⟨z, by rw [hzd]; exact rdL_mem hlt, ?_⟩
        simp; omega
theorem natCheck_ev (a : List (List Int)) (b u : List Int) : Ev (fun k => natural_Check.f k a b u) (chk a b u) := by
  simp only [natural_Check.f]
  by_cases h1 : (u.length : Int) < 1
  · simp only [if_pos h1]
    rw [chk, if_pos (by omega)]
    exact Ev.up (Ev.of fun k => by simp [natural_Check.j0])
  · simp only [if_neg h1]
    by_cases h2 : (u.length : Int) > 64
    · simp only [if_pos h2]
      rw [chk, if_pos (by omega)]
      exact Ev.up (Ev.of fun k => by simp [natural_Check.j0])
    · simp only [if_neg h2]
      by_cases h3 : (a.length : Int) = (b.length : Int)
      · simp only [if_pos h3]
        by_cases h4 : (a.length : Int) > 64
        · rw [chk, if_pos (by omega), decide_eq_true h4]
          exact Ev.up (Ev.of fun k => by simp [natural_Check.j0])
        · rw [chk, if_neg (by omega), decide_eq_false h4]
          refine Ev.up ?_
          simp only [natural_Check.j0, if_neg (show ¬ (false = true) by decide)]
          exact nl0_ev a b u (by omega) (by omega) (by omega) a.length 0 (by omega) (by simp)
      · simp only [if_neg h3]
        rw [chk, if_pos (by omega)]
        exact Ev.up (Ev.of fun k => by simp [natural_Check.j0])

/-! ### the vectors, by their numbers -/
def prodZ : List Int → Nat
  | [] => 1
  | u :: us => (u.toNat + 1) * prodZ us
/-- the vector with a number: digits, the last one least -/
def vecZ : List Int → Nat → List Int
  | [], _ => []
  | u :: us, n => ((((n / prodZ us) % (u.toNat + 1) : Nat) : Int)) :: vecZ us n
theorem prodZ_pos : ∀ us, 0 < prodZ us
  | [] => by simp [prodZ]
  | u :: us => by have := prodZ_pos us; simp [prodZ]; exact this
theorem vecZ_mod : ∀ us n m, vecZ us (m * prodZ us + n) = vecZ us n
  | [], _, _ => rfl
  | u :: us, n, m => by
    have hp := prodZ_pos us
    have e : m * prodZ (u :: us) + n = (m * (u.toNat + 1)) * prodZ us + n := by simp [prodZ, Nat.mul_assoc]
    simp only [vecZ]
    rw [e, vecZ_mod us, Nat.mul_comm _ (prodZ us), Nat.mul_add_div hp, Nat.mul_comm m (u.toNat + 1), Nat.mul_add_mod]
theorem range_mul (a b : Nat) : List.range (a * b) = (List.range a).flatMap fun i => (List.range b).map (i * b + ·) := by
  induction a with
  | zero => simp
  | succ a ih => rw [Nat.succ_mul, List.range_add, ih, List.range_succ, List.flatMap_append]; simp
theorem flatMap_congr' {α β : Type} {l : List α} {f g : α → List β} (h : ∀ a ∈ l, f a = g a) : l.flatMap f = l.flatMap g := by
  rw [List.flatMap_def, List.flatMap_def, List.map_congr_left h]
theorem allZ_eq : ∀ us, allZ us = (List.range (prodZ us)).map (vecZ us)
  | [] => by simp [allZ, prodZ, vecZ]
  | u :: us => by
    have hp := prodZ_pos us
    rw [allZ, prodZ, range_mul, List.map_flatMap, allZ_eq us]
    apply flatMap_congr'
    intro i hi
    simp only [List.mem_range] at hi
    simp only [List.map_map]
    apply List.map_congr_left
    intro n hn
    simp only [List.mem_range] at hn
    simp only [Function.comp, vecZ]
    rw [vecZ_mod, Nat.mul_comm, Nat.mul_add_div hp, Nat.div_eq_of_lt hn, Nat.add_zero, Nat.mod_eq_of_lt hi]
theorem allZ_len (us : List Int) : (allZ us).length = prodZ us := by rw [allZ_eq]; simp
theorem sols_eq (a : List (List Int)) (b us : List Int) : sols a b us [] = ((List.range (prodZ us)).map (vecZ us)).filter (isSol a b) := by
  rw [sols, ← allZ_eq]; simp
theorem sols_le (a : List (List Int)) (b us : List Int) : (sols a b us []).length ≤ prodZ us := by
  rw [sols_eq]
  exact Nat.le_trans (List.length_filter_le _ _) (by simp)
theorem over_le (us : List Int) : ∀ n : Int, (∀ z ∈ us, inU z) → 0 ≤ n → n ≤ 100000 → over us n = false → n * (prodZ us : Int) ≤ 100000 := by
  induction us with
  | nil => intro n _ _ h _; simpa [prodZ] using h
  | cons u us ih =>
    intro n hu h0 h1 ho
    have hz := hu u List.mem_cons_self
    simp only [inU, Bool.and_eq_true, decide_eq_true_eq] at hz
    rw [over] at ho
    by_cases hc : n * (u + 1) > 100000
    · rw [if_pos hc] at ho; cases ho
    · rw [if_neg hc] at ho
      have := ih (n * (u + 1)) (fun z hz => hu z (List.mem_cons_of_mem _ hz)) (Int.mul_nonneg h0 (by omega)) (by omega) ho
      have e : ((prodZ (u :: us) : Nat) : Int) = (u + 1) * (prodZ us : Int) := by
        rw [prodZ, Int.natCast_mul]; congr 1; omega
      rw [e, ← Int.mul_assoc]
      exact this
/-- a problem without an error -/
theorem chk_ok {a : List (List Int)} {b u : List Int} (h : chk a b u = 0) : okN a b u ∧ prodZ u ≤ 100000 := by
  unfold chk at h
  split at h
  · cases h
  · rename_i h1
    split at h
    · cases h
    · rename_i h2
      split at h
      · cases h
      · rename_i h3
        split at h
        · cases h
        · rename_i h4
          rw [Bool.not_eq_false] at h2 h3
          rw [Bool.not_eq_true] at h4
          simp only [Bool.and_eq_true] at h3
          have hu : ∀ z ∈ u, inU z := by simpa using h3.2
          have hp := over_le u 1 hu (by omega) (by omega) h4
          have hp' : prodZ u ≤ 100000 := by omega
          refine ⟨⟨⟨by omega, by omega, by omega, by omega⟩, by simpa using h2, ?_, ?_, ?_, Nat.le_trans (sols_le _ _ _) hp'⟩, hp'⟩
          · intro r hr z hz
            have := List.all_eq_true.1 (List.all_eq_true.1 h3.1.1 r hr) z hz
            simpa [inW] using this
          · intro z hz
            have := List.all_eq_true.1 h3.1.2 z hz
            simpa [inW] using this
          · intro z hz
            have := hu z hz
            simpa [inU] using this
theorem ok_inU {a : List (List Int)} {b u : List Int} (h : okN a b u) : ∀ z ∈ u, inU z := fun z hz => by have := h.2.2.2.2.1 z hz; simpa [inU] using this
/-! ### the reference's parts -/
theorem prod_ev (us : List Int) (hu : ∀ z ∈ us, inU z) (hl : us.length ≤ 64) : ∀ (m i : Nat) (n : Nat), i + m = us.length → n * prodZ (us.drop i) ≤ 100000 →
    Ev (fun k => petrinetref35_Product.l0 k us n i) (((n * prodZ (us.drop i) : Nat)) : Int) := by
  intro m
  induction m with
  | zero =>
    intro i n hi h1
    refine Ev.up ?_
    simp only [petrinetref35_Product.l0, if_neg (show ¬ (i : Int) < (us.length : Int) by omega)]
    rw [List.drop_of_length_le (by omega)]
    exact Ev.of fun k => by simp [prodZ]
  | succ m ih =>
    intro i n hi h1
    have hlt : i < us.length := by omega
    have hz := hu _ (rd_mem hlt)
    simp only [inU, Bool.and_eq_true, decide_eq_true_eq] at hz
    obtain ⟨z, hzd⟩ : ∃ z, z = rd us (i : Int) := ⟨_, rfl⟩
    rw [← hzd] at hz
    rw [drop_rd hlt, ← hzd, prodZ, ← Nat.mul_assoc] at h1
    have hp := prodZ_pos (us.drop (i + 1))
    have h2 : n * (z.toNat + 1) ≤ 100000 := Nat.le_trans (Nat.le_mul_of_pos_right _ hp) h1
    have e1 : wrap64 (z + 1) = ((z.toNat + 1 : Nat) : Int) := by rw [w_id (by omega) (by omega)]; omega
    have e2 : wrap64 ((n : Int) * ((z.toNat + 1 : Nat) : Int)) = ((n * (z.toNat + 1) : Nat) : Int) := by
      rw [← Int.natCast_mul, w_id (by omega) (by omega)]
    refine Ev.up ?_
    simp only [petrinetref35_Product.l0, ← hzd, e1, e2, w_succ (show i < 9223372036854775807 by omega), if_pos (show (i : Int) < (us.length : Int) by omega), if_pos (show (0 : Int) ≤ (i : Int) by omega)]
    rw [drop_rd hlt, ← hzd, prodZ, ← Nat.mul_assoc]
    exact ih (i + 1) _ (by omega) h1
theorem product_ev {us : List Int} (hu : ∀ z ∈ us, inU z) (hl : us.length ≤ 64) (hp : prodZ us ≤ 100000) : Ev (fun k => petrinetref35_Product.f k us) (prodZ us : Int) := by
  have := prod_ev us hu hl us.length 0 1 (by omega) (by simpa using hp)
  rw [Nat.one_mul, List.drop_zero] at this
  exact this
theorem prodZ_snoc : ∀ (us : List Int) (u : Int), prodZ (us ++ [u]) = prodZ us * (u.toNat + 1)
  | [], u => by simp [prodZ]
  | v :: us, u => by simp only [List.cons_append, prodZ, prodZ_snoc us u, Nat.mul_assoc]
theorem vecZ_snoc : ∀ (us : List Int) (u : Int) (n : Nat), vecZ (us ++ [u]) n = vecZ us (n / (u.toNat + 1)) ++ [((n % (u.toNat + 1) : Nat) : Int)]
  | [], u, n => by simp [vecZ, prodZ]
  | v :: us, u, n => by
    simp only [List.cons_append, vecZ, vecZ_snoc us u n, prodZ_snoc]
    rw [Nat.div_div_eq_div_mul, Nat.mul_comm (prodZ us)]
theorem vecZ_len : ∀ us n, (vecZ us n).length = us.length
  | [], _ => rfl
  | u :: us, n => by simp [vecZ, vecZ_len us n]
theorem wnat {q : Nat} (h : q ≤ 100000) : wrap64 (q : Int) = (q : Int) := w_id (by omega) (by omega)
theorem vec_ev (us : List Int) (hu : ∀ z ∈ us, inU z) (hl : us.length ≤ 64) : ∀ (i n : Nat) (t : List Int), i + t.length = us.length → n ≤ 100000 →
    Ev (fun k => petrinetref35_Vector.l0 k us n (List.replicate i 0 ++ t) ((i : Int) - 1)) (vecZ (us.take i) n ++ t) := by
  intro i
  induction i with
  | zero =>
    intro n t hi hn
    refine Ev.up (Ev.of fun k => ?_)
    simp only [petrinetref35_Vector.l0]
    rw [if_neg (by omega)]
    simp [vecZ]
  | succ i ih =>
    intro n t hi hn
    have hlt : i < us.length := by omega
    have hz := hu _ (rd_mem hlt)
    simp only [inU, Bool.and_eq_true, decide_eq_true_eq] at hz
    obtain ⟨z, hzd⟩ : ∃ z, z = rd us (i : Int) := ⟨_, rfl⟩
    rw [← hzd] at hz
    have e0 : (((i + 1 : Nat) : Int) - 1) = (i : Int) := by omega
    have e1 : wrap64 (z + 1) = ((z.toNat + 1 : Nat) : Int) := by rw [w_id (by omega) (by omega)]; omega
    have e2 : Int.tdiv (n : Int) ((z.toNat + 1 : Nat) : Int) = ((n / (z.toNat + 1) : Nat) : Int) := by rw [Int.ofNat_tdiv]
    have e3 : Int.tmod (n : Int) ((z.toNat + 1 : Nat) : Int) = ((n % (z.toNat + 1) : Nat) : Int) := by rw [Int.ofNat_tmod]
    have hd : n / (z.toNat + 1) ≤ n := Nat.div_le_self _ _
    have e4 : wrap64 ((n / (z.toNat + 1) : Nat) : Int) = ((n / (z.toNat + 1) : Nat) : Int) := wnat (Nat.le_trans hd hn)
    have e5 : wrap64 ((i : Int) - 1) = (i : Int) - 1 := w_id (by omega) (by omega)
    have e6 : ∀ y : Int, (List.replicate (i + 1) 0 ++ t).set i y = List.replicate i 0 ++ (y :: t) := fun y => by
      rw [List.replicate_succ', List.append_assoc, List.set_append_right _ _ (by simp)]
      simp
    refine Ev.up ?_
    simp only [petrinetref35_Vector.l0, e0, ← hzd, e1, e2, e3, e4, e5, Int.toNat_natCast, e6, ge_iff_le, if_pos (show (0 : Int) ≤ (i : Int) by omega), if_pos (show (i : Int) < (us.length : Int) by omega), if_neg (show ¬ (((z.toNat + 1 : Nat) : Int)) = 0 by omega)]
    rw [show ((List.replicate (i + 1) (0 : Int) ++ t).length : Int) = us.length from by simp; omega]
    simp only [if_pos (show (i : Int) < (us.length : Int) by omega)]
    have hlen : i + ((((n % (z.toNat + 1) : Nat) : Int)) :: t).length = us.length := by rw [List.length_cons]; omega
    refine Ev.cast (ih (n / (z.toNat + 1)) ((((n % (z.toNat + 1) : Nat) : Int)) :: t) hlen (Nat.le_trans hd hn)) ?_
    have e7 : us.take (i + 1) = us.take i ++ [z] := by
      rw [List.take_succ_eq_append_getElem hlt, hzd, rd_nat, List.getD_eq_getElem?_getD, List.getElem?_eq_getElem hlt]; rfl
    rw [e7, vecZ_snoc]; simp
theorem vector_ev {us : List Int} (hu : ∀ z ∈ us, inU z) (hl : us.length ≤ 64) (n : Nat) (hn : n ≤ 100000) : Ev (fun k => petrinetref35_Vector.f k us n) (vecZ us n) := by
  have e : wrap64 ((us.length : Int) - 1) = (us.length : Int) - 1 := w_id (by omega) (by omega)
  have := vec_ev us hu hl us.length n [] (by simp) hn
  simp only [petrinetref35_Vector.f, if_pos (show (0 : Int) ≤ (us.length : Int) by omega), Int.toNat_natCast, if_pos (show us.length ≤ 35184372088832 by omega), e]
  simpa using this

theorem is1_ev (a : List (List Int)) (b x : List Int) (i : Nat) (hi : i < a.length) (hb : i < b.length) (ha : a.length ≤ 64) (hr : (rd_L1 a i).length = x.length) (hl : x.length ≤ 64) (hz : ∀ z ∈ rd_L1 a i, -10000 ≤ z ∧ z ≤ 10000) (hx : ∀ z ∈ x, 0 ≤ z ∧ z ≤ 1000) (V : Bool) (hV : Ev (fun k => petrinetref35_Is.l0 k a b x ((i + 1 : Nat) : Int)) V) :
    ∀ (m j : Nat) (s : Int), j + m = x.length → -(10000000 * (j : Int)) ≤ s → s ≤ 10000000 * (j : Int) → Ev (fun k => petrinetref35_Is.l1 k a b x i s j) (if s + dot ((rd_L1 a i).drop j) (x.drop j) = rd b i then V else false) := by
  intro m
  induction m with
  | zero =>
    intro j s hj h1 h2
    refine Ev.up ?_
    simp only [petrinetref35_Is.l1, if_pos (show (0 : Int) ≤ (i : Int) by omega), if_pos (show (i : Int) < (b.length : Int) by omega), if_neg (show ¬ (j : Int) < (x.length : Int) by omega), w_succ (show i < 9223372036854775807 by omega)]
    have e : dot ((rd_L1 a i).drop j) (x.drop j) = 0 := by rw [List.drop_of_length_le (by omega), List.drop_of_length_le (by omega)]; rfl
    rw [e, Int.add_zero]
    by_cases hc : s = rd b i
    · simp only [if_pos hc]; exact hV
    · simp only [if_neg hc]; exact Ev.of fun _ => rfl
  | succ m ih =>
    intro j s hj h1 h2
    have hlt : j < x.length := by omega
    have hlt2 : j < (rd_L1 a i).length := by omega
    obtain ⟨z, hzd⟩ : ∃ z, z = rd (rd_L1 a i) (j : Int) := ⟨_, rfl⟩
    obtain ⟨y, hyd⟩ : ∃ y, y = rd x (j : Int) := ⟨_, rfl⟩
    have b1 := hz z (by rw [hzd]; exact rd_mem hlt2)
    have b2 := hx y (by rw [hyd]; exact rd_mem hlt)
    have b3 := mul_bound (k := z) (z := y) 10000 1000 b1 ⟨by omega, by omega⟩
    have e1 : wrap64 (z * y) = z * y := w_id (by omega) (by omega)
    have e2 : wrap64 (s + z * y) = s + z * y := w_id (by omega) (by omega)
    refine Ev.up ?_
    simp only [petrinetref35_Is.l1, ← hzd, ← hyd, e1, e2, if_pos (show (0 : Int) ≤ (i : Int) by omega), if_pos (show (0 : Int) ≤ (j : Int) by omega), if_pos (show (i : Int) < (a.length : Int) by omega), if_pos (show (j : Int) < (x.length : Int) by omega), if_pos (show (j : Int) < ((rd_L1 a i).length : Int) by omega), w_succ (show j < 9223372036854775807 by omega)]
    refine (ih (j + 1) (s + z * y) (by omega) (by omega) (by omega)).cast ?_
    rw [drop_rd hlt, drop_rd hlt2, ← hzd, ← hyd, dot, Int.add_assoc]
theorem is0_ev (a : List (List Int)) (b x : List Int) (hab : a.length = b.length) (ha : a.length ≤ 64) (hr : ∀ r ∈ a, r.length = x.length) (hl : x.length ≤ 64) (hz : ∀ r ∈ a, ∀ z ∈ r, -10000 ≤ z ∧ z ≤ 10000) (hx : ∀ z ∈ x, 0 ≤ z ∧ z ≤ 1000) :
    ∀ (m i : Nat), i + m = a.length → Ev (fun k => petrinetref35_Is.l0 k a b x i) ((Hy.leftOf (a.drop i) (b.drop i) x).all (· == 0)) := by
  intro m
  induction m with
  | zero =>
    intro i hi
    refine Ev.up ?_
    simp only [petrinetref35_Is.l0, if_neg (show ¬ (i : Int) < (a.length : Int) by omega)]
    rw [List.drop_of_length_le (by omega), List.drop_of_length_le (by omega)]
    exact Ev.of fun _ => rfl
  | succ m ih =>
    intro i hi
    have h1 : i < a.length := by omega
    have h2 : i < b.length := by omega
    refine Ev.up ?_
    simp only [petrinetref35_Is.l0, if_pos (show (i : Int) < (a.length : Int) by omega)]
    refine (is1_ev a b x i h1 h2 ha (hr _ (rdL_mem h1)) hl (hz _ (rdL_mem h1)) hx _ (ih (i + 1) (by omega)) x.length 0 0 (by omega) (by omega) (by omega)).cast ?_
    rw [drop_rdL h1, drop_rd h2]
    simp only [Hy.leftOf, List.zipWith_cons_cons, List.all_cons, List.drop_zero, Int.zero_add]
    by_cases hc : dot (rd_L1 a i) x = rd b i
    · rw [if_pos hc, hc, Int.sub_self]; rfl
    · rw [if_neg hc]
      have : (rd b (i : Int) - dot (rd_L1 a i) x == 0) = false := by simp; omega
      rw [this]; rfl
theorem is_ev {a : List (List Int)} {b u x : List Int} (hok : okN a b u) (hl : x.length = u.length) (hx : ∀ z ∈ x, 0 ≤ z ∧ z ≤ 1000) : Ev (fun k => petrinetref35_Is.f k a b x) (isSol a b x) := by
  obtain ⟨⟨h1, h2, h3, h4⟩, h5, h6, h7, h8, _⟩ := hok
  exact is0_ev a b x h3 h4 (fun r hr => (h5 r hr).trans hl.symm) (by omega) h6 hx a.length 0 (by omega)
theorem vecZ_in : ∀ (us : List Int) (n : Nat), (∀ z ∈ us, inU z) → ∀ z ∈ vecZ us n, 0 ≤ z ∧ z ≤ 1000
  | [], _, _, z, hz => by simp [vecZ] at hz
  | u :: us, n, hu, z, hz => by
    rw [vecZ, List.mem_cons] at hz
    rcases hz with rfl | hz
    · have h1 := hu u List.mem_cons_self
      simp only [inU, Bool.and_eq_true, decide_eq_true_eq] at h1
      have := Nat.mod_lt (n / prodZ us) (Nat.succ_pos u.toNat)
      generalize n / prodZ us % (u.toNat + 1) = q at *
      omega
    · exact vecZ_in us n (fun z hz => hu z (List.mem_cons_of_mem _ hz)) z hz
def restN (a : List (List Int)) (b u : List Int) (n m : Nat) : List (List Int) := ((List.range' n m).map (vecZ u)).filter (isSol a b)
theorem restN_all (a : List (List Int)) (b u : List Int) : restN a b u 0 (prodZ u) = sols a b u [] := by rw [sols_eq, restN, ← List.range_eq_range']
theorem restN_succ (a : List (List Int)) (b u : List Int) (n m : Nat) : restN a b u n (m + 1) = if isSol a b (vecZ u n) then vecZ u n :: restN a b u (n + 1) m else restN a b u (n + 1) m := by
  simp only [restN, List.range'_succ, List.map_cons, List.filter_cons]
theorem count_ev {a : List (List Int)} {b u : List Int} (hok : okN a b u) (hp : prodZ u ≤ 100000) : ∀ (m n c : Nat), n + m = prodZ u → c ≤ n →
    Ev (fun k => petrinetref35_Count.l0 k a b u c n) ((((c + (restN a b u n m).length : Nat) : Int)), 0) := by
  have hu := ok_inU hok
  have hl := hok.1.2.1
  intro m
  induction m with
  | zero =>
    intro n c hn hc
    refine Ev.up ?_
    simp only [petrinetref35_Count.l0]
    refine Ev.bind (product_ev hu hl hp) ?_
    simp only [if_neg (show ¬ (n : Int) < (prodZ u : Int) by omega)]
    exact Ev.of fun _ => rfl
  | succ m ih =>
    intro n c hn hc
    refine Ev.up ?_
    simp only [petrinetref35_Count.l0]
    refine Ev.bind (product_ev hu hl hp) ?_
    simp only [if_pos (show (n : Int) < (prodZ u : Int) by omega), w_succ (show n < 9223372036854775807 by omega), w_succ (show c < 9223372036854775807 by omega)]
    refine Ev.bind (vector_ev hu hl n (by omega)) ?_
    refine Ev.bind (is_ev hok (vecZ_len _ _) (vecZ_in u n hu)) ?_
    rw [restN_succ]
    by_cases h : isSol a b (vecZ u n) = true
    · simp only [if_pos h]
      refine (ih (n + 1) (c + 1) (by omega) (by omega)).cast ?_
      rw [List.length_cons, Nat.add_assoc, Nat.add_comm 1]
    · simp only [if_neg h]
      exact ih (n + 1) c (by omega) (by omega)
theorem all_ev {a : List (List Int)} {b u : List Int} (hok : okN a b u) (hp : prodZ u ≤ 100000) (L : Nat) (hL : L ≤ 1000) : ∀ (m n : Nat) (out : List (List Int)), n + m = prodZ u → out.length ≤ L →
    Ev (fun k => petrinetref35_All.l0 k a b u L out n) (out ++ (restN a b u n m).take (L - out.length), 0) := by
  have hu := ok_inU hok
  have hl := hok.1.2.1
  intro m
  induction m with
  | zero =>
    intro n out hn hc
    refine Ev.up ?_
    simp only [petrinetref35_All.l0]
    refine Ev.bind (product_ev hu hl hp) ?_
    simp only [if_neg (show ¬ (n : Int) < (prodZ u : Int) by omega)]
    exact Ev.up (Ev.of fun _ => by simp [petrinetref35_All.j2, restN])
  | succ m ih =>
    intro n out hn hc
    refine Ev.up ?_
    simp only [petrinetref35_All.l0]
    refine Ev.bind (product_ev hu hl hp) ?_
    simp only [if_pos (show (n : Int) < (prodZ u : Int) by omega)]
    refine Ev.up ?_
    by_cases hlt : (out.length : Int) < (L : Int)
    · simp only [petrinetref35_All.j2, decide_eq_true hlt, if_true, w_succ (show n < 9223372036854775807 by omega)]
      refine Ev.bind (vector_ev hu hl n (by omega)) ?_
      refine Ev.bind (is_ev hok (vecZ_len _ _) (vecZ_in u n hu)) ?_
      rw [restN_succ]
      by_cases h : isSol a b (vecZ u n) = true
      · simp only [if_pos h, if_pos (show out.length < 5864062014805 by omega)]
        refine (ih (n + 1) (out ++ [vecZ u n]) (by omega) (by rw [List.length_append, List.length_singleton]; omega)).cast ?_
        have e : L - out.length = (L - (out ++ [vecZ u n]).length) + 1 := by rw [List.length_append, List.length_singleton]; omega
        rw [e, List.take_succ_cons, List.append_assoc]
        rfl
      · simp only [if_neg h]
        exact ih (n + 1) out (by omega) hc
    · simp only [petrinetref35_All.j2, decide_eq_false hlt, if_neg (show ¬ (false = true) by decide)]
      have e : L - out.length = 0 := by omega
      rw [e, List.take_zero, List.append_nil]
      exact Ev.of fun _ => rfl
def allRes (a : List (List Int)) (b u : List Int) (n : Int) : List (List Int) × Int :=
  if chk a b u = 0 then (if n < 1 ∨ 1000 < n then ([], 1) else ((sols a b u []).take n.toNat, 0)) else ([], chk a b u)
theorem refAll_ev (a : List (List Int)) (b u : List Int) (n : Int) : Ev (fun k => petrinetref35_All.f k a b u n) (allRes a b u n) := by
  simp only [petrinetref35_All.f]
  refine Ev.bind (refCheck_ev a b u) ?_
  unfold allRes
  by_cases hc : chk a b u = 0
  · simp only [if_pos hc]
    by_cases h1 : n < 1
    · simp only [if_pos h1, if_pos (show n < 1 ∨ 1000 < n from .inl h1)]
      exact Ev.up (Ev.of fun _ => by simp [petrinetref35_All.j0])
    · by_cases h2 : 1000 < n
      · simp only [if_neg h1, if_pos (show n < 1 ∨ 1000 < n from .inr h2), decide_eq_true (show n > 1000 from h2)]
        exact Ev.up (Ev.of fun _ => by simp [petrinetref35_All.j0])
      · simp only [if_neg h1, if_neg (show ¬ (n < 1 ∨ 1000 < n) by omega), decide_eq_false (show ¬ n > 1000 from h2)]
        obtain ⟨L, rfl⟩ : ∃ L : Nat, n = (L : Int) := ⟨n.toNat, by omega⟩
        obtain ⟨hok, hp⟩ := chk_ok hc
        refine Ev.up ?_
        simp only [petrinetref35_All.j0, if_neg (show ¬ (false = true) by decide)]
        refine (all_ev hok hp L (by omega) (prodZ u) 0 [] (by omega) (by simp)).cast ?_
        rw [restN_all]; rfl
  · simp only [if_neg hc]
    refine Ev.bind (refCheck_ev a b u) ?_
    exact Ev.of fun _ => rfl
theorem natAll_ev (a : List (List Int)) (b u : List Int) (n : Int) : Ev (fun k => natural_All.f k a b u n) (allRes a b u n) := by
  simp only [natural_All.f]
  refine Ev.bind (natCheck_ev a b u) ?_
  unfold allRes
  by_cases hc : chk a b u = 0
  · simp only [if_pos hc]
    by_cases h1 : n < 1 ∨ 1000 < n
    · simp only [if_pos h1]; exact Ev.of fun _ => rfl
    · simp only [if_neg h1, if_pos (chk_ok hc).1]; exact Ev.of fun _ => rfl
  · simp only [if_neg hc]; exact Ev.of fun _ => rfl
def countRes (a : List (List Int)) (b u : List Int) : Int × Int :=
  if chk a b u = 0 then (((sols a b u []).length : Int), 0) else (0, chk a b u)
theorem refCount_ev (a : List (List Int)) (b u : List Int) : Ev (fun k => petrinetref35_Count.f k a b u) (countRes a b u) := by
  simp only [petrinetref35_Count.f]
  refine Ev.bind (refCheck_ev a b u) ?_
  unfold countRes
  by_cases hc : chk a b u = 0
  · simp only [if_pos hc]
    obtain ⟨hok, hp⟩ := chk_ok hc
    refine (count_ev hok hp (prodZ u) 0 0 (by omega) (by omega)).cast ?_
    rw [restN_all, Nat.zero_add]
  · simp only [if_neg hc]
    refine Ev.bind (refCheck_ev a b u) ?_
    exact Ev.of fun _ => rfl
theorem natCount_ev (a : List (List Int)) (b u : List Int) : Ev (fun k => natural_Count.f k a b u) (countRes a b u) := by
  simp only [natural_Count.f]
  refine Ev.bind (natCheck_ev a b u) ?_
  unfold countRes
  by_cases hc : chk a b u = 0
  · simp only [if_pos hc, if_pos (chk_ok hc).1]; exact Ev.of fun _ => rfl
  · simp only [if_neg hc]; exact Ev.of fun _ => rfl
def solveRes (a : List (List Int)) (b u : List Int) : List Int × Bool × Int :=
  if chk a b u = 0 then ((solRes (sols a b u [])).1, (solRes (sols a b u [])).2, 0) else ([], false, chk a b u)
theorem natSolve_ev (a : List (List Int)) (b u : List Int) : Ev (fun k => natural_Solve.f k a b u) (solveRes a b u) := by
  simp only [natural_Solve.f]
  refine Ev.bind (natCheck_ev a b u) ?_
  unfold solveRes
  by_cases hc : chk a b u = 0
  · simp only [if_pos hc, if_pos (chk_ok hc).1]; exact Ev.of fun _ => rfl
  · simp only [if_neg hc]; exact Ev.of fun _ => rfl
theorem refSolve_ev (a : List (List Int)) (b u : List Int) : Ev (fun k => petrinetref35_Solve.f k a b u) (solveRes a b u) := by
  simp only [petrinetref35_Solve.f]
  refine Ev.bind (refAll_ev a b u 1) ?_
  unfold allRes solveRes
  by_cases hc : chk a b u = 0
  · simp only [if_pos hc, if_neg (show ¬ ((1 : Int) < 1 ∨ (1000 : Int) < 1) by decide)]
    cases hs : sols a b u [] with
    | nil => exact Ev.of fun _ => rfl
    | cons x l => exact Ev.of fun _ => rfl
  · simp only [if_neg hc]; exact Ev.of fun _ => rfl
theorem same_ev (x y : List Int) (hx : x.length ≤ 64) : Ev (fun k => petrinetref35_Same.f k x y) (x == y) := by
  simp only [petrinetref35_Same.f]
  by_cases h : (x.length : Int) = (y.length : Int)
  · simp only [if_pos h]
    have key : ∀ (m i : Nat), i + m = x.length → Ev (fun k => petrinetref35_Same.l0 k x y i) (x.drop i == y.drop i) := by
      intro m
      induction m with
      | zero =>
        intro i hi
        refine Ev.up ?_
        simp only [petrinetref35_Same.l0, if_neg (show ¬ (i : Int) < (x.length : Int) by omega)]
        rw [List.drop_of_length_le (by omega), List.drop_of_length_le (by omega)]
        exact Ev.of fun _ => rfl
      | succ m ih =>
        intro i hi
        refine Ev.up ?_
        simp only [petrinetref35_Same.l0, if_pos (show (i : Int) < (x.length : Int) by omega), if_pos (show (0 : Int) ≤ (i : Int) by omega), if_pos (show (i : Int) < (y.length : Int) by omega), w_succ (show i < 9223372036854775807 by omega)]
        rw [drop_rd (show i < x.length by omega), drop_rd (show i < y.length by omega)]
        by_cases hc : rd x i = rd y i
        · simp only [if_pos hc]
          refine (ih (i + 1) (by omega)).cast ?_
          rw [hc]; simp
        · simp only [if_neg hc]
          refine Ev.of fun _ => ?_
          simp [hc]
    exact key x.length 0 (by omega)
  · simp only [if_neg h]
    refine Ev.of fun _ => ?_
    have : (x == y) = false := by
      rw [beq_eq_false_iff_ne]; rintro rfl; exact h rfl
    rw [this]
theorem alive_ev : Ev (fun k => petrinetlaw35_alive.f k) true := by
  simp only [petrinetlaw35_alive.f, Option.bind_some]
  have hc : chk [[1, 1]] [2] [2, 2] = 0 := by decide +kernel
  have hs : sols [[1, 1]] [2] [2, 2] [] = [[0, 2], [1, 1], [2, 0]] := by decide +kernel
  have h1 : solveRes [[1, 1]] [2] [2, 2] = ([0, 2], true, 0) := by unfold solveRes; rw [if_pos hc, hs]; rfl
  have h2 : countRes [[1, 1]] [2] [2, 2] = (3, 0) := by unfold countRes; rw [if_pos hc, hs]; rfl
  refine Ev.bind (natSolve_ev _ _ _) ?_
  refine Ev.bind (natCount_ev _ _ _) ?_
  rw [h1, h2]
  simp only [if_true]
  refine Ev.bind (same_ev _ _ (by decide)) ?_
  exact Ev.of fun _ => rfl
theorem few_ev (a : List (List Int)) (b u : List Int) : ∃ v, Ev (fun k => petrinetlaw35_few.f k a b u) v := by
  have fin : ∀ i : Nat, ∃ v, Ev (fun k => petrinetlaw35_few.j1 k i false a b u) v := by
    intro i
    by_cases h1 : (a.length : Int) ≤ 70
    · by_cases h2 : (b.length : Int) ≤ 70
      · by_cases h3 : (u.length : Int) ≤ 70
        · by_cases hc : chk a b u = 0
          · obtain ⟨hok, hp⟩ := chk_ok hc
            refine ⟨decide ((prodZ u : Int) ≤ 3000), Ev.up ?_⟩
            · simp only [petrinetlaw35_few.j1, if_neg (show ¬ (false = true) by decide), if_pos h1, if_pos h2, if_pos h3]
              refine Ev.bind (refCheck_ev a b u) ?_
              simp only [if_pos hc]
              refine Ev.bind (product_ev (ok_inU hok) hok.1.2.1 hp) ?_
              exact Ev.of fun _ => rfl
          · refine ⟨true, Ev.up ?_⟩
            simp only [petrinetlaw35_few.j1, if_neg (show ¬ (false = true) by decide), if_pos h1, if_pos h2, if_pos h3]
            refine Ev.bind (refCheck_ev a b u) ?_
            simp only [if_neg hc]
            exact Ev.of fun _ => rfl
        · exact ⟨false, Ev.up (Ev.of fun _ => by simp only [petrinetlaw35_few.j1, if_neg (show ¬ (false = true) by decide), if_pos h1, if_pos h2, if_neg h3])⟩
      · exact ⟨false, Ev.up (Ev.of fun _ => by simp only [petrinetlaw35_few.j1, if_neg (show ¬ (false = true) by decide), if_pos h1, if_neg h2])⟩
    · exact ⟨false, Ev.up (Ev.of fun _ => by simp only [petrinetlaw35_few.j1, if_neg (show ¬ (false = true) by decide), if_neg h1])⟩
  have key : ∀ (m i : Nat), i + m = 71 → ∃ v, Ev (fun k => petrinetlaw35_few.l0 k i a b u) v := by
    intro m
    induction m with
    | zero =>
      intro i hi
      obtain ⟨v, hv⟩ := fin i
      refine ⟨v, Ev.up ?_⟩
      by_cases hlt : (i : Int) < (a.length : Int)
      · simp only [petrinetlaw35_few.l0, if_pos hlt, decide_eq_false (show ¬ (i : Int) < 71 by omega)]; exact hv
      · simp only [petrinetlaw35_few.l0, if_neg hlt]; exact hv
    | succ m ih =>
      intro i hi
      by_cases hlt : (i : Int) < (a.length : Int)
      · by_cases hr : ((rd_L1 a i).length : Int) > 70
        · refine ⟨false, Ev.up ?_⟩
          simp only [petrinetlaw35_few.l0, if_pos hlt, decide_eq_true (show (i : Int) < 71 by omega)]
          refine Ev.up ?_
          simp only [petrinetlaw35_few.j1, if_true, if_pos (show (0 : Int) ≤ (i : Int) by omega), if_pos hlt, if_pos hr]
          exact Ev.of fun _ => rfl
        · obtain ⟨v, hv⟩ := ih (i + 1) (by omega)
          refine ⟨v, Ev.up ?_⟩
          simp only [petrinetlaw35_few.l0, if_pos hlt, decide_eq_true (show (i : Int) < 71 by omega)]
          refine Ev.up ?_
          simp only [petrinetlaw35_few.j1, if_true, if_pos (show (0 : Int) ≤ (i : Int) by omega), if_pos hlt, if_neg hr, w_succ (show i < 9223372036854775807 by omega)]
          exact hv
      · obtain ⟨v, hv⟩ := fin i
        refine ⟨v, Ev.up ?_⟩
        simp only [petrinetlaw35_few.l0, if_neg hlt]; exact hv
  exact key 71 0 (by omega)

/-! ### the laws -/
theorem checks_ev (a : List (List Int)) (b u : List Int) : Ev (fun k => petrinetlaw35_NaturalChecks.f k a b u) true := by
  obtain ⟨v, hv⟩ := few_ev a b u
  simp only [petrinetlaw35_NaturalChecks.f]
  refine Ev.bind hv ?_
  cases v with
  | false => simp only [if_neg (show ¬ (false = true) by decide)]; exact Ev.bind alive_ev (Ev.of fun _ => rfl)
  | true =>
    simp only [if_true]
    refine Ev.bind (natCheck_ev a b u) ?_
    refine Ev.bind (refCheck_ev a b u) ?_
    simp only [if_true]
    exact Ev.bind alive_ev (Ev.of fun _ => rfl)
theorem solveRes_len (a : List (List Int)) (b u : List Int) : (solveRes a b u).1.length ≤ 64 := by
  unfold solveRes
  split
  · rename_i hc
    have hok := (chk_ok hc).1
    cases hs : sols a b u [] with
    | nil => simp [solRes]
    | cons x l =>
      have := sols_len a b u [] x (by rw [hs]; exact List.mem_cons_self)
      have h2 := hok.1.2.1
      simp only [solRes]
      simp at this
      omega
  · simp
theorem solves_ev (a : List (List Int)) (b u : List Int) : Ev (fun k => petrinetlaw35_NaturalSolves.f k a b u) true := by
  obtain ⟨v, hv⟩ := few_ev a b u
  simp only [petrinetlaw35_NaturalSolves.f]
  refine Ev.bind hv ?_
  cases v with
  | false => simp only [if_neg (show ¬ (false = true) by decide)]; exact Ev.bind alive_ev (Ev.of fun _ => rfl)
  | true =>
    simp only [if_true]
    refine Ev.bind (natSolve_ev a b u) ?_
    refine Ev.bind (refSolve_ev a b u) ?_
    refine Ev.bind (same_ev _ _ (solveRes_len a b u)) ?_
    simp only [beq_self_eq_true, if_true]
    exact Ev.bind alive_ev (Ev.of fun _ => rfl)
theorem counts_ev (a : List (List Int)) (b u : List Int) : Ev (fun k => petrinetlaw35_NaturalCounts.f k a b u) true := by
  obtain ⟨v, hv⟩ := few_ev a b u
  simp only [petrinetlaw35_NaturalCounts.f]
  refine Ev.bind hv ?_
  cases v with
  | false => simp only [if_neg (show ¬ (false = true) by decide)]; exact Ev.bind alive_ev (Ev.of fun _ => rfl)
  | true =>
    simp only [if_true]
    refine Ev.bind (natCount_ev a b u) ?_
    refine Ev.bind (refCount_ev a b u) ?_
    simp only [if_true]
    exact Ev.bind alive_ev (Ev.of fun _ => rfl)
theorem allRes_len (a : List (List Int)) (b u : List Int) (n : Int) : (allRes a b u n).1.length ≤ 1000 ∧ ∀ x ∈ (allRes a b u n).1, x.length ≤ 64 := by
  unfold allRes
  split
  · rename_i hc
    have hok := (chk_ok hc).1
    split
    · simp
    · rename_i h1
      refine ⟨by rw [List.length_take]; omega, fun x hx => ?_⟩
      have := sols_len a b u [] x (List.mem_of_mem_take hx)
      have h2 := hok.1.2.1
      simp at this
      omega
  · simp
theorem alls_loop (l : List (List Int)) (hl : l.length ≤ 1000) (hx : ∀ x ∈ l, x.length ≤ 64) : ∀ (m i : Nat), i + m = l.length → Ev (fun k => petrinetlaw35_NaturalAlls.l0 k l l i) true := by
  intro m
  induction m with
  | zero =>
    intro i hi
    refine Ev.up ?_
    simp only [petrinetlaw35_NaturalAlls.l0, if_neg (show ¬ (i : Int) < (l.length : Int) by omega)]
    exact Ev.bind alive_ev (Ev.of fun _ => rfl)
  | succ m ih =>
    intro i hi
    have h1 : i < l.length := by omega
    refine Ev.up ?_
    simp only [petrinetlaw35_NaturalAlls.l0, if_pos (show (i : Int) < (l.length : Int) by omega), if_pos (show (0 : Int) ≤ (i : Int) by omega), w_succ (show i < 9223372036854775807 by omega)]
    refine Ev.bind (same_ev _ _ (hx _ (rdL_mem h1))) ?_
    simp only [beq_self_eq_true, if_true]
    exact ih (i + 1) (by omega)
theorem alls_ev (a : List (List Int)) (b u : List Int) (n : Int) : Ev (fun k => petrinetlaw35_NaturalAlls.f k a b u n) true := by
  obtain ⟨v, hv⟩ := few_ev a b u
  simp only [petrinetlaw35_NaturalAlls.f]
  refine Ev.bind hv ?_
  cases v with
  | false => simp only [if_neg (show ¬ (false = true) by decide)]; exact Ev.bind alive_ev (Ev.of fun _ => rfl)
  | true =>
    simp only [if_true]
    refine Ev.bind (natAll_ev a b u n) ?_
    refine Ev.bind (refAll_ev a b u n) ?_
    have hne : ((allRes a b u n).2 != (allRes a b u n).2) = false := by simp
    simp only [if_true, hne]
    refine Ev.up ?_
    simp only [petrinetlaw35_NaturalAlls.j0, if_neg (show ¬ (false = true) by decide)]
    exact alls_loop _ (allRes_len a b u n).1 (allRes_len a b u n).2 (allRes a b u n).1.length 0 (by omega)

end Go.Proofs.Ytlckejjmkjgknab.Pure
