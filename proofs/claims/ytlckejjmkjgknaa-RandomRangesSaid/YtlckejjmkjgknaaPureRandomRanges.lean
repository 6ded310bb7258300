/- For every state, number and list of at most 80 weights: outputs lie in their ranges, a chosen index has a positive weight, and a permutation has each number once. No condition. -/
import Derived.Test.YtlckejjmkjgknaaH5
import Derived.Laws.BitsAllLaws
import Derived.OpenShut
namespace Go.Proofs.Ytlckejjmkjgknaa.Pure
open Go.RowKit Go.Proofs.Ytlckejjmkjgknaa.Hy Go.Proofs.YtlckejjmkjgknaaW.PrintWords Go.Proofs.YtlckejjmkjgknaaW.PrintLast Go.Proofs.YtlckejjmkjgknaaW.PrintMore
/-! ### numbers -/
/-- the reference's loop over bits -/
def xl : Nat → Nat → Nat → Nat → Nat → Nat
  | 0, n, _, _, _ => n
  | d + 1, n, u, a, b => xl d (if a % 2 ≠ b % 2 then n + u else n) (2 * u) (a / 2) (b / 2)
theorem xor_half (a b : Nat) : (a ^^^ b) = 2 * (a / 2 ^^^ b / 2) + (if a % 2 ≠ b % 2 then 1 else 0) := by
  have h1 : (a ^^^ b) / 2 = a / 2 ^^^ b / 2 := Nat.xor_div_two ..
  have h2 := Nat.xor_mod_two_eq_one (a := a) (b := b)
  split <;> omega
theorem xl_eq (d : Nat) : ∀ n u a b, xl d n u a b = n + u * ((a ^^^ b) % 2 ^ d) := by
  induction d with
  | zero => intro n u a b; simp [xl, Nat.mod_one]
  | succ d ih =>
    intro n u a b
    rw [xl, ih]
    have h := xor_half a b
    have e : (a ^^^ b) % 2 ^ (d + 1) = 2 * ((a / 2 ^^^ b / 2) % 2 ^ d) + (if a % 2 ≠ b % 2 then 1 else 0) := by
      have h2 : (2 : Nat) ^ (d + 1) = 2 * 2 ^ d := by rw [Nat.pow_succ, Nat.mul_comm]
      have h3 := Nat.div_add_mod (a / 2 ^^^ b / 2) (2 ^ d)
      have h4 := Nat.mod_lt (a / 2 ^^^ b / 2) (Nat.two_pow_pos d)
      rw [h, h2]
      obtain ⟨c, hc, hc1⟩ : ∃ c, (if a % 2 ≠ b % 2 then 1 else 0) = c ∧ c ≤ 1 := ⟨_, rfl, by split <;> omega⟩
      rw [hc]
      generalize a / 2 ^^^ b / 2 = z at *
      generalize 2 ^ d = P at *
      have e2 : 2 * z + c = (2 * (z % P) + c) + (2 * P) * (z / P) := by
        have : (2 * P) * (z / P) = 2 * (P * (z / P)) := by rw [Nat.mul_assoc]
        omega
      rw [e2, Nat.add_mul_mod_self_left, Nat.mod_eq_of_lt (by omega)]
    rw [e]
    split <;> simp [Nat.mul_add] <;> grind
theorem w64_id {x : Int} (h0 : -9223372036854775808 ≤ x) (h1 : x < 9223372036854775808) : wrap64 x = x := by unfold wrap64; omega
theorem wu64 (x : Int) : IntKind.u64.wrap x = x % 18446744073709551616 := by rw [IntKind.wrap_u64]
theorem wu64_id {x : Int} (h0 : 0 ≤ x) (h1 : x < 18446744073709551616) : IntKind.u64.wrap x = x := by rw [wu64]; omega
/-- a step, on natural numbers: chosen, so that nothing unfolds it -/
theorem stp_ex : ∃ f : Nat → Nat, ∀ s, f s = (s * 6364136223846793005 % 18446744073709551616 + 1442695040888963407) % 18446744073709551616 := ⟨_, fun _ => rfl⟩
noncomputable def stp : Nat → Nat := Classical.choose stp_ex
theorem stp_is (s : Nat) : stp s = (s * 6364136223846793005 % 18446744073709551616 + 1442695040888963407) % 18446744073709551616 := Classical.choose_spec stp_ex s
theorem stp_lt (s : Nat) : stp s < 18446744073709551616 := by rw [stp_is]; exact Nat.mod_lt _ (by decide)
theorem step_eq (s : Nat) : random_step.f (s : Int) = some ((stp s : Nat) : Int) := by
  rw [stp_is]; simp only [random_step.f, wu64]; congr 1
/-- what a state gives -/
theorem outp_ex : ∃ f : Nat → Nat, ∀ s, f s = ((s / 8589934592) ^^^ (s / 32768)) % 2147483648 := ⟨_, fun _ => rfl⟩
noncomputable def outp : Nat → Nat := Classical.choose outp_ex
theorem outp_is (s : Nat) : outp s = ((s / 8589934592) ^^^ (s / 32768)) % 2147483648 := Classical.choose_spec outp_ex s
theorem outp_lt (s : Nat) : outp s < 2147483648 := by rw [outp_is]; exact Nat.mod_lt _ (by decide)
theorem next_eq (s : Nat) : random_Next.f (s : Int) = some (((outp (stp s) : Nat) : Int), ((stp s : Nat) : Int)) := by
  have hs := stp_lt s
  rw [random_Next.f, step_eq]
  simp only [Option.bind_some]
  have e1 : ((stp s : Nat) : Int) / 8589934592 = ((stp s / 8589934592 : Nat) : Int) := by omega
  have e2 : ((stp s : Nat) : Int) / 32768 = ((stp s / 32768 : Nat) : Int) := by omega
  have hx : stp s / 8589934592 ^^^ stp s / 32768 < 2 ^ 64 := Nat.xor_lt_two_pow (by omega) (by omega)
  rw [e1, e2, u64_xor_nat _ _ (by omega) (by omega)]
  have e3 : (2147483647 : Int) = ((2147483647 : Nat) : Int) := rfl
  rw [e3, u64_and_nat _ _ (by omega) (by omega)]
  have e4 : ∀ x : Nat, x &&& 2147483647 = x % 2147483648 := fun x => Nat.and_two_pow_sub_one_eq_mod x 31
  rw [e4, outp_is]
noncomputable def blw (s : Nat) (n : Int) : Int × Int := if n < 1 ∨ n > 2147483647 then (-1, s) else (((outp (stp s) : Nat) : Int) % n, ((stp s : Nat) : Int))
theorem below_eq (s : Nat) (n : Int) : random_Below.f (s : Int) n = some (blw s n) := by
  have ho := outp_lt (stp s)
  rw [random_Below.f, blw]
  by_cases h1 : n < 1
  · rw [if_pos h1, if_pos (.inl h1)]
  · rw [if_neg h1]
    by_cases h2 : n > 2147483647
    · rw [if_pos h2, if_pos (.inr h2)]
    · rw [if_neg h2, if_neg (by omega), next_eq s]
      simp only [Option.bind_some]
      rw [wu64_id (by omega) (by omega), if_neg (by omega)]
      rw [Int.tmod_eq_emod_of_nonneg (by omega)]
      have := Int.emod_nonneg ((outp (stp s) : Nat) : Int) (show n ≠ 0 by omega)
      have := Int.emod_lt_of_pos ((outp (stp s) : Nat) : Int) (show 0 < n by omega)
      rw [w64_id (by omega) (by omega)]
theorem blw_in (s : Nat) (n : Int) (h1 : 1 ≤ n) (h2 : n ≤ 2147483647) : blw s n = (((outp (stp s) : Nat) : Int) % n, ((stp s : Nat) : Int)) := by
  rw [blw, if_neg (by omega)]

theorem stp_zero : stp 0 = 1442695040888963407 := by rw [stp_is]
theorem outp_zero : outp (stp 0) = 2097107824 := by rw [stp_zero, outp_is]; decide +kernel
theorem blw_zero : blw 1442695040888963407 5 = (0, 1876011003808476466) := by
  have h1 : stp 1442695040888963407 = 1876011003808476466 := by rw [stp_is]
  have h2 : outp 1876011003808476466 = 1361542780 := by rw [outp_is]; decide +kernel
  rw [blw, if_neg (by decide), h1, h2]; decide
theorem next_zero : random_Next.f 0 = some (2097107824, 1442695040888963407) := by
  have := next_eq 0
  rw [outp_zero, stp_zero] at this
  exact this
theorem below_zero : random_Below.f 1442695040888963407 5 = some (0, 1876011003808476466) := by
  have := below_eq 1442695040888963407 5
  rw [blw_zero] at this
  exact this
theorem choose_zero : random_Choose.f 8 1442695040888963407 [0, 5] = some (1, 1876011003808476466) := by
  simp [random_Choose.f, random_Choose.l0, random_Choose.l1, rd, wrap64, below_zero]
theorem alive_eq (k : Nat) (hk : 8 ≤ k) : petrinetlaw52_alive.f k = some true := by
  have hF : random_Choose.f k 1442695040888963407 [0, 5] = some (1, 1876011003808476466) :=
    at_rounds (g := fun k => random_Choose.f k 1442695040888963407 [0, 5]) (fun k => random_Choose.mono _ _ k) hk choose_zero
  rw [petrinetlaw52_alive.f, next_zero, Option.bind_some]
  dsimp only
  rw [hF, Option.bind_some, if_pos rfl, if_pos rfl]
  rfl

/-- the place at which a number falls, the weights in line -/
def idx : List Int → Int → Int → Int
  | [], _, _ => -1
  | w :: ws, x, i => if x < w then i else idx ws (x - w) (i + 1)
def okW (w : Int) : Prop := 0 ≤ w ∧ w ≤ 1000
instance (w : Int) : Decidable (okW w) := inferInstanceAs (Decidable (_ ∧ _))
/-- what is chosen -/
noncomputable def cho (s : Nat) (ws : List Int) : Int × Int :=
  if ws.all (fun w => decide (okW w)) then if ws.sum = 0 then (-1, s) else (idx ws (((outp (stp s) : Nat) : Int) % ws.sum) 0, ((stp s : Nat) : Int)) else (-1, s)
theorem rd_mid (pre : List Int) (w : Int) (rest : List Int) : rd (pre ++ w :: rest) (pre.length : Int) = w := by
  simp [rd]
theorem sum_ok : ∀ ws : List Int, (∀ w ∈ ws, okW w) → 0 ≤ ws.sum ∧ ws.sum ≤ 1000 * ws.length
  | [], _ => by simp
  | w :: ws, h => by
    have h1 := sum_ok ws (fun x hx => h x (List.mem_cons_of_mem _ hx))
    have h2 := h w List.mem_cons_self
    unfold okW at h2
    simp only [List.sum_cons, List.length_cons]
    omega
theorem choose_l1 (s : Int) (x10 : Int) (rest : List Int) : ∀ (pre : List Int) (k : Nat) (x : Int), (pre ++ rest).length ≤ 64 → rest.length < k → (∀ w ∈ rest, okW w) → 0 ≤ x → x < rest.sum →
    random_Choose.l1 k s x x10 (pre ++ rest) ((pre ++ rest).length : Int) (pre.length : Int) = some (idx rest x pre.length, x10) := by
  induction rest with
  | nil => intro pre k x _ _ _ h0 h1; simp at h1; omega
  | cons w rest ih =>
    intro pre k x hl hk hw h0 h1
    obtain ⟨k, rfl⟩ : ∃ m, k = m + 1 := ⟨k - 1, by omega⟩
    have hl' := hl
    simp only [List.length_append, List.length_cons] at hl'
    have hwo := hw w List.mem_cons_self
    unfold okW at hwo
    simp only [random_Choose.l1]
    rw [if_pos (by simp only [List.length_append, List.length_cons]; omega), if_pos (by omega), if_pos (by simp only [List.length_append, List.length_cons]; omega), rd_mid]
    simp only [idx]
    by_cases hx : x < w
    · rw [if_pos hx, if_pos hx]
    · rw [if_neg hx, if_neg hx]
      have hs := sum_ok rest (fun y hy => hw y (List.mem_cons_of_mem _ hy))
      simp only [List.sum_cons] at h1
      rw [w64_id (by omega) (by omega), w64_id (by omega) (by omega)]
      have e1 : pre ++ w :: rest = (pre ++ [w]) ++ rest := by simp
      have e2 : (pre.length : Int) + 1 = ((pre ++ [w]).length : Int) := by simp
      rw [e1, e2]
      exact ih (pre ++ [w]) k (x - w) (by rw [← e1]; exact hl) (by simp only [List.length_cons] at hk; omega) (fun y hy => hw y (List.mem_cons_of_mem _ hy)) (by omega) (by omega)
theorem choose_l0 (s : Nat) (rest : List Int) : ∀ (pre : List Int) (k : Nat), (pre ++ rest).length ≤ 64 → (pre ++ rest).length + rest.length + 2 < k → (∀ w ∈ pre, okW w) →
    random_Choose.l0 k (s : Int) (pre ++ rest) pre.sum (pre ++ rest) ((pre ++ rest).length : Int) (pre.length : Int) = some (cho s (pre ++ rest)) := by
  induction rest with
  | nil =>
    intro pre k hl hk hp
    obtain ⟨k, rfl⟩ : ∃ m, k = m + 1 := ⟨k - 1, by omega⟩
    simp only [List.append_nil, List.length_nil] at *
    have hs := sum_ok pre hp
    have ha : pre.all (fun w => decide (okW w)) = true := by simpa using hp
    simp only [random_Choose.l0, cho]
    rw [if_neg (by omega), if_pos ha]
    by_cases h0 : pre.sum = 0
    · rw [if_pos h0, if_pos h0]
    · rw [if_neg h0, if_neg h0, below_eq, Option.bind_some, blw, if_neg (by omega)]
      have hp1 : 0 < pre.sum := by omega
      have := choose_l1 s ((stp s : Nat) : Int) pre [] k (((outp (stp s) : Nat) : Int) % pre.sum) (by simpa using hl) (by omega) hp (Int.emod_nonneg _ h0) (Int.emod_lt_of_pos _ hp1)
      simpa using this
  | cons w rest ih =>
    intro pre k hl hk hp
    obtain ⟨k, rfl⟩ : ∃ m, k = m + 1 := ⟨k - 1, by omega⟩
    have hs := sum_ok pre hp
    have hl' := hl
    simp only [List.length_append, List.length_cons] at hl' hk
    simp only [random_Choose.l0]
    rw [if_pos (by simp only [List.length_append, List.length_cons]; omega), if_pos (by omega), if_pos (by simp only [List.length_append, List.length_cons]; omega), rd_mid]
    have hno : ¬ okW w → cho s (pre ++ w :: rest) = (-1, (s : Int)) := fun h => by
      rw [cho, if_neg]
      simp only [List.all_append, List.all_cons, decide_eq_false h, Bool.false_and, Bool.and_false]
      decide
    by_cases h1 : w < 0
    · rw [if_pos h1, hno (by unfold okW; omega)]
    by_cases h2 : w > 1000
    · rw [if_neg h1, if_pos h2, hno (by unfold okW; omega)]
    rw [if_neg h1, if_neg h2, w64_id (by omega) (by omega), w64_id (by omega) (by omega)]
    have e1 : pre ++ w :: rest = (pre ++ [w]) ++ rest := by simp
    have e2 : (pre.length : Int) + 1 = ((pre ++ [w]).length : Int) := by simp
    have e3 : pre.sum + w = (pre ++ [w]).sum := by simp
    rw [e1, e2, e3]
    refine ih (pre ++ [w]) k (by rw [← e1]; exact hl) (by rw [← e1]; simp only [List.length_append, List.length_cons]; omega) ?_
    intro y hy
    rcases List.mem_append.1 hy with hy | hy
    · exact hp y hy
    · rw [List.mem_singleton.1 hy]; unfold okW; omega
theorem choose_eq (k s : Nat) (ws : List Int) (hk : 140 ≤ k) : random_Choose.f k (s : Int) ws = some (if (ws.length : Int) > 64 then (-1, (s : Int)) else cho s ws) := by
  rw [random_Choose.f]
  by_cases h : (ws.length : Int) > 64
  · rw [if_pos h, if_pos h]
  · rw [if_neg h, if_neg h]
    have := choose_l0 s ws [] k (by simp; omega) (by simp; omega) (by simp)
    simpa using this

/-! ### exchanges -/
noncomputable def shp : Nat → List Int → Nat → List Int × Nat
  | 0, l, s => (l, s)
  | j + 1, l, s => shp j (swp l (j + 1) (outp (stp s) % (j + 2))) (stp s)
theorem swp_app (A Z : List Int) (i j : Nat) (hi : i < A.length) (hj : j < A.length) : swp (A ++ Z) i j = swp A i j ++ Z := by
  unfold swp
  rw [List.getD_eq_getElem?_getD, List.getD_eq_getElem?_getD, List.getElem?_append_left hi, List.getElem?_append_left hj, List.set_append_left _ _ hi, List.set_append_left _ _ (by simpa using hj), ← List.getD_eq_getElem?_getD, ← List.getD_eq_getElem?_getD]
theorem exch_app (Z : List Int) (j : Nat) : ∀ (A : List Int) (s : Nat), j < A.length → A.length ≤ 64 → exch j (A ++ Z) (s : Int) = some ((shp j A s).1 ++ Z, (((shp j A s).2 : Nat) : Int)) := by
  induction j with
  | zero => intro A s _ _; rfl
  | succ j ih =>
    intro A s hj hl
    have hm : outp (stp s) % (j + 2) < j + 2 := Nat.mod_lt _ (by omega)
    have e : ((outp (stp s) : Nat) : Int) % ((j + 1 : Nat) + 1 : Int) = ((outp (stp s) % (j + 2) : Nat) : Int) := by
      have h : ((j + 1 : Nat) : Int) + 1 = ((j + 2 : Nat) : Int) := by omega
      rw [h, ← Int.natCast_emod]
    rw [exch, below_eq, Option.bind_some, blw_in _ _ (by omega) (by omega)]
    dsimp only
    rw [e, if_pos (by omega), Int.toNat_natCast, swp_app _ _ _ _ hj (by omega)]
    rw [ih _ (stp s) (by rw [swp_len]; omega) (by rw [swp_len]; exact hl)]
    rfl
theorem shp_len (j : Nat) : ∀ (A : List Int) (s : Nat), (shp j A s).1.length = A.length := by
  induction j with
  | zero => intro A s; rfl
  | succ j ih => intro A s; rw [shp, ih, swp_len]
def rg (n : Nat) : List Int := (List.range n).map (fun (i : Nat) => (i : Int))
theorem rg_len (n : Nat) : (rg n).length = n := by simp [rg]
theorem shuffle_f (s : Nat) (n : Int) : random_Shuffle.f (s : Int) n = some (if n < 1 ∨ n > 64 then ([], (s : Int)) else ((shp (n.toNat - 1) (rg n.toNat) s).1, (((shp (n.toNat - 1) (rg n.toNat) s).2 : Nat) : Int))) := by
  rw [random_Shuffle.f]
  by_cases h : n < 1 ∨ n > 64
  · rw [if_pos h, if_pos h]
  · rw [if_neg h, if_neg h]
    have e : ini n.toNat = rg n.toNat ++ List.replicate (64 - n.toNat) 0 := rfl
    rw [e, exch_app _ _ _ s (by rw [rg_len]; omega) (by rw [rg_len]; omega), Option.map_some]
    dsimp only
    rw [List.take_append_of_le_length (by rw [shp_len, rg_len]; omega), List.take_of_length_le (by rw [shp_len, rg_len]; omega)]

theorem idx_spec (rest : List Int) : ∀ (x i : Int), 0 ≤ x → x < rest.sum → ∃ m : Nat, m < rest.length ∧ idx rest x i = i + m ∧ 1 ≤ rest.getD m 0 := by
  induction rest with
  | nil => intro x i h0 h1; simp at h1; omega
  | cons w rest ih =>
    intro x i h0 h1
    simp only [idx]
    by_cases hx : x < w
    · rw [if_pos hx]; exact ⟨0, by simp, by omega, by simp; omega⟩
    · rw [if_neg hx]
      simp only [List.sum_cons] at h1
      obtain ⟨m, h2, h3, h4⟩ := ih (x - w) (i + 1) (by omega) (by omega)
      exact ⟨m + 1, by simp; omega, by rw [h3]; omega, by simpa using h4⟩
noncomputable def rcho (s : Nat) (ws : List Int) : Int × Int := if (ws.length : Int) > 64 then (-1, (s : Int)) else cho s ws
theorem rcho_spec (s : Nat) (ws : List Int) : (rcho s ws).1 < ws.length ∧ (0 ≤ (rcho s ws).1 → 1 ≤ rd ws (rcho s ws).1) := by
  have no : ∀ t : Int, ((-1 : Int), t).1 < ws.length ∧ (0 ≤ ((-1 : Int), t).1 → 1 ≤ rd ws ((-1 : Int), t).1) := fun t => ⟨by show (-1 : Int) < _; omega, fun h => absurd (show (0 : Int) ≤ -1 from h) (by omega)⟩
  unfold rcho
  split
  · exact no _
  · unfold cho
    split
    · rename_i ha
      split
      · exact no _
      · rename_i h0
        have hok : ∀ w ∈ ws, okW w := by simpa using ha
        have hs := sum_ok ws hok
        obtain ⟨m, h1, h2, h3⟩ := idx_spec ws (((outp (stp s) : Nat) : Int) % ws.sum) 0 (Int.emod_nonneg _ h0) (Int.emod_lt_of_pos _ (by omega))
        dsimp only
        rw [h2]
        refine ⟨by omega, fun _ => ?_⟩
        have e : ((0 : Int) + (m : Int)).toNat = m := by omega
        rw [rd, e]; exact h3
    · exact no _
/-- each number at one place -/
def Inj (l : List Int) : Prop := (∀ a, a < l.length → 0 ≤ l.getD a 0 ∧ l.getD a 0 < l.length) ∧ ∀ a b, a < l.length → b < l.length → l.getD a 0 = l.getD b 0 → a = b
theorem swp_at (l : List Int) (i j k : Nat) (hi : i < l.length) (hk : k < l.length) : (swp l i j).getD k 0 = if k = j then l.getD i 0 else if k = i then l.getD j 0 else l.getD k 0 := by
  unfold swp
  simp only [List.getD_eq_getElem?_getD, List.getElem?_set, List.length_set]
  by_cases h1 : j = k
  · subst h1; simp [hk]
  · rw [if_neg h1, if_neg (show ¬ k = j from fun h => h1 h.symm)]
    by_cases h2 : i = k
    · subst h2; simp [hi]
    · rw [if_neg h2, if_neg (show ¬ k = i from fun h => h2 h.symm)]
theorem swp_inj (l : List Int) (i j : Nat) (hi : i < l.length) (hj : j < l.length) (h : Inj l) : Inj (swp l i j) := by
  refine ⟨fun a ha => ?_, fun a b ha hb he => ?_⟩
  · rw [swp_len] at ha ⊢
    rw [swp_at l i j a hi ha]
    split
    · exact h.1 _ hi
    · split
      · exact h.1 _ hj
      · exact h.1 _ ha
  · rw [swp_len] at ha hb
    rw [swp_at l i j a hi ha, swp_at l i j b hi hb] at he
    split at he <;> split at he <;> (try split at he) <;> (try split at he) <;> (first | omega | (have := h.2 _ _ (by assumption) (by assumption) he; omega))
theorem shp_inj (j : Nat) : ∀ (A : List Int) (s : Nat), j < A.length → Inj A → Inj (shp j A s).1 := by
  induction j with
  | zero => intro A s _ h; exact h
  | succ j ih =>
    intro A s hj h
    have hm : outp (stp s) % (j + 2) < j + 2 := Nat.mod_lt _ (by omega)
    exact ih _ _ (by rw [swp_len]; omega) (swp_inj A _ _ hj (by omega) h)
theorem rg_at (n a : Nat) (h : a < n) : (rg n).getD a 0 = a := by
  simp [rg, List.getD_eq_getElem?_getD, List.getElem?_eq_getElem (show a < (List.range n).length by simpa using h)]
theorem rg_inj (n : Nat) : Inj (rg n) := by
  refine ⟨fun a ha => ?_, fun a b ha hb he => ?_⟩
  · rw [rg_len] at ha ⊢; rw [rg_at n a ha]; omega
  · rw [rg_len] at ha hb; rw [rg_at n a ha, rg_at n b hb] at he; omega
theorem rdOf_at (l : List Bool) (i : Nat) : rdOf false l (i : Int) = l.getD i false := by simp [rdOf]
theorem ranges_l0 (n : Int) (l : List Int) (hl : l.length ≤ 64) (hi : Inj l) (hn : n < 1 ∨ n > 64 ∨ (l.length : Int) = n) (d : Nat) : ∀ (k i : Nat) (seen : List Bool), l.length = i + d → d + 20 ≤ k → seen.length = l.length →
    (∀ v : Nat, seen.getD v false = true → ∃ a, a < i ∧ l.getD a 0 = v) → petrinetlaw52_RandomRanges.l0 k n l seen (i : Int) = some true := by
  induction d with
  | zero =>
    intro k i seen he hk hs hv
    obtain ⟨k, rfl⟩ : ∃ m, k = m + 1 := ⟨k - 1, by omega⟩
    simp only [petrinetlaw52_RandomRanges.l0]
    rw [if_neg (by omega)]
    by_cases h1 : n < 1
    · rw [if_pos h1, alive_eq k (by omega), Option.bind_some]
    · rw [if_neg h1]
      by_cases h2 : n > 64
      · rw [if_pos h2, alive_eq k (by omega), Option.bind_some]
      · rw [if_neg h2, if_pos (by omega), alive_eq k (by omega), Option.bind_some]
  | succ d ih =>
    intro k i seen he hk hs hv
    obtain ⟨k, rfl⟩ : ∃ m, k = m + 1 := ⟨k - 1, by omega⟩
    have hb := hi.1 i (by omega)
    obtain ⟨v, hve⟩ := Int.eq_ofNat_of_zero_le hb.1
    have hrd : rd l (i : Int) = (v : Int) := by rw [rd, Int.toNat_natCast]; exact hve
    simp only [petrinetlaw52_RandomRanges.l0]
    rw [if_pos (by omega), if_pos (by omega), hrd, if_neg (by omega), if_neg (by omega), if_pos (by omega), if_pos (by omega), rdOf_at]
    have hnot : ¬ seen.getD v false = true := fun h => by
      obtain ⟨a, ha, hav⟩ := hv v h
      have := hi.2 a i (by omega) (by omega) (by rw [hav, hve])
      omega
    rw [if_neg hnot, w64_id (by omega) (by omega), Int.toNat_natCast]
    refine ih k (i + 1) _ (by omega) (by omega) (by simpa using hs) ?_
    intro u hu
    by_cases huv : u = v
    · exact ⟨i, by omega, by rw [hve, huv]⟩
    · have : seen.getD u false = true := by
        rw [List.getD_eq_getElem?_getD, List.getElem?_set_ne (fun h => huv h.symm)] at hu
        rw [List.getD_eq_getElem?_getD]; exact hu
      obtain ⟨a, ha, hav⟩ := hv u this
      exact ⟨a, by omega, hav⟩
theorem ranges_j0 (k s : Nat) (n : Int) (hk : 200 ≤ k) : petrinetlaw52_RandomRanges.j0 k (s : Int) n false = some true := by
  obtain ⟨k, rfl⟩ : ∃ m, k = m + 1 := ⟨k - 1, by omega⟩
  simp only [petrinetlaw52_RandomRanges.j0]
  rw [if_neg (by decide), shuffle_f, Option.bind_some]
  by_cases h : n < 1 ∨ n > 64
  · rw [if_pos h]
    dsimp only [List.length_nil]
    rw [if_pos (by decide), if_pos (by decide)]
    refine ranges_l0 n [] (by simp) ⟨fun a ha => by simp at ha, fun a b ha => by simp at ha⟩ (by omega) 0 k 0 _ rfl (by omega) rfl ?_
    intro v hv; simp at hv
  · rw [if_neg h]
    dsimp only
    have hlen : (shp (n.toNat - 1) (rg n.toNat) s).1.length = n.toNat := by rw [shp_len, rg_len]
    rw [hlen, if_pos (by omega), if_pos (by omega)]
    refine ranges_l0 n _ (by omega) (shp_inj _ _ _ (by rw [rg_len]; omega) (rg_inj _)) (.inr (.inr (by rw [hlen]; omega))) n.toNat k 0 _ (by omega) (by omega) (by rw [List.length_replicate, hlen, Int.toNat_natCast]) ?_
    intro v hv
    exfalso
    simp [List.getD_eq_getElem?_getD, List.getElem?_replicate] at hv
    split at hv <;> simp at hv
theorem RandomRanges : petrinetlaw52_RandomRanges.Pure := by
  intro a0 n l2 h0 h1 _ _ _
  obtain ⟨hs0, hs1⟩ := bounds_u64 h0
  obtain ⟨s, rfl⟩ := Int.eq_ofNat_of_zero_le hs0
  obtain ⟨k, hk⟩ : ∃ k : Nat, 600 ≤ k := ⟨600, Nat.le_refl _⟩
  refine ⟨k, ?_⟩
  rw [petrinetlaw52_RandomRanges.f]
  by_cases h80 : (l2.length : Int) > 80
  · rw [if_pos h80, alive_eq k (by omega), Option.bind_some]
  rw [if_neg h80, next_eq, Option.bind_some, below_eq, Option.bind_some, choose_eq k s l2 (by omega), Option.bind_some]
  have hc := rcho_spec s l2
  have hr : (if (l2.length : Int) > 64 then ((-1 : Int), (s : Int)) else cho s l2) = rcho s l2 := rfl
  rw [hr]
  generalize rcho s l2 = cc at hc ⊢
  obtain ⟨ci, cs⟩ := cc
  dsimp only at hc ⊢
  have ho := outp_lt (stp s)
  have hj := ranges_j0 k s n (by omega)
  rw [if_neg (by omega)]
  have tail : (if ci ≥ (l2.length : Int) then petrinetlaw52_RandomRanges.j0 k (s : Int) n true else if ci ≥ 0 then if 0 ≤ ci then if ci < (l2.length : Int) then petrinetlaw52_RandomRanges.j0 k (s : Int) n (decide (rd l2 ci < 1)) else none else none else petrinetlaw52_RandomRanges.j0 k (s : Int) n false) = some true := by
    rw [if_neg (by omega)]
    by_cases h : ci ≥ 0
    · have := hc.2 h
      rw [if_pos h, if_pos h, if_pos (by omega), decide_eq_false (by omega)]; exact hj
    · rw [if_neg h]; exact hj
  by_cases hn1 : n ≥ 1
  · rw [if_pos hn1]
    by_cases hn2 : n ≤ 2147483647
    · rw [if_pos hn2, blw_in s n hn1 hn2]
      dsimp only
      have := Int.emod_nonneg ((outp (stp s) : Nat) : Int) (show n ≠ 0 by omega)
      have := Int.emod_lt_of_pos ((outp (stp s) : Nat) : Int) (show 0 < n by omega)
      rw [if_neg (by omega), if_neg (by omega)]
      exact tail
    · rw [if_neg hn2]; exact tail
  · rw [if_neg hn1]; exact tail

end Go.Proofs.Ytlckejjmkjgknaa.Pure
