/- By hand (random_common, random_choose): a part of this seat's proofs. -/
import Derived.Test.YteaimaafahpamaaXBase
import Derived.Laws.BitsAllLaws
import Derived.OpenShut
import Derived.Test.YteaimaafahpamaaH6
import Derived.Test.YteaimaafahpamaaH5
namespace Go.Proofs.Yteaimaafahpamaa.Hy
open Go.RowKit Go.Shelf Go.Proofs.YteaimaafahpamaaW.PrintWords Go.Proofs.YteaimaafahpamaaW.PrintLast Go.Proofs.YteaimaafahpamaaW.PrintMore
set_option linter.unusedVariables false
set_option linter.unusedSimpArgs false
attribute [local go_sem] Oper.semAt_some
/-! ### numbers -/
/-- the reference's loop over bits -/
def xl : Nat → Nat → Nat → Nat → Nat → Nat
  | 0, n, _, _, _ => n
  | d + 1, n, u, a, b => xl d (if a % 2 ≠ b % 2 then n + u else n) (2 * u) (a / 2) (b / 2)
theorem xor_half (a b : Nat) : (a ^^^ b) = 2 * (a / 2 ^^^ b / 2) + (if a % 2 ≠ b % 2 then 1 else 0) := by
  have h1 : (a ^^^ b) / 2 = a / 2 ^^^ b / 2 := Nat.xor_div_two ..
  have h2 := Nat.xor_mod_two_eq_one (a := a) (b := b)
  split <;> omega
theorem xl_eq (d : Nat) : ∀ n u a b, xl d n u a b = n + u * ((a ^^^ b) % 2 ^ d) := by
  induction d with
  | zero => intro n u a b; simp [xl, Nat.mod_one]
  | succ d ih =>
    intro n u a b
    rw [xl, ih]
    have h := xor_half a b
    have e : (a ^^^ b) % 2 ^ (d + 1) = 2 * ((a / 2 ^^^ b / 2) % 2 ^ d) + (if a % 2 ≠ b % 2 then 1 else 0) := by
      have h2 : (2 : Nat) ^ (d + 1) = 2 * 2 ^ d := by rw [Nat.pow_succ, Nat.mul_comm]
      have h3 := Nat.div_add_mod (a / 2 ^^^ b / 2) (2 ^ d)
      have h4 := Nat.mod_lt (a / 2 ^^^ b / 2) (Nat.two_pow_pos d)
      rw [h, h2]
      obtain ⟨c, hc, hc1⟩ : ∃ c, (if a % 2 ≠ b % 2 then 1 else 0) = c ∧ c ≤ 1 := ⟨_, rfl, by split <;> omega⟩
      rw [hc]
      generalize a / 2 ^^^ b / 2 = z at *
      generalize 2 ^ d = P at *
      have e2 : 2 * z + c = (2 * (z % P) + c) + (2 * P) * (z / P) := by
        have : (2 * P) * (z / P) = 2 * (P * (z / P)) := by rw [Nat.mul_assoc]
        omega
      rw [e2, Nat.add_mul_mod_self_left, Nat.mod_eq_of_lt (by omega)]
    rw [e]
    split <;> simp [Nat.mul_add] <;> grind
theorem w64_id {x : Int} (h0 : -9223372036854775808 ≤ x) (h1 : x < 9223372036854775808) : wrap64 x = x := by unfold wrap64; omega
theorem wu64 (x : Int) : IntKind.u64.wrap x = x % 18446744073709551616 := by rw [IntKind.wrap_u64]
theorem wu64_id {x : Int} (h0 : 0 ≤ x) (h1 : x < 18446744073709551616) : IntKind.u64.wrap x = x := by rw [wu64]; omega
/-- a step, on natural numbers: chosen, so that nothing unfolds it -/
theorem stp_ex : ∃ f : Nat → Nat, ∀ s, f s = (s * 6364136223846793005 % 18446744073709551616 + 1442695040888963407) % 18446744073709551616 := ⟨_, fun _ => rfl⟩
noncomputable def stp : Nat → Nat := Classical.choose stp_ex
theorem stp_is (s : Nat) : stp s = (s * 6364136223846793005 % 18446744073709551616 + 1442695040888963407) % 18446744073709551616 := Classical.choose_spec stp_ex s
theorem stp_lt (s : Nat) : stp s < 18446744073709551616 := by rw [stp_is]; exact Nat.mod_lt _ (by decide)
theorem step_eq (s : Nat) : random_step.f (s : Int) = some ((stp s : Nat) : Int) := by
  rw [stp_is]; simp only [random_step.f, wu64]; congr 1
/-- what a state gives -/
theorem outp_ex : ∃ f : Nat → Nat, ∀ s, f s = ((s / 8589934592) ^^^ (s / 32768)) % 2147483648 := ⟨_, fun _ => rfl⟩
noncomputable def outp : Nat → Nat := Classical.choose outp_ex
theorem outp_is (s : Nat) : outp s = ((s / 8589934592) ^^^ (s / 32768)) % 2147483648 := Classical.choose_spec outp_ex s
theorem outp_lt (s : Nat) : outp s < 2147483648 := by rw [outp_is]; exact Nat.mod_lt _ (by decide)
theorem next_eq (s : Nat) : random_Next.f (s : Int) = some (((outp (stp s) : Nat) : Int), ((stp s : Nat) : Int)) := by
  have hs := stp_lt s
  rw [random_Next.f, step_eq]
  simp only [Option.bind_some]
  have e1 : ((stp s : Nat) : Int) / 8589934592 = ((stp s / 8589934592 : Nat) : Int) := by omega
  have e2 : ((stp s : Nat) : Int) / 32768 = ((stp s / 32768 : Nat) : Int) := by omega
  have hx : stp s / 8589934592 ^^^ stp s / 32768 < 2 ^ 64 := Nat.xor_lt_two_pow (by omega) (by omega)
  rw [e1, e2, u64_xor_nat _ _ (by omega) (by omega)]
  have e3 : (2147483647 : Int) = ((2147483647 : Nat) : Int) := rfl
  rw [e3, u64_and_nat _ _ (by omega) (by omega)]
  have e4 : ∀ x : Nat, x &&& 2147483647 = x % 2147483648 := fun x => Nat.and_two_pow_sub_one_eq_mod x 31
  rw [e4, outp_is]
noncomputable def blw (s : Nat) (n : Int) : Int × Int := if n < 1 ∨ n > 2147483647 then (-1, s) else (((outp (stp s) : Nat) : Int) % n, ((stp s : Nat) : Int))
theorem below_eq (s : Nat) (n : Int) : random_Below.f (s : Int) n = some (blw s n) := by
  have ho := outp_lt (stp s)
  rw [random_Below.f, blw]
  by_cases h1 : n < 1
  · rw [if_pos h1, if_pos (.inl h1)]
  · rw [if_neg h1]
    by_cases h2 : n > 2147483647
    · rw [if_pos h2, if_pos (.inr h2)]
    · rw [if_neg h2, if_neg (by omega), next_eq s]
      simp only [Option.bind_some]
      rw [wu64_id (by omega) (by omega), if_neg (by omega)]
      rw [Int.tmod_eq_emod_of_nonneg (by omega)]
      have := Int.emod_nonneg ((outp (stp s) : Nat) : Int) (show n ≠ 0 by omega)
      have := Int.emod_lt_of_pos ((outp (stp s) : Nat) : Int) (show 0 < n by omega)
      rw [w64_id (by omega) (by omega)]
theorem blw_in (s : Nat) (n : Int) (h1 : 1 ≤ n) (h2 : n ≤ 2147483647) : blw s n = (((outp (stp s) : Nat) : Int) % n, ((stp s : Nat) : Int)) := by
  rw [blw, if_neg (by omega)]

/-- the place at which a number falls, the weights in line -/
def idx : List Int → Int → Int → Int
  | [], _, _ => -1
  | w :: ws, x, i => if x < w then i else idx ws (x - w) (i + 1)
def okW (w : Int) : Prop := 0 ≤ w ∧ w ≤ 1000
instance (w : Int) : Decidable (okW w) := inferInstanceAs (Decidable (_ ∧ _))
/-- what is chosen -/
noncomputable def cho (s : Nat) (ws : List Int) : Int × Int :=
  if ws.all (fun w => decide (okW w)) then if ws.sum = 0 then (-1, s) else (idx ws (((outp (stp s) : Nat) : Int) % ws.sum) 0, ((stp s : Nat) : Int)) else (-1, s)
theorem rd_mid (pre : List Int) (w : Int) (rest : List Int) : rd (pre ++ w :: rest) (pre.length : Int) = w := by
  simp [rd]
theorem sum_ok : ∀ ws : List Int, (∀ w ∈ ws, okW w) → 0 ≤ ws.sum ∧ ws.sum ≤ 1000 * ws.length
  | [], _ => by simp
  | w :: ws, h => by
    have h1 := sum_ok ws (fun x hx => h x (List.mem_cons_of_mem _ hx))
    have h2 := h w List.mem_cons_self
    unfold okW at h2
    simp only [List.sum_cons, List.length_cons]
    omega
theorem choose_l1 (s : Int) (x10 : Int) (rest : List Int) : ∀ (pre : List Int) (k : Nat) (x : Int), (pre ++ rest).length ≤ 64 → rest.length < k → (∀ w ∈ rest, okW w) → 0 ≤ x → x < rest.sum →
    random_Choose.l1 k s x x10 (pre ++ rest) ((pre ++ rest).length : Int) (pre.length : Int) = some (idx rest x pre.length, x10) := by
  induction rest with
  | nil => intro pre k x _ _ _ h0 h1; simp at h1; omega
  | cons w rest ih =>
    intro pre k x hl hk hw h0 h1
    obtain ⟨k, rfl⟩ : ∃ m, k = m + 1 := ⟨k - 1, by omega⟩
    have hl' := hl
    simp only [List.length_append, List.length_cons] at hl'
    have hwo := hw w List.mem_cons_self
    unfold okW at hwo
    simp only [random_Choose.l1]
    rw [if_pos (by simp only [List.length_append, List.length_cons]; omega), if_pos (by omega), if_pos (by simp only [List.length_append, List.length_cons]; omega), rd_mid]
    simp only [idx]
    by_cases hx : x < w
    · rw [if_pos hx, if_pos hx]
    · rw [if_neg hx, if_neg hx]
      have hs := sum_ok rest (fun y hy => hw y (List.mem_cons_of_mem _ hy))
      simp only [List.sum_cons] at h1
      rw [w64_id (by omega) (by omega), w64_id (by omega) (by omega)]
      have e1 : pre ++ w :: rest = (pre ++ [w]) ++ rest := by simp
      have e2 : (pre.length : Int) + 1 = ((pre ++ [w]).length : Int) := by simp
      rw [e1, e2]
      exact ih (pre ++ [w]) k (x - w) (by rw [← e1]; exact hl) (by simp only [List.length_cons] at hk; omega) (fun y hy => hw y (List.mem_cons_of_mem _ hy)) (by omega) (by omega)
theorem choose_l0 (s : Nat) (rest : List Int) : ∀ (pre : List Int) (k : Nat), (pre ++ rest).length ≤ 64 → (pre ++ rest).length + rest.length + 2 < k → (∀ w ∈ pre, okW w) →
    random_Choose.l0 k (s : Int) (pre ++ rest) pre.sum (pre ++ rest) ((pre ++ rest).length : Int) (pre.length : Int) = some (cho s (pre ++ rest)) := by
  induction rest with
  | nil =>
    intro pre k hl hk hp
    obtain ⟨k, rfl⟩ : ∃ m, k = m + 1 := ⟨k - 1, by omega⟩
    simp only [List.append_nil, List.length_nil] at *
    have hs := sum_ok pre hp
    have ha : pre.all (fun w => decide (okW w)) = true := by simpa using hp
    simp only [random_Choose.l0, cho]
    rw [if_neg (by omega), if_pos ha]
    by_cases h0 : pre.sum = 0
    · rw [if_pos h0, if_pos h0]
    · rw [if_neg h0, if_neg h0, below_eq, Option.bind_some, blw, if_neg (by omega)]
      have hp1 : 0 < pre.sum := by omega
      have := choose_l1 s ((stp s : Nat) : Int) pre [] k (((outp (stp s) : Nat) : Int) % pre.sum) (by simpa using hl) (by omega) hp (Int.emod_nonneg _ h0) (Int.emod_lt_of_pos _ hp1)
      simpa using this
  | cons w rest ih =>
    intro pre k hl hk hp
    obtain ⟨k, rfl⟩ : ∃ m, k = m + 1 := ⟨k - 1, by omega⟩
    have hs := sum_ok pre hp
    have hl' := hl
    simp only [List.length_append, List.length_cons] at hl' hk
    simp only [random_Choose.l0]
    rw [if_pos (by simp only [List.length_append, List.length_cons]; omega), if_pos (by omega), if_pos (by simp only [List.length_append, List.length_cons]; omega), rd_mid]
    have hno : ¬ okW w → cho s (pre ++ w :: rest) = (-1, (s : Int)) := fun h => by
      rw [cho, if_neg]
      simp only [List.all_append, List.all_cons, decide_eq_false h, Bool.false_and, Bool.and_false]
      decide
    by_cases h1 : w < 0
    · rw [if_pos h1, hno (by unfold okW; omega)]
    by_cases h2 : w > 1000
    · rw [if_neg h1, if_pos h2, hno (by unfold okW; omega)]
    rw [if_neg h1, if_neg h2, w64_id (by omega) (by omega), w64_id (by omega) (by omega)]
    have e1 : pre ++ w :: rest = (pre ++ [w]) ++ rest := by simp
    have e2 : (pre.length : Int) + 1 = ((pre ++ [w]).length : Int) := by simp
    have e3 : pre.sum + w = (pre ++ [w]).sum := by simp
    rw [e1, e2, e3]
    refine ih (pre ++ [w]) k (by rw [← e1]; exact hl) (by rw [← e1]; simp only [List.length_append, List.length_cons]; omega) ?_
    intro y hy
    rcases List.mem_append.1 hy with hy | hy
    · exact hp y hy
    · rw [List.mem_singleton.1 hy]; unfold okW; omega
theorem choose_eq (k s : Nat) (ws : List Int) (hk : 140 ≤ k) : random_Choose.f k (s : Int) ws = some (if (ws.length : Int) > 64 then (-1, (s : Int)) else cho s ws) := by
  rw [random_Choose.f]
  by_cases h : (ws.length : Int) > 64
  · rw [if_pos h, if_pos h]
  · rw [if_neg h, if_neg h]
    have := choose_l0 s ws [] k (by simp; omega) (by simp; omega) (by simp)
    simpa using this

end Go.Proofs.Yteaimaafahpamaa.Hy
