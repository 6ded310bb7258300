/- For every state, k steps and then m steps are k + m steps, and Next and Below perform one step, for k and m up to 3000. No condition. -/
import Derived.Test.YtlckejjmkjgknaaPRandomComposesx1
import Derived.Laws.BitsAllLaws
import Derived.OpenShut
namespace Go.Proofs.Ytlckejjmkjgknaa.Pure
open Go.RowKit Go.Proofs.Ytlckejjmkjgknaa.PRandomComposes Go.Proofs.YtlckejjmkjgknaaW.PrintWords Go.Proofs.YtlckejjmkjgknaaW.PrintLast Go.Proofs.YtlckejjmkjgknaaW.PrintMore
/-! ### numbers -/
/-- the reference's loop over bits -/
def xl : Nat → Nat → Nat → Nat → Nat → Nat
  | 0, n, _, _, _ => n
  | d + 1, n, u, a, b => xl d (if a % 2 ≠ b % 2 then n + u else n) (2 * u) (a / 2) (b / 2)
theorem xor_half (a b : Nat) : (a ^^^ b) = 2 * (a / 2 ^^^ b / 2) + (if a % 2 ≠ b % 2 then 1 else 0) := by
  have h1 : (a ^^^ b) / 2 = a / 2 ^^^ b / 2 := Nat.xor_div_two ..
  have h2 := Nat.xor_mod_two_eq_one (a := a) (b := b)
  split <;> omega
theorem xl_eq (d : Nat) : ∀ n u a b, xl d n u a b = n + u * ((a ^^^ b) % 2 ^ d) := by
  induction d with
  | zero => intro n u a b; simp [xl, Nat.mod_one]
  | succ d ih =>
    intro n u a b
    rw [xl, ih]
    have h := xor_half a b
    have e : (a ^^^ b) % 2 ^ (d + 1) = 2 * ((a / 2 ^^^ b / 2) % 2 ^ d) + (if a % 2 ≠ b % 2 then 1 else 0) := by
      have h2 : (2 : Nat) ^ (d + 1) = 2 * 2 ^ d := by rw [Nat.pow_succ, Nat.mul_comm]
      have h3 := Nat.div_add_mod (a / 2 ^^^ b / 2) (2 ^ d)
      have h4 := Nat.mod_lt (a / 2 ^^^ b / 2) (Nat.two_pow_pos d)
      rw [h, h2]
      obtain ⟨c, hc, hc1⟩ : ∃ c, (if a % 2 ≠ b % 2 then 1 else 0) = c ∧ c ≤ 1 := ⟨_, rfl, by split <;> omega⟩
      rw [hc]
      generalize a / 2 ^^^ b / 2 = z at *
      generalize 2 ^ d = P at *
      have e2 : 2 * z + c = (2 * (z % P) + c) + (2 * P) * (z / P) := by
        have : (2 * P) * (z / P) = 2 * (P * (z / P)) := by rw [Nat.mul_assoc]
        omega
      rw [e2, Nat.add_mul_mod_self_left, Nat.mod_eq_of_lt (by omega)]
    rw [e]
    split <;> simp [Nat.mul_add] <;> grind
theorem w64_id {x : Int} (h0 : -9223372036854775808 ≤ x) (h1 : x < 9223372036854775808) : wrap64 x = x := by unfold wrap64; omega
theorem wu64 (x : Int) : IntKind.u64.wrap x = x % 18446744073709551616 := by rw [IntKind.wrap_u64]
theorem wu64_id {x : Int} (h0 : 0 ≤ x) (h1 : x < 18446744073709551616) : IntKind.u64.wrap x = x := by rw [wu64]; omega
/-- a step, on natural numbers: chosen, so that nothing unfolds it -/
theorem stp_ex : ∃ f : Nat → Nat, ∀ s, f s = (s * 6364136223846793005 % 18446744073709551616 + 1442695040888963407) % 18446744073709551616 := ⟨_, fun _ => rfl⟩
noncomputable def stp : Nat → Nat := Classical.choose stp_ex
theorem stp_is (s : Nat) : stp s = (s * 6364136223846793005 % 18446744073709551616 + 1442695040888963407) % 18446744073709551616 := Classical.choose_spec stp_ex s
theorem stp_lt (s : Nat) : stp s < 18446744073709551616 := by rw [stp_is]; exact Nat.mod_lt _ (by decide)
theorem step_eq (s : Nat) : random_step.f (s : Int) = some ((stp s : Nat) : Int) := by
  rw [stp_is]; simp only [random_step.f, wu64]; congr 1
/-- what a state gives -/
theorem outp_ex : ∃ f : Nat → Nat, ∀ s, f s = ((s / 8589934592) ^^^ (s / 32768)) % 2147483648 := ⟨_, fun _ => rfl⟩
noncomputable def outp : Nat → Nat := Classical.choose outp_ex
theorem outp_is (s : Nat) : outp s = ((s / 8589934592) ^^^ (s / 32768)) % 2147483648 := Classical.choose_spec outp_ex s
theorem outp_lt (s : Nat) : outp s < 2147483648 := by rw [outp_is]; exact Nat.mod_lt _ (by decide)
theorem next_eq (s : Nat) : random_Next.f (s : Int) = some (((outp (stp s) : Nat) : Int), ((stp s : Nat) : Int)) := by
  have hs := stp_lt s
  rw [random_Next.f, step_eq]
  simp only [Option.bind_some]
  have e1 : ((stp s : Nat) : Int) / 8589934592 = ((stp s / 8589934592 : Nat) : Int) := by omega
  have e2 : ((stp s : Nat) : Int) / 32768 = ((stp s / 32768 : Nat) : Int) := by omega
  have hx : stp s / 8589934592 ^^^ stp s / 32768 < 2 ^ 64 := Nat.xor_lt_two_pow (by omega) (by omega)
  rw [e1, e2, u64_xor_nat _ _ (by omega) (by omega)]
  have e3 : (2147483647 : Int) = ((2147483647 : Nat) : Int) := rfl
  rw [e3, u64_and_nat _ _ (by omega) (by omega)]
  have e4 : ∀ x : Nat, x &&& 2147483647 = x % 2147483648 := fun x => Nat.and_two_pow_sub_one_eq_mod x 31
  rw [e4, outp_is]
noncomputable def blw (s : Nat) (n : Int) : Int × Int := if n < 1 ∨ n > 2147483647 then (-1, s) else (((outp (stp s) : Nat) : Int) % n, ((stp s : Nat) : Int))
theorem below_eq (s : Nat) (n : Int) : random_Below.f (s : Int) n = some (blw s n) := by
  have ho := outp_lt (stp s)
  rw [random_Below.f, blw]
  by_cases h1 : n < 1
  · rw [if_pos h1, if_pos (.inl h1)]
  · rw [if_neg h1]
    by_cases h2 : n > 2147483647
    · rw [if_pos h2, if_pos (.inr h2)]
    · rw [if_neg h2, if_neg (by omega), next_eq s]
      simp only [Option.bind_some]
      rw [wu64_id (by omega) (by omega), if_neg (by omega)]
      rw [Int.tmod_eq_emod_of_nonneg (by omega)]
      have := Int.emod_nonneg ((outp (stp s) : Nat) : Int) (show n ≠ 0 by omega)
      have := Int.emod_lt_of_pos ((outp (stp s) : Nat) : Int) (show 0 < n by omega)
      rw [w64_id (by omega) (by omega)]

theorem stp_zero : stp 0 = 1442695040888963407 := by rw [stp_is]
theorem outp_zero : outp (stp 0) = 2097107824 := by rw [stp_zero, outp_is]; decide +kernel
theorem blw_zero : blw 1442695040888963407 5 = (0, 1876011003808476466) := by
  have h1 : stp 1442695040888963407 = 1876011003808476466 := by rw [stp_is]
  have h2 : outp 1876011003808476466 = 1361542780 := by rw [outp_is]; decide +kernel
  rw [blw, if_neg (by decide), h1, h2]; decide
theorem next_zero : random_Next.f 0 = some (2097107824, 1442695040888963407) := by
  have := next_eq 0
  rw [outp_zero, stp_zero] at this
  exact this
theorem below_zero : random_Below.f 1442695040888963407 5 = some (0, 1876011003808476466) := by
  have := below_eq 1442695040888963407 5
  rw [blw_zero] at this
  exact this
theorem choose_zero : random_Choose.f 8 1442695040888963407 [0, 5] = some (1, 1876011003808476466) := by
  simp [random_Choose.f, random_Choose.l0, random_Choose.l1, rd, wrap64, below_zero]
theorem alive_eq (k : Nat) (hk : 8 ≤ k) : petrinetlaw52_alive.f k = some true := by
  have hF : random_Choose.f k 1442695040888963407 [0, 5] = some (1, 1876011003808476466) :=
    at_rounds (g := fun k => random_Choose.f k 1442695040888963407 [0, 5]) (fun k => random_Choose.mono _ _ k) hk choose_zero
  rw [petrinetlaw52_alive.f, next_zero, Option.bind_some]
  dsimp only
  rw [hF, Option.bind_some, if_pos rfl, if_pos rfl]
  rfl

/-- several steps -/
noncomputable def itr : Nat → Nat → Nat
  | 0, s => s
  | d + 1, s => itr d (stp s)
theorem itr_add (a : Nat) : ∀ b s, itr (a + b) s = itr b (itr a s) := by
  induction a with
  | zero => intro b s; rw [Nat.zero_add]; rfl
  | succ a ih => intro b s; rw [Nat.succ_add]; exact ih b (stp s)
theorem itr_one (a s : Nat) : itr (a + 1) s = stp (itr a s) := itr_add a 1 s
theorem itr_lt (d : Nat) : ∀ s, s < 18446744073709551616 → itr d s < 18446744073709551616 := by
  induction d with
  | zero => intro s h; exact h
  | succ d ih => intro s _; exact ih _ (stp_lt s)
theorem steps_l0 (d : Nat) : ∀ (k s i : Nat) (n : Int), n = (i : Int) + d → (i + d : Nat) ≤ 1048576 → d < k → random_Steps.l0 k (s : Int) n (i : Int) = some ((itr d s : Nat) : Int) := by
  induction d with
  | zero =>
    intro k s i n hn hd hk
    obtain ⟨k, rfl⟩ : ∃ m, k = m + 1 := ⟨k - 1, by omega⟩
    simp only [random_Steps.l0]; rw [if_neg (by omega)]; rfl
  | succ d ih =>
    intro k s i n hn hd hk
    obtain ⟨k, rfl⟩ : ∃ m, k = m + 1 := ⟨k - 1, by omega⟩
    simp only [random_Steps.l0]; rw [if_pos (by omega), step_eq, Option.bind_some, w64_id (by omega) (by omega)]
    exact ih k (stp s) (i + 1) n (by omega) (by omega) (by omega)
theorem steps_eq (k s : Nat) (n : Int) (hk : n.toNat < k) (hn : n ≤ 1048576) : random_Steps.f k (s : Int) n = some ((itr n.toNat s : Nat) : Int) := by
  rw [random_Steps.f]
  have e : mx 0 (mn n 1048576) = (n.toNat : Int) := by unfold mx mn; split <;> split <;> omega
  rw [e]
  exact steps_l0 n.toNat k s 0 _ (by omega) (by omega) hk

theorem composes_j0 (k : Nat) (a0 a1 a2 : Int) (hk : 9 ≤ k) : petrinetlaw52_RandomComposes.j0 k a0 a1 a2 true = some true := by
  obtain ⟨k, rfl⟩ : ∃ m, k = m + 1 := ⟨k - 1, by omega⟩
  simp only [petrinetlaw52_RandomComposes.j0]
  rw [if_pos trivial, alive_eq k (by omega), Option.bind_some]
theorem blw_two (s : Nat) (n : Int) (h1 : 1 ≤ n) (h2 : n ≤ 2147483647) : (blw s n).2 = ((stp s : Nat) : Int) := by
  rw [blw, if_neg (by omega)]
theorem RandomComposes : petrinetlaw52_RandomComposes.Pure := by
  intro a0 a1 a2 h0 h1 h2
  obtain ⟨hs0, hs1⟩ := bounds_u64 h0
  obtain ⟨s, rfl⟩ := Int.eq_ofNat_of_zero_le hs0
  obtain ⟨k, hk⟩ : ∃ k : Nat, 8000 ≤ k := ⟨8000, Nat.le_refl _⟩
  refine ⟨k + 1, ?_⟩
  rw [petrinetlaw52_RandomComposes.f]
  by_cases ha : a1 < 0
  · rw [if_pos ha]; exact composes_j0 _ _ _ _ (by omega)
  rw [if_neg ha]
  by_cases hb : a2 < 0
  · rw [if_pos hb]; exact composes_j0 _ _ _ _ (by omega)
  rw [if_neg hb]
  by_cases hc : a1 > 3000
  · rw [if_pos hc]; exact composes_j0 _ _ _ _ (by omega)
  rw [if_neg hc]
  by_cases hd : a2 > 3000
  · rw [decide_eq_true hd]; exact composes_j0 _ _ _ _ (by omega)
  rw [decide_eq_false hd]
  simp only [petrinetlaw52_RandomComposes.j0]
  rw [if_neg (by decide), steps_eq k s a1 (by omega) (by omega), Option.bind_some, next_eq, Option.bind_some, w64_id (by omega) (by omega), below_eq, Option.bind_some]
  rw [steps_eq k _ a2 (by omega) (by omega), Option.bind_some, w64_id (by omega) (by omega), steps_eq k s (a1 + a2) (by omega) (by omega), Option.bind_some]
  have e1 : (a1 + a2).toNat = a1.toNat + a2.toNat := by omega
  have e2 : (a1 + 1).toNat = a1.toNat + 1 := by omega
  rw [if_pos (by rw [e1, itr_add]), w64_id (by omega) (by omega), steps_eq k s (a1 + 1) (by omega) (by omega), Option.bind_some, e2, itr_one]
  dsimp only
  rw [if_pos rfl, blw_two _ _ (by omega) (by omega), if_pos rfl, alive_eq k (by omega), Option.bind_some]

end Go.Proofs.Ytlckejjmkjgknaa.Pure
