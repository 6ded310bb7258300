/- For every state and every number, Shuffle of the program returns the permutation that the reference returns. No condition. -/
import Derived.Test.YtlckejjmkjgknaaH4
import Derived.Laws.BitsAllLaws
import Derived.OpenShut
namespace Go.Proofs.Ytlckejjmkjgknaa.Pure
open Go.RowKit Go.Proofs.Ytlckejjmkjgknaa.Hy Go.Proofs.YtlckejjmkjgknaaW.PrintWords Go.Proofs.YtlckejjmkjgknaaW.PrintLast Go.Proofs.YtlckejjmkjgknaaW.PrintMore
/-! ### numbers -/
/-- the reference's loop over bits -/
def xl : Nat → Nat → Nat → Nat → Nat → Nat
  | 0, n, _, _, _ => n
  | d + 1, n, u, a, b => xl d (if a % 2 ≠ b % 2 then n + u else n) (2 * u) (a / 2) (b / 2)
theorem xor_half (a b : Nat) : (a ^^^ b) = 2 * (a / 2 ^^^ b / 2) + (if a % 2 ≠ b % 2 then 1 else 0) := by
  have h1 : (a ^^^ b) / 2 = a / 2 ^^^ b / 2 := Nat.xor_div_two ..
  have h2 := Nat.xor_mod_two_eq_one (a := a) (b := b)
  split <;> omega
theorem xl_eq (d : Nat) : ∀ n u a b, xl d n u a b = n + u * ((a ^^^ b) % 2 ^ d) := by
  induction d with
  | zero => intro n u a b; simp [xl, Nat.mod_one]
  | succ d ih =>
    intro n u a b
    rw [xl, ih]
    have h := xor_half a b
    have e : (a ^^^ b) % 2 ^ (d + 1) = 2 * ((a / 2 ^^^ b / 2) % 2 ^ d) + (if a % 2 ≠ b % 2 then 1 else 0) := by
      have h2 : (2 : Nat) ^ (d + 1) = 2 * 2 ^ d := by rw [Nat.pow_succ, Nat.mul_comm]
      have h3 := Nat.div_add_mod (a / 2 ^^^ b / 2) (2 ^ d)
      have h4 := Nat.mod_lt (a / 2 ^^^ b / 2) (Nat.two_pow_pos d)
      rw [h, h2]
      obtain ⟨c, hc, hc1⟩ : ∃ c, (if a % 2 ≠ b % 2 then 1 else 0) = c ∧ c ≤ 1 := ⟨_, rfl, by split <;> omega⟩
      rw [hc]
      generalize a / 2 ^^^ b / 2 = z at *
      generalize 2 ^ d = P at *
      have e2 : 2 * z + c = (2 * (z % P) + c) + (2 * P) * (z / P) := by
        have : (2 * P) * (z / P) = 2 * (P * (z / P)) := by rw [Nat.mul_assoc]
        omega
      rw [e2, Nat.add_mul_mod_self_left, Nat.mod_eq_of_lt (by omega)]
    rw [e]
    split <;> simp [Nat.mul_add] <;> grind
theorem w64_id {x : Int} (h0 : -9223372036854775808 ≤ x) (h1 : x < 9223372036854775808) : wrap64 x = x := by unfold wrap64; omega
theorem wu64 (x : Int) : IntKind.u64.wrap x = x % 18446744073709551616 := by rw [IntKind.wrap_u64]
theorem wu64_id {x : Int} (h0 : 0 ≤ x) (h1 : x < 18446744073709551616) : IntKind.u64.wrap x = x := by rw [wu64]; omega
/-- a step, on natural numbers: chosen, so that nothing unfolds it -/
theorem stp_ex : ∃ f : Nat → Nat, ∀ s, f s = (s * 6364136223846793005 % 18446744073709551616 + 1442695040888963407) % 18446744073709551616 := ⟨_, fun _ => rfl⟩
noncomputable def stp : Nat → Nat := Classical.choose stp_ex
theorem stp_is (s : Nat) : stp s = (s * 6364136223846793005 % 18446744073709551616 + 1442695040888963407) % 18446744073709551616 := Classical.choose_spec stp_ex s
theorem stp_lt (s : Nat) : stp s < 18446744073709551616 := by rw [stp_is]; exact Nat.mod_lt _ (by decide)
theorem step_eq (s : Nat) : random_step.f (s : Int) = some ((stp s : Nat) : Int) := by
  rw [stp_is]; simp only [random_step.f, wu64]; congr 1
/-- what a state gives -/
theorem outp_ex : ∃ f : Nat → Nat, ∀ s, f s = ((s / 8589934592) ^^^ (s / 32768)) % 2147483648 := ⟨_, fun _ => rfl⟩
noncomputable def outp : Nat → Nat := Classical.choose outp_ex
theorem outp_is (s : Nat) : outp s = ((s / 8589934592) ^^^ (s / 32768)) % 2147483648 := Classical.choose_spec outp_ex s
theorem outp_lt (s : Nat) : outp s < 2147483648 := by rw [outp_is]; exact Nat.mod_lt _ (by decide)
theorem next_eq (s : Nat) : random_Next.f (s : Int) = some (((outp (stp s) : Nat) : Int), ((stp s : Nat) : Int)) := by
  have hs := stp_lt s
  rw [random_Next.f, step_eq]
  simp only [Option.bind_some]
  have e1 : ((stp s : Nat) : Int) / 8589934592 = ((stp s / 8589934592 : Nat) : Int) := by omega
  have e2 : ((stp s : Nat) : Int) / 32768 = ((stp s / 32768 : Nat) : Int) := by omega
  have hx : stp s / 8589934592 ^^^ stp s / 32768 < 2 ^ 64 := Nat.xor_lt_two_pow (by omega) (by omega)
  rw [e1, e2, u64_xor_nat _ _ (by omega) (by omega)]
  have e3 : (2147483647 : Int) = ((2147483647 : Nat) : Int) := rfl
  rw [e3, u64_and_nat _ _ (by omega) (by omega)]
  have e4 : ∀ x : Nat, x &&& 2147483647 = x % 2147483648 := fun x => Nat.and_two_pow_sub_one_eq_mod x 31
  rw [e4, outp_is]
noncomputable def blw (s : Nat) (n : Int) : Int × Int := if n < 1 ∨ n > 2147483647 then (-1, s) else (((outp (stp s) : Nat) : Int) % n, ((stp s : Nat) : Int))
theorem below_eq (s : Nat) (n : Int) : random_Below.f (s : Int) n = some (blw s n) := by
  have ho := outp_lt (stp s)
  rw [random_Below.f, blw]
  by_cases h1 : n < 1
  · rw [if_pos h1, if_pos (.inl h1)]
  · rw [if_neg h1]
    by_cases h2 : n > 2147483647
    · rw [if_pos h2, if_pos (.inr h2)]
    · rw [if_neg h2, if_neg (by omega), next_eq s]
      simp only [Option.bind_some]
      rw [wu64_id (by omega) (by omega), if_neg (by omega)]
      rw [Int.tmod_eq_emod_of_nonneg (by omega)]
      have := Int.emod_nonneg ((outp (stp s) : Nat) : Int) (show n ≠ 0 by omega)
      have := Int.emod_lt_of_pos ((outp (stp s) : Nat) : Int) (show 0 < n by omega)
      rw [w64_id (by omega) (by omega)]
theorem blw_in (s : Nat) (n : Int) (h1 : 1 ≤ n) (h2 : n ≤ 2147483647) : blw s n = (((outp (stp s) : Nat) : Int) % n, ((stp s : Nat) : Int)) := by
  rw [blw, if_neg (by omega)]

theorem refstep_eq (s : Nat) : petrinetref52_step.f (s : Int) = some ((stp s : Nat) : Int) := by
  rw [stp_is]; simp only [petrinetref52_step.f, wu64]; congr 1
theorem out_l0 (d : Nat) : ∀ (k a b n u : Nat), d ≤ 31 → d < k → a < 2147483648 → b < 2147483648 → n < u → u * 2 ^ d ≤ 2147483648 →
    petrinetref52_output.l0 k (a : Int) (b : Int) (n : Int) (u : Int) ((31 - d : Nat) : Int) = some ((xl d n u a b : Nat) : Int) := by
  induction d with
  | zero =>
    intro k a b n u _ hk _ _ _ _
    obtain ⟨k, rfl⟩ : ∃ m, k = m + 1 := ⟨k - 1, by omega⟩
    simp only [petrinetref52_output.l0]; rw [if_neg (by omega)]; rfl
  | succ d ih =>
    intro k a b n u hd hk ha hb hn hu
    obtain ⟨k, rfl⟩ : ∃ m, k = m + 1 := ⟨k - 1, by omega⟩
    simp only [petrinetref52_output.l0]; rw [if_pos (by omega)]
    have hu2 : u * 2 ≤ 2147483648 := Nat.le_trans (Nat.mul_le_mul_left u (show 2 ≤ 2 ^ (d + 1) from by have := Nat.two_pow_pos d; rw [Nat.pow_succ]; omega)) hu
    have hu3 : (2 * u) * 2 ^ d ≤ 2147483648 := by rw [Nat.pow_succ] at hu; rw [Nat.mul_comm 2 u, Nat.mul_assoc, Nat.mul_comm 2]; exact hu
    rw [Int.tmod_eq_emod_of_nonneg (by omega), Int.tmod_eq_emod_of_nonneg (by omega), Int.tdiv_eq_ediv_of_nonneg (by omega), Int.tdiv_eq_ediv_of_nonneg (by omega)]
    rw [wu64_id (by omega) (by omega), wu64_id (by omega) (by omega), w64_id (by omega) (by omega)]
    have ea : (a : Int) / 2 = ((a / 2 : Nat) : Int) := by omega
    have eb : (b : Int) / 2 = ((b / 2 : Nat) : Int) := by omega
    have ei : wrap64 (((31 - (d + 1) : Nat) : Int) + 1) = ((31 - d : Nat) : Int) := by rw [w64_id (by omega) (by omega)]; omega
    have e2 : (2 : Int) * (u : Int) = ((2 * u : Nat) : Int) := by omega
    rw [ea, eb, ei, e2]
    rw [xl]
    by_cases h : a % 2 = b % 2
    · rw [if_pos (by omega), if_neg (by omega)]
      exact ih k (a / 2) (b / 2) n (2 * u) (by omega) (by omega) (by omega) (by omega) (by omega) hu3
    · rw [if_neg (by omega), if_pos h, w64_id (by omega) (by omega)]
      have e3 : (n : Int) + (u : Int) = ((n + u : Nat) : Int) := by omega
      rw [e3]
      exact ih k (a / 2) (b / 2) (n + u) (2 * u) (by omega) (by omega) (by omega) (by omega) (by omega) hu3
theorem out_eq (k s : Nat) (hk : 31 < k) (h : s < 18446744073709551616) : petrinetref52_output.f k (s : Int) = some ((outp s : Nat) : Int) := by
  rw [petrinetref52_output.f, Int.tdiv_eq_ediv_of_nonneg (by omega), Int.tdiv_eq_ediv_of_nonneg (by omega)]
  rw [wu64_id (by omega) (by omega), wu64_id (by omega) (by omega), Int.tmod_eq_emod_of_nonneg (by omega), Int.tmod_eq_emod_of_nonneg (by omega)]
  have e1 : (s : Int) / 8589934592 % 2147483648 = ((s / 8589934592 % 2147483648 : Nat) : Int) := by omega
  have e2 : (s : Int) / 32768 % 2147483648 = ((s / 32768 % 2147483648 : Nat) : Int) := by omega
  rw [e1, e2]
  have := out_l0 31 k (s / 8589934592 % 2147483648) (s / 32768 % 2147483648) 0 1 (by omega) hk (by omega) (by omega) (by omega) (by omega)
  refine this.trans ?_
  rw [xl_eq]
  simp only [Nat.zero_add, Nat.one_mul, outp_is]
  have := Nat.xor_mod_two_pow (a := s / 8589934592) (b := s / 32768) (n := 31)
  simp only [show (2 : Nat) ^ 31 = 2147483648 from rfl] at this ⊢
  rw [← this, Nat.mod_mod]
theorem refnext_eq (k s : Nat) (hk : 31 < k) : petrinetref52_Next.f k (s : Int) = some (((outp (stp s) : Nat) : Int), ((stp s : Nat) : Int)) := by
  rw [petrinetref52_Next.f, refstep_eq]; simp only [Option.bind_some]; rw [out_eq k _ hk (stp_lt s), Option.bind_some]

theorem stp_zero : stp 0 = 1442695040888963407 := by rw [stp_is]
theorem outp_zero : outp (stp 0) = 2097107824 := by rw [stp_zero, outp_is]; decide +kernel
theorem blw_zero : blw 1442695040888963407 5 = (0, 1876011003808476466) := by
  have h1 : stp 1442695040888963407 = 1876011003808476466 := by rw [stp_is]
  have h2 : outp 1876011003808476466 = 1361542780 := by rw [outp_is]; decide +kernel
  rw [blw, if_neg (by decide), h1, h2]; decide
theorem next_zero : random_Next.f 0 = some (2097107824, 1442695040888963407) := by
  have := next_eq 0
  rw [outp_zero, stp_zero] at this
  exact this
theorem below_zero : random_Below.f 1442695040888963407 5 = some (0, 1876011003808476466) := by
  have := below_eq 1442695040888963407 5
  rw [blw_zero] at this
  exact this
theorem choose_zero : random_Choose.f 8 1442695040888963407 [0, 5] = some (1, 1876011003808476466) := by
  simp [random_Choose.f, random_Choose.l0, random_Choose.l1, rd, wrap64, below_zero]
theorem alive_eq (k : Nat) (hk : 8 ≤ k) : petrinetlaw52_alive.f k = some true := by
  have hF : random_Choose.f k 1442695040888963407 [0, 5] = some (1, 1876011003808476466) :=
    at_rounds (g := fun k => random_Choose.f k 1442695040888963407 [0, 5]) (fun k => random_Choose.mono _ _ k) hk choose_zero
  rw [petrinetlaw52_alive.f, next_zero, Option.bind_some]
  dsimp only
  rw [hF, Option.bind_some, if_pos rfl, if_pos rfl]
  rfl

/-! ### exchanges -/
noncomputable def shp : Nat → List Int → Nat → List Int × Nat
  | 0, l, s => (l, s)
  | j + 1, l, s => shp j (swp l (j + 1) (outp (stp s) % (j + 2))) (stp s)
theorem swp_app (A Z : List Int) (i j : Nat) (hi : i < A.length) (hj : j < A.length) : swp (A ++ Z) i j = swp A i j ++ Z := by
  unfold swp
  rw [List.getD_eq_getElem?_getD, List.getD_eq_getElem?_getD, List.getElem?_append_left hi, List.getElem?_append_left hj, List.set_append_left _ _ hi, List.set_append_left _ _ (by simpa using hj), ← List.getD_eq_getElem?_getD, ← List.getD_eq_getElem?_getD]
theorem exch_app (Z : List Int) (j : Nat) : ∀ (A : List Int) (s : Nat), j < A.length → A.length ≤ 64 → exch j (A ++ Z) (s : Int) = some ((shp j A s).1 ++ Z, (((shp j A s).2 : Nat) : Int)) := by
  induction j with
  | zero => intro A s _ _; rfl
  | succ j ih =>
    intro A s hj hl
    have hm : outp (stp s) % (j + 2) < j + 2 := Nat.mod_lt _ (by omega)
    have e : ((outp (stp s) : Nat) : Int) % ((j + 1 : Nat) + 1 : Int) = ((outp (stp s) % (j + 2) : Nat) : Int) := by
      have h : ((j + 1 : Nat) : Int) + 1 = ((j + 2 : Nat) : Int) := by omega
      rw [h, ← Int.natCast_emod]
    rw [exch, below_eq, Option.bind_some, blw_in _ _ (by omega) (by omega)]
    dsimp only
    rw [e, if_pos (by omega), Int.toNat_natCast, swp_app _ _ _ _ hj (by omega)]
    rw [ih _ (stp s) (by rw [swp_len]; omega) (by rw [swp_len]; exact hl)]
    rfl
theorem shp_len (j : Nat) : ∀ (A : List Int) (s : Nat), (shp j A s).1.length = A.length := by
  induction j with
  | zero => intro A s; rfl
  | succ j ih => intro A s; rw [shp, ih, swp_len]
def rg (n : Nat) : List Int := (List.range n).map (fun (i : Nat) => (i : Int))
theorem rg_len (n : Nat) : (rg n).length = n := by simp [rg]
theorem shuffle_f (s : Nat) (n : Int) : random_Shuffle.f (s : Int) n = some (if n < 1 ∨ n > 64 then ([], (s : Int)) else ((shp (n.toNat - 1) (rg n.toNat) s).1, (((shp (n.toNat - 1) (rg n.toNat) s).2 : Nat) : Int))) := by
  rw [random_Shuffle.f]
  by_cases h : n < 1 ∨ n > 64
  · rw [if_pos h, if_pos h]
  · rw [if_neg h, if_neg h]
    have e : ini n.toNat = rg n.toNat ++ List.replicate (64 - n.toNat) 0 := rfl
    rw [e, exch_app _ _ _ s (by rw [rg_len]; omega) (by rw [rg_len]; omega), Option.map_some]
    dsimp only
    rw [List.take_append_of_le_length (by rw [shp_len, rg_len]; omega), List.take_of_length_le (by rw [shp_len, rg_len]; omega)]

theorem refbelow_eq (k s : Nat) (hk : 40 ≤ k) (n : Int) : petrinetref52_Below.f k (s : Int) n = some (blw s n) := by
  rw [petrinetref52_Below.f, blw]
  by_cases h1 : n < 1
  · rw [if_pos h1, if_pos (.inl h1)]
  · rw [if_neg h1]
    by_cases h2 : n > 2147483647
    · rw [if_pos h2, if_pos (.inr h2)]
    · rw [if_neg h2, if_neg (by omega), refnext_eq k s (by omega), Option.bind_some]
      dsimp only
      rw [if_neg (by omega), Int.tmod_eq_emod_of_nonneg (by omega)]
theorem ref_l1 (j : Nat) : ∀ (k : Nat) (A : List Int) (s : Nat), j < A.length → A.length ≤ 64 → j + 50 ≤ k →
    petrinetref52_Shuffle.l1 k (s : Int) A (j : Int) = some ((shp j A s).1, (((shp j A s).2 : Nat) : Int)) := by
  induction j with
  | zero =>
    intro k A s _ _ hk
    obtain ⟨k, rfl⟩ : ∃ m, k = m + 1 := ⟨k - 1, by omega⟩
    simp only [petrinetref52_Shuffle.l1]
    rw [if_neg (by omega)]; rfl
  | succ j ih =>
    intro k A s hj hl hk
    obtain ⟨k, rfl⟩ : ∃ m, k = m + 1 := ⟨k - 1, by omega⟩
    have hm : outp (stp s) % (j + 2) < j + 2 := Nat.mod_lt _ (by omega)
    have e : ((outp (stp s) : Nat) : Int) % (((j + 1 : Nat) : Int) + 1) = ((outp (stp s) % (j + 2) : Nat) : Int) := by
      have h : ((j + 1 : Nat) : Int) + 1 = ((j + 2 : Nat) : Int) := by omega
      rw [h, ← Int.natCast_emod]
    simp only [petrinetref52_Shuffle.l1]
    rw [if_pos (by omega), w64_id (by omega) (by omega), refbelow_eq k s (by omega), Option.bind_some, blw_in _ _ (by omega) (by omega)]
    dsimp only
    rw [e, if_pos (by omega), if_pos (by omega), if_pos (by omega), if_pos (by omega), w64_id (by omega) (by omega)]
    have e2 : ((j + 1 : Nat) : Int) - 1 = (j : Int) := by omega
    rw [e2, Int.toNat_natCast, Int.toNat_natCast]
    have := ih k (swp A (j + 1) (outp (stp s) % (j + 2))) (stp s) (by rw [swp_len]; omega) (by rw [swp_len]; exact hl) (by omega)
    simp only [swp, rd, Int.toNat_natCast] at this ⊢
    rw [this]; rfl
theorem ref_l0 (s : Nat) (d : Nat) : ∀ (k i : Nat) (n : Nat), n = i + d → 1 ≤ n → n ≤ 64 → d + 150 ≤ k →
    petrinetref52_Shuffle.l0 k (s : Int) (n : Int) (rg i) (i : Int) = some ((shp (n - 1) (rg n) s).1, (((shp (n - 1) (rg n) s).2 : Nat) : Int)) := by
  induction d with
  | zero =>
    intro k i n hn h1 h2 hk
    obtain ⟨k, rfl⟩ : ∃ m, k = m + 1 := ⟨k - 1, by omega⟩
    obtain rfl : n = i := by omega
    simp only [petrinetref52_Shuffle.l0]
    rw [if_neg (by omega), w64_id (by omega) (by omega)]
    have e : (n : Int) - 1 = ((n - 1 : Nat) : Int) := by omega
    rw [e]
    exact ref_l1 (n - 1) k (rg n) s (by rw [rg_len]; omega) (by rw [rg_len]; omega) (by omega)
  | succ d ih =>
    intro k i n hn h1 h2 hk
    obtain ⟨k, rfl⟩ : ∃ m, k = m + 1 := ⟨k - 1, by omega⟩
    simp only [petrinetref52_Shuffle.l0]
    rw [if_pos (by omega), if_pos (by rw [rg_len]; omega), w64_id (by omega) (by omega)]
    have e : rg i ++ [(i : Int)] = rg (i + 1) := by simp [rg, List.range_succ]
    have e2 : (i : Int) + 1 = ((i + 1 : Nat) : Int) := by omega
    rw [e, e2]
    exact ih k (i + 1) n (by omega) h1 h2 (by omega)
theorem same_l0 (l : List Int) (hl : l.length ≤ 64) (d : Nat) : ∀ (k i : Nat), l.length = i + d → d < k → petrinetref04_Same.l0 k l l (i : Int) = some true := by
  induction d with
  | zero =>
    intro k i hi hk
    obtain ⟨k, rfl⟩ : ∃ m, k = m + 1 := ⟨k - 1, by omega⟩
    simp only [petrinetref04_Same.l0]
    rw [if_neg (by omega)]
  | succ d ih =>
    intro k i hi hk
    obtain ⟨k, rfl⟩ : ∃ m, k = m + 1 := ⟨k - 1, by omega⟩
    simp only [petrinetref04_Same.l0]
    rw [if_pos (by omega), if_pos (by omega), if_pos (by omega), if_pos trivial, w64_id (by omega) (by omega)]
    exact ih k (i + 1) (by omega) (by omega)
theorem same_refl (l : List Int) (hl : l.length ≤ 64) (k : Nat) (hk : 64 < k) : petrinetref04_Same.f k l l = some true := by
  rw [petrinetref04_Same.f, if_pos rfl]
  exact same_l0 l hl l.length k 0 (by omega) (by omega)
theorem RandomShuffles : petrinetlaw52_RandomShuffles.Pure := by
  intro a0 n h0 h1
  obtain ⟨hs0, hs1⟩ := bounds_u64 h0
  obtain ⟨s, rfl⟩ := Int.eq_ofNat_of_zero_le hs0
  obtain ⟨k, hk⟩ : ∃ k : Nat, 300 ≤ k := ⟨300, Nat.le_refl _⟩
  refine ⟨k + 1, ?_⟩
  have hr : petrinetref52_Shuffle.f (k + 1) (s : Int) n = some (if n < 1 ∨ n > 64 then ([], (s : Int)) else ((shp (n.toNat - 1) (rg n.toNat) s).1, (((shp (n.toNat - 1) (rg n.toNat) s).2 : Nat) : Int))) := by
    rw [petrinetref52_Shuffle.f]
    by_cases h1 : n < 1
    · rw [if_pos h1, if_pos (.inl h1)]; simp only [petrinetref52_Shuffle.j0]; rw [if_pos trivial]
    · rw [if_neg h1]
      by_cases h2 : n > 64
      · rw [decide_eq_true h2, if_pos (.inr h2)]; simp only [petrinetref52_Shuffle.j0]; rw [if_pos trivial]
      · rw [decide_eq_false h2, if_neg (by omega)]; simp only [petrinetref52_Shuffle.j0]; rw [if_neg (by decide)]
        have := ref_l0 s n.toNat k 0 n.toNat (by omega) (by omega) (by omega) (by omega)
        have e : ((n.toNat : Nat) : Int) = n := by omega
        rw [e] at this
        exact this
  rw [petrinetlaw52_RandomShuffles.f, shuffle_f, Option.bind_some, hr, Option.bind_some]
  have hsame : petrinetref04_Same.f (k + 1) (if n < 1 ∨ n > 64 then (([] : List Int), (s : Int)) else ((shp (n.toNat - 1) (rg n.toNat) s).1, (((shp (n.toNat - 1) (rg n.toNat) s).2 : Nat) : Int))).1 (if n < 1 ∨ n > 64 then (([] : List Int), (s : Int)) else ((shp (n.toNat - 1) (rg n.toNat) s).1, (((shp (n.toNat - 1) (rg n.toNat) s).2 : Nat) : Int))).1 = some true := by
    refine same_refl _ ?_ _ (by omega)
    split
    · simp
    · dsimp only; rw [shp_len, rg_len]; omega
  rw [hsame, Option.bind_some, if_pos rfl, if_pos rfl, alive_eq _ (by omega), Option.bind_some]

end Go.Proofs.Ytlckejjmkjgknaa.Pure
