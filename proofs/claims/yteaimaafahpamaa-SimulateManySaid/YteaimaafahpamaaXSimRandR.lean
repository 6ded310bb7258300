/- By hand (random_refnext, sim_choose): a part of this seat's proofs. -/
import Derived.Test.YteaimaafahpamaaXSimRand
import Derived.Test.YteaimaafahpamaaH27
import Derived.Test.YteaimaafahpamaaH26
namespace Go.Proofs.Yteaimaafahpamaa.Hy
open Go.RowKit Go.Shelf Go.Proofs.YteaimaafahpamaaW.PrintWords Go.Proofs.YteaimaafahpamaaW.PrintLast Go.Proofs.YteaimaafahpamaaW.PrintMore
set_option linter.unusedVariables false
set_option linter.unusedSimpArgs false
attribute [local go_sem] Oper.semAt_some
theorem refstep_eq (s : Nat) : petrinetref52_step.f (s : Int) = some ((stp s : Nat) : Int) := by
  rw [stp_is]; simp only [petrinetref52_step.f, wu64]; congr 1
theorem out_l0 (d : Nat) : ∀ (k a b n u : Nat), d ≤ 31 → d < k → a < 2147483648 → b < 2147483648 → n < u → u * 2 ^ d ≤ 2147483648 →
    petrinetref52_output.l0 k (a : Int) (b : Int) (n : Int) (u : Int) ((31 - d : Nat) : Int) = some ((xl d n u a b : Nat) : Int) := by
  induction d with
  | zero =>
    intro k a b n u _ hk _ _ _ _
    obtain ⟨k, rfl⟩ : ∃ m, k = m + 1 := ⟨k - 1, by omega⟩
    simp only [petrinetref52_output.l0]; rw [if_neg (by omega)]; rfl
  | succ d ih =>
    intro k a b n u hd hk ha hb hn hu
    obtain ⟨k, rfl⟩ : ∃ m, k = m + 1 := ⟨k - 1, by omega⟩
    simp only [petrinetref52_output.l0]; rw [if_pos (by omega)]
    have hu2 : u * 2 ≤ 2147483648 := Nat.le_trans (Nat.mul_le_mul_left u (show 2 ≤ 2 ^ (d + 1) from by have := Nat.two_pow_pos d; rw [Nat.pow_succ]; omega)) hu
    have hu3 : (2 * u) * 2 ^ d ≤ 2147483648 := by rw [Nat.pow_succ] at hu; rw [Nat.mul_comm 2 u, Nat.mul_assoc, Nat.mul_comm 2]; exact hu
    rw [Int.tmod_eq_emod_of_nonneg (by omega), Int.tmod_eq_emod_of_nonneg (by omega), Int.tdiv_eq_ediv_of_nonneg (by omega), Int.tdiv_eq_ediv_of_nonneg (by omega)]
    rw [wu64_id (by omega) (by omega), wu64_id (by omega) (by omega), w64_id (by omega) (by omega)]
    have ea : (a : Int) / 2 = ((a / 2 : Nat) : Int) := by omega
    have eb : (b : Int) / 2 = ((b / 2 : Nat) : Int) := by omega
    have ei : wrap64 (((31 - (d + 1) : Nat) : Int) + 1) = ((31 - d : Nat) : Int) := by rw [w64_id (by omega) (by omega)]; omega
    have e2 : (2 : Int) * (u : Int) = ((2 * u : Nat) : Int) := by omega
    rw [ea, eb, ei, e2]
    rw [xl]
    by_cases h : a % 2 = b % 2
    · rw [if_pos (by omega), if_neg (by omega)]
      exact ih k (a / 2) (b / 2) n (2 * u) (by omega) (by omega) (by omega) (by omega) (by omega) hu3
    · rw [if_neg (by omega), if_pos h, w64_id (by omega) (by omega)]
      have e3 : (n : Int) + (u : Int) = ((n + u : Nat) : Int) := by omega
      rw [e3]
      exact ih k (a / 2) (b / 2) (n + u) (2 * u) (by omega) (by omega) (by omega) (by omega) (by omega) hu3
theorem out_eq (k s : Nat) (hk : 31 < k) (h : s < 18446744073709551616) : petrinetref52_output.f k (s : Int) = some ((outp s : Nat) : Int) := by
  rw [petrinetref52_output.f, Int.tdiv_eq_ediv_of_nonneg (by omega), Int.tdiv_eq_ediv_of_nonneg (by omega)]
  rw [wu64_id (by omega) (by omega), wu64_id (by omega) (by omega), Int.tmod_eq_emod_of_nonneg (by omega), Int.tmod_eq_emod_of_nonneg (by omega)]
  have e1 : (s : Int) / 8589934592 % 2147483648 = ((s / 8589934592 % 2147483648 : Nat) : Int) := by omega
  have e2 : (s : Int) / 32768 % 2147483648 = ((s / 32768 % 2147483648 : Nat) : Int) := by omega
  rw [e1, e2]
  have := out_l0 31 k (s / 8589934592 % 2147483648) (s / 32768 % 2147483648) 0 1 (by omega) hk (by omega) (by omega) (by omega) (by omega)
  refine this.trans ?_
  rw [xl_eq]
  simp only [Nat.zero_add, Nat.one_mul, outp_is]
  have := Nat.xor_mod_two_pow (a := s / 8589934592) (b := s / 32768) (n := 31)
  simp only [show (2 : Nat) ^ 31 = 2147483648 from rfl] at this ⊢
  rw [← this, Nat.mod_mod]
theorem refnext_eq (k s : Nat) (hk : 31 < k) : petrinetref52_Next.f k (s : Int) = some (((outp (stp s) : Nat) : Int), ((stp s : Nat) : Int)) := by
  rw [petrinetref52_Next.f, refstep_eq]; simp only [Option.bind_some]; rw [out_eq k _ hk (stp_lt s), Option.bind_some]

/-! ### choices -/
theorem refchoose_l1 (x10 : Int) (rest : List Int) : ∀ (pre : List Int) (k : Nat) (x : Int), (pre ++ rest).length ≤ 64 → rest.length < k → (∀ w ∈ rest, okW w) → 0 ≤ x → x < rest.sum →
    petrinetref52_Choose.l1 k (pre ++ rest) x x10 (pre.length : Int) = some (idx rest x pre.length, x10) := by
  induction rest with
  | nil => intro pre k x _ _ _ h0 h1; simp at h1; omega
  | cons w rest ih =>
    intro pre k x hl hk hw h0 h1
    obtain ⟨k, rfl⟩ : ∃ m, k = m + 1 := ⟨k - 1, by omega⟩
    have hl' := hl
    simp only [List.length_append, List.length_cons] at hl'
    have hwo := hw w List.mem_cons_self
    unfold okW at hwo
    simp only [petrinetref52_Choose.l1]
    rw [if_pos (by omega), if_pos (by simp only [List.length_append, List.length_cons]; omega), rd_mid]
    simp only [idx]
    by_cases hx : x < w
    · rw [if_neg (by omega), if_pos hx]
    · rw [if_pos (by omega), if_neg hx]
      have hs := sum_ok rest (fun y hy => hw y (List.mem_cons_of_mem _ hy))
      simp only [List.sum_cons] at h1
      rw [w64_id (by omega) (by omega), w64_id (by omega) (by omega)]
      have e1 : pre ++ w :: rest = (pre ++ [w]) ++ rest := by simp
      have e2 : (pre.length : Int) + 1 = ((pre ++ [w]).length : Int) := by simp
      rw [e1, e2]
      exact ih (pre ++ [w]) k (x - w) (by rw [← e1]; exact hl) (by simp only [List.length_cons] at hk; omega) (fun y hy => hw y (List.mem_cons_of_mem _ hy)) (by omega) (by omega)
noncomputable def rcho (s : Nat) (ws : List Int) : Int × Int := if (ws.length : Int) > 64 then (-1, (s : Int)) else cho s ws
theorem refchoose_end (s : Nat) (ws : List Int) (k : Nat) (hk : 100 < k) (b : Bool) (hb : b = (decide ((ws.length : Int) > 64) || (ws.sum == 0))) (hw : ∀ w ∈ ws, okW w) :
    petrinetref52_Choose.j2 k (s : Int) ws ws.sum b = some (rcho s ws) := by
  obtain ⟨k, rfl⟩ : ∃ m, k = m + 1 := ⟨k - 1, by omega⟩
  have hs := sum_ok ws hw
  have ha : ws.all (fun w => decide (okW w)) = true := by simpa using hw
  simp only [petrinetref52_Choose.j2, rcho, cho]
  rw [if_pos ha]
  by_cases h64 : (ws.length : Int) > 64
  · rw [hb, decide_eq_true h64, Bool.true_or, if_pos rfl, if_pos h64]
  · rw [if_neg h64]
    by_cases h0 : ws.sum = 0
    · rw [hb, h0, if_pos (by simp), if_pos rfl]
    · have hb' : b = false := by rw [hb, decide_eq_false h64]; simpa using h0
      rw [hb', if_neg (by decide), if_neg h0, refnext_eq k s (by omega), Option.bind_some, if_neg h0, Int.tmod_eq_emod_of_nonneg (by omega)]
      have := refchoose_l1 ((stp s : Nat) : Int) ws [] k (((outp (stp s) : Nat) : Int) % ws.sum) (by simp; omega) (by omega) hw (Int.emod_nonneg _ h0) (Int.emod_lt_of_pos _ (by omega))
      simpa using this
theorem refchoose_l0 (s : Nat) (rest : List Int) : ∀ (pre : List Int) (k : Nat), (pre ++ rest).length ≤ 80 → 2 * rest.length + 200 < k → (∀ w ∈ pre, okW w) → pre.length ≤ 65 →
    petrinetref52_Choose.l0 k (s : Int) (pre ++ rest) pre.sum (pre.length : Int) = some (rcho s (pre ++ rest)) := by
  induction rest with
  | nil =>
    intro pre k hl hk hp h65
    obtain ⟨k, rfl⟩ : ∃ m, k = m + 2 := ⟨k - 2, by omega⟩
    simp only [List.append_nil, List.length_nil] at *
    simp only [petrinetref52_Choose.l0, petrinetref52_Choose.j1]
    rw [if_neg (by omega), if_neg (by decide)]
    by_cases h64 : (pre.length : Int) > 64
    · rw [if_pos h64]; exact refchoose_end s pre k (by omega) true (by rw [decide_eq_true h64]; rfl) hp
    · rw [if_neg h64]; exact refchoose_end s pre k (by omega) _ (by rw [decide_eq_false h64]; rfl) hp
  | cons w rest ih =>
    intro pre k hl hk hp h65
    obtain ⟨k, rfl⟩ : ∃ m, k = m + 2 := ⟨k - 2, by omega⟩
    have hs := sum_ok pre hp
    have hl' := hl
    simp only [List.length_append, List.length_cons] at hl' hk
    simp only [petrinetref52_Choose.l0, petrinetref52_Choose.j1]
    rw [if_pos (by simp only [List.length_append, List.length_cons]; omega)]
    by_cases h5 : (pre.length : Int) < 65
    · rw [decide_eq_true h5, if_pos rfl, if_pos (by omega), if_pos (by simp only [List.length_append, List.length_cons]; omega), rd_mid]
      have hno : ¬ okW w → rcho s (pre ++ w :: rest) = (-1, (s : Int)) := fun h => by
        rw [rcho, cho]
        split
        · rfl
        · rw [if_neg]
          simp only [List.all_append, List.all_cons, decide_eq_false h, Bool.false_and, Bool.and_false]
          decide
      by_cases h1 : w < 0
      · rw [if_pos h1, hno (by unfold okW; omega)]
      by_cases h2 : w > 1000
      · rw [if_neg h1, if_pos h2, hno (by unfold okW; omega)]
      rw [if_neg h1, if_neg h2, w64_id (by omega) (by omega), w64_id (by omega) (by omega)]
      have e1 : pre ++ w :: rest = (pre ++ [w]) ++ rest := by simp
      have e2 : (pre.length : Int) + 1 = ((pre ++ [w]).length : Int) := by simp
      have e3 : pre.sum + w = (pre ++ [w]).sum := by simp
      rw [e1, e2, e3]
      refine ih (pre ++ [w]) k (by rw [← e1]; exact hl) (by omega) ?_ (by simp; omega)
      intro y hy
      rcases List.mem_append.1 hy with hy | hy
      · exact hp y hy
      · rw [List.mem_singleton.1 hy]; unfold okW; omega
    · rw [decide_eq_false h5, if_neg (by decide), if_pos (by simp only [List.length_append, List.length_cons]; omega)]
      obtain ⟨k, rfl⟩ : ∃ m, k = m + 1 := ⟨k - 1, by omega⟩
      simp only [petrinetref52_Choose.j2]
      rw [if_pos trivial, rcho, if_pos (by simp only [List.length_append, List.length_cons]; omega)]
theorem rchoose_eq (k s : Nat) (ws : List Int) (hk : 600 ≤ k) (hl : ws.length ≤ 64) : petrinetref52_Choose.f k (s : Int) ws = some (cho s ws) := by
  have := refchoose_l0 s ws [] k (by simp; omega) (by omega) (by simp) (by simp)
  rw [petrinetref52_Choose.f]
  rw [rcho, if_neg (by simp; omega)] at this
  simpa using this

end Go.Proofs.Yteaimaafahpamaa.Hy
