/- the plain law of NaturalShifts -/
import Derived.Test.YtlckejjmkjgknabPureNat
import Derived.Test.YtlckejjmkjgknabXShifts
namespace Go.Proofs.Ytlckejjmkjgknab.Pure
open Go.RowKit Go.Proofs.Ytlckejjmkjgknab.Hy Go.Proofs.YtlckejjmkjgknabW.PrintWords Go.Proofs.YtlckejjmkjgknabW.PrintLast Go.Proofs.YtlckejjmkjgknabW.PrintMore
/-! ### NaturalShifts -/
theorem dot_scale (F : Int) : ∀ (r x : List Int), dot (r.map (F * ·)) x = F * dot r x
  | [], x => by simp [dot]
  | r0 :: rs, [] => by simp [dot]
  | r0 :: rs, p :: ps => by simp only [List.map_cons, dot, dot_scale F rs ps, Int.mul_add, Int.mul_assoc]
theorem isSol_more {a : List (List Int)} {b x : List Int} (hl : a.length = b.length) (h1 : 1 ≤ a.length) (F : Int) :
    isSol (a ++ [(a.getD 0 []).map (F * ·)]) (b ++ [F * b.getD 0 0]) x = isSol a b x := by
  unfold isSol Hy.leftOf
  rw [List.zipWith_append hl, List.all_append]
  cases a with
  | nil => simp at h1
  | cons r0 at_ =>
    cases b with
    | nil => simp at hl
    | cons b0 bs =>
      simp only [List.getD_cons_zero, List.zipWith_cons_cons, List.zipWith_nil_left, List.all_cons, List.all_nil, dot_scale]
      by_cases h : b0 - dot r0 x = 0
      · have e : F * b0 - F * dot r0 x = 0 := by rw [← Int.mul_sub, h, Int.mul_zero]
        simp [h, e]
      · simp [h]
theorem sols_more {a : List (List Int)} {b u : List Int} (hl : a.length = b.length) (h1 : 1 ≤ a.length) : sols (a ++ [rowZ a b]) (b ++ [facZ a b * b.getD 0 0]) u [] = sols a b u [] := by
  have e : isSol (a ++ [rowZ a b]) (b ++ [facZ a b * b.getD 0 0]) = isSol a b := by
    funext x; exact isSol_more hl h1 (facZ a b)
  simp only [sols, e]
theorem fac_row {a : List (List Int)} {b u : List Int} (hok : okN a b u) (h1 : 1 ≤ a.length) : (rowZ a b).length = u.length ∧ (∀ z ∈ rowZ a b, -10000 ≤ z ∧ z ≤ 10000) ∧ -10000 ≤ facZ a b * b.getD 0 0 ∧ facZ a b * b.getD 0 0 ≤ 10000 := by
  obtain ⟨⟨hu1, hu2, hab, ha⟩, hr, hra, hrb, hru, _⟩ := hok
  cases a with
  | nil => simp at h1
  | cons r0 at_ =>
    cases b with
    | nil => simp at hab
    | cons b0 bs =>
      have hl := hr r0 List.mem_cons_self
      have hz := hra r0 List.mem_cons_self
      have hb := hrb b0 List.mem_cons_self
      simp only [rowZ, facZ, List.getD_cons_zero, List.length_map]
      refine ⟨hl, ?_⟩
      unfold facL
      by_cases h : (r0.any fun z => badZ z b0) = true
      · rw [if_pos h]
        refine ⟨fun z hz' => ?_, by omega, by omega⟩
        obtain ⟨y, hy, rfl⟩ := List.mem_map.1 hz'
        have := hz y hy
        omega
      · rw [if_neg h]
        have hn : ∀ z ∈ r0, (-5000 ≤ z ∧ z ≤ 5000) ∧ -5000 ≤ b0 ∧ b0 ≤ 5000 := by
          intro z hz'
          have h2 : badZ z b0 = false := by
            rw [Bool.not_eq_true, List.any_eq_false] at h
            simpa using h z hz'
          unfold badZ at h2
          simp only [Bool.or_eq_false_iff, decide_eq_false_iff_not] at h2
          omega
        have hb2 : -5000 ≤ b0 ∧ b0 ≤ 5000 := by
          cases r0 with
          | nil => simp at hl; omega
          | cons z0 zs => exact (hn z0 List.mem_cons_self).2
        refine ⟨fun z hz' => ?_, by omega, by omega⟩
        obtain ⟨y, hy, rfl⟩ := List.mem_map.1 hz'
        have := (hn y hy).1
        omega
theorem chk_more {a : List (List Int)} {b u : List Int} (hc : chk a b u = 0) (h1 : 1 ≤ a.length) (h60 : a.length ≤ 60) : chk (a ++ [rowZ a b]) (b ++ [facZ a b * b.getD 0 0]) u = 0 := by
  have hok := (chk_ok hc).1
  obtain ⟨g1, g2, g3⟩ := fac_row hok h1
  have hab := hok.1.2.2.1
  have hu1 := hok.1.1
  have hu2 := hok.1.2.1
  unfold chk at hc ⊢
  split at hc
  · cases hc
  · split at hc
    · cases hc
    · rename_i q2
      split at hc
      · cases hc
      · rename_i q3
        split at hc
        · cases hc
        · rename_i q4
          rw [Bool.not_eq_false] at q2 q3
          simp only [Bool.and_eq_true] at q3
          have e1 : (rowZ a b).all inW = true := by
            rw [List.all_eq_true]; intro z hz; have := g2 z hz; simp [inW]; omega
          have e2 : inW (facZ a b * b.getD 0 0) = true := by simp [inW]; simp at g3; omega
          rw [if_neg (by simp only [List.length_append, List.length_singleton]; omega), if_neg (by rw [Bool.not_eq_false, List.all_append, q2]; simp [g1]), if_neg (by rw [Bool.not_eq_false, List.all_append, List.all_append, q3.1.1, q3.1.2, q3.2]; simp only [List.all_cons, List.all_nil, e1, e2]; rfl), if_neg q4]
theorem sols_up {a : List (List Int)} {b u : List Int} (hu : 1 ≤ u.length) (hb : ∀ z ∈ u, 0 ≤ z ∧ z ≤ 1000) : (sols a b u []).length ≤ (sols a b (moreZ u) []).length := by
  cases u with
  | nil => simp at hu
  | cons x r =>
    have hx := hb x List.mem_cons_self
    have e : moreZ (x :: r) = (if x + 1 < 1000 then x + 1 else 1000) :: r := by simp [moreZ]
    rw [e, sols_cons, sols_cons]
    refine (upto_prefix a b r [] _ _ ?_).length_le
    split <;> omega
theorem shifts_ex (a : List (List Int)) (b u : List Int) : ∃ k, true = true ∧ ShiftsAt k a b u := by
  obtain ⟨v, K1, h1⟩ := few_ev a b u
  obtain ⟨K2, h2⟩ := alive_ev
  obtain ⟨K3, h3⟩ := refCheck_ev a b u
  obtain ⟨K4, h4⟩ := natCount_ev a b u
  obtain ⟨K5, h5⟩ := natCount_ev (a ++ [rowZ a b]) (b ++ [facZ a b * b.getD 0 0]) u
  obtain ⟨K6, h6⟩ := natCount_ev a b (moreZ u)
  obtain ⟨k, hk1, hk2, hk3, hk4, hk5, hk6⟩ : ∃ k, K1 ≤ k ∧ K2 ≤ k ∧ K3 ≤ k ∧ K4 ≤ k ∧ K5 ≤ k ∧ K6 ≤ k := ⟨K1 + K2 + K3 + K4 + K5 + K6, by omega, by omega, by omega, by omega, by omega, by omega⟩
  refine ⟨k, rfl, h2 k hk2, ?_⟩
  cases v with
  | false => exact .inl (h1 k hk1)
  | true =>
    refine .inr ⟨h1 k hk1, chk a b u, h3 k hk3, ?_⟩
    by_cases hc : chk a b u = 0
    · by_cases ha0 : a.length = 0
      · exact .inl (.inr (.inl ⟨hc, ha0⟩))
      · by_cases ha6 : 60 < a.length
        · exact .inl (.inr (.inr ⟨hc, ha6⟩))
        · have hok := (chk_ok hc).1
          have e4 := h4 k hk4
          have e5 := h5 k hk5
          have e6 := h6 k hk6
          have hc2 := chk_more hc (by omega) (by omega)
          have r4 : countRes a b u = (((sols a b u []).length : Int), 0) := by unfold countRes; rw [if_pos hc]
          have r5 : countRes (a ++ [rowZ a b]) (b ++ [facZ a b * b.getD 0 0]) u = (((sols a b u []).length : Int), 0) := by unfold countRes; rw [if_pos hc2, sols_more hok.1.2.2.1 (by omega)]
          rw [r4] at e4
          rw [r5] at e5
          obtain ⟨mm, ee, r7⟩ : ∃ mm ee, countRes a b (moreZ u) = (mm, ee) := ⟨_, _, rfl⟩
          rw [r7] at e6
          refine .inr ⟨hc, by omega, by omega, hok, _, mm, ee, e4, e5, e6, ?_⟩
          by_cases hm : chk a b (moreZ u) = 0
          · right
            have r6 : countRes a b (moreZ u) = (((sols a b (moreZ u) []).length : Int), 0) := by unfold countRes; rw [if_pos hm]
            have := sols_up (a := a) (b := b) hok.1.1 hok.2.2.2.2.1
            rw [r7] at r6
            injection r6 with r6 r8
            subst r6
            simpa using this
          · left
            have r6 : countRes a b (moreZ u) = (0, chk a b (moreZ u)) := by unfold countRes; rw [if_neg hm]
            rw [r7] at r6
            injection r6 with r6 r8
            rw [r8]
            exact hm
    · exact .inl (.inl hc)

end Go.Proofs.Ytlckejjmkjgknab.Pure
