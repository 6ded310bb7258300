/- By hand (up_lat): a part of this seat's proofs. -/
import Derived.Test.YtliagbliaiigaaaXUp
import Derived.Test.YtliagbliaiigaaaXMeet
import Derived.Test.YtliagbliaiigaaaH18
namespace Go.Proofs.Ytliagbliaiigaaa.Hy
open Go.RowKit Go.Shelf Go.Proofs.YtliagbliaiigaaaW.PrintWords Go.Proofs.YtliagbliaiigaaaW.PrintLast Go.Proofs.YtliagbliaiigaaaW.PrintMore
set_option linter.unusedVariables false
set_option linter.unusedSimpArgs false
attribute [local go_sem] Oper.semAt_some
/-! ### UpsetLattice -/
theorem use_app {a b : List (List Int)} {x y : List Int} (hx : x ∈ useL a) (hy : y ∈ useL b) (hxy : x.length = y.length) : useL (a ++ b) = useL a ++ useL b := by
  have ha : ∃ m0, a.find? goodB = some m0 := by
    cases h : a.find? goodB with
    | none => unfold useL at hx; rw [h] at hx; cases hx
    | some m0 => exact ⟨m0, rfl⟩
  have hb : ∃ m1, b.find? goodB = some m1 := by
    cases h : b.find? goodB with
    | none => unfold useL at hy; rw [h] at hy; cases hy
    | some m1 => exact ⟨m1, rfl⟩
  obtain ⟨m0, ha⟩ := ha
  obtain ⟨m1, hb⟩ := hb
  have e : (a ++ b).find? goodB = some m0 := by rw [List.find?_append, ha]; rfl
  unfold useL at hx hy ⊢
  rw [ha] at hx
  rw [hb] at hy
  simp only [List.mem_filter, Bool.and_eq_true, decide_eq_true_eq] at hx hy
  have hl : m0.length = m1.length := by omega
  rw [e, ha, hb]
  simp only [List.filter_append, hl]
theorem has_union {a b : List (List Int)} {x y : List Int} (hx : x ∈ useL a) (hy : y ∈ useL b) (hxy : x.length = y.length) (m : List Int) : hasL (unionL a b) m = (hasL a m || hasL b m) := by
  rw [unionL, hasL_make]
  apply Bool.eq_iff_iff.2
  rw [Bool.or_eq_true, hasL_iff, hasL_iff, hasL_iff, use_app hx hy hxy]
  constructor
  · rintro ⟨hv, z, hz, hle⟩
    rcases List.mem_append.1 hz with hz | hz
    · exact .inl ⟨hv, z, hz, hle⟩
    · exact .inr ⟨hv, z, hz, hle⟩
  · rintro (⟨hv, z, hz, hle⟩ | ⟨hv, z, hz, hle⟩)
    · exact ⟨hv, z, List.mem_append_left _ hz, hle⟩
    · exact ⟨hv, z, List.mem_append_right _ hz, hle⟩
theorem zip_leq : ∀ (x y m : List Int), x.length = y.length → (leqL (List.zipWith mx x y) m = true ↔ leqL x m = true ∧ leqL y m = true)
  | [], [], m, _ => by cases m <;> simp [leqL]
  | [], _ :: _, _, h => by simp at h
  | _ :: _, [], _, h => by simp at h
  | a :: x, b :: y, [], _ => by simp [leqL]
  | a :: x, b :: y, c :: m, h => by
    have ih := zip_leq x y m (by simpa using h)
    simp only [List.zipWith_cons_cons, leqL, Bool.and_eq_true, decide_eq_true_eq, ih]
    have hm : mx a b ≤ c ↔ a ≤ c ∧ b ≤ c := by unfold mx; split <;> omega
    rw [hm]
    constructor
    · rintro ⟨⟨h1, h2⟩, h3, h4⟩; exact ⟨⟨h1, h3⟩, h2, h4⟩
    · rintro ⟨⟨h1, h3⟩, h2, h4⟩; exact ⟨⟨h1, h2⟩, h3, h4⟩
theorem max_vld : ∀ (x y : List Int), vldL x = true → vldL y = true → vldL (List.zipWith mx x y) = true
  | [], _, _, _ => rfl
  | _ :: _, [], _, _ => rfl
  | a :: x, b :: y, h1, h2 => by
    simp only [vldL, List.all_cons, Bool.and_eq_true, List.zipWith_cons_cons] at h1 h2 ⊢
    refine ⟨?_, max_vld x y h1.2 h2.2⟩
    have g1 := h1.1
    have g2 := h2.1
    simp only [okZ, Bool.and_eq_true, decide_eq_true_eq] at g1 g2 ⊢
    unfold mx
    split <;> omega
def meetOf (a b : List (List Int)) : List (List Int) := (makeL a).flatMap fun x => (makeL b).map fun y => maxL x y
theorem meetOf_mem {a b : List (List Int)} {z : List Int} (h : z ∈ meetOf a b) : ∃ x ∈ makeL a, ∃ y ∈ makeL b, z = maxL x y := by
  obtain ⟨x, hx, hz⟩ := List.mem_flatMap.1 h
  obtain ⟨y, hy, rfl⟩ := List.mem_map.1 hz
  exact ⟨x, hx, y, hy, rfl⟩
theorem use_meet {a b : List (List Int)} (hab : ∀ x ∈ makeL a, ∀ y ∈ makeL b, x.length = y.length) : useL (meetOf a b) = meetOf a b := by
  refine useL_id (fun z hz => ?_) (fun z hz z' hz' => ?_)
  · obtain ⟨x, hx, y, hy, rfl⟩ := meetOf_mem hz
    have h1 := makeL_mem hx
    have h2 := makeL_mem hy
    have hl := hab x hx y hy
    unfold maxL
    rw [if_pos hl]
    exact ⟨by simp; omega, by simp; omega, max_vld x y h1.2.2.2 h2.2.2.2⟩
  · obtain ⟨x, hx, y, hy, rfl⟩ := meetOf_mem hz
    obtain ⟨x', hx', y', hy', rfl⟩ := meetOf_mem hz'
    have h1 := hab x hx y hy
    have h2 := hab x' hx' y' hy'
    have h3 := make_same hx hx'
    unfold maxL
    rw [if_pos h1, if_pos h2]
    simp; omega
theorem has_meet {a b : List (List Int)} (hab : ∀ x ∈ makeL a, ∀ y ∈ makeL b, x.length = y.length) (m : List Int) : hasL (meetL a b) m = (hasL a m && hasL b m) := by
  rw [show meetL a b = makeL (meetOf a b) from rfl, hasL_make]
  apply Bool.eq_iff_iff.2
  rw [Bool.and_eq_true, hasL_iff, use_meet hab]
  constructor
  · rintro ⟨hv, z, hz, hle⟩
    obtain ⟨x, hx, y, hy, rfl⟩ := meetOf_mem hz
    unfold maxL at hle
    rw [if_pos (hab x hx y hy), zip_leq x y m (hab x hx y hy)] at hle
    exact ⟨hasL_up (hasL_mem hx) hle.1 hv, hasL_up (hasL_mem hy) hle.2 hv⟩
  · rintro ⟨h1, h2⟩
    unfold hasL at h1 h2
    rw [Bool.and_eq_true, List.any_eq_true] at h1 h2
    obtain ⟨hv, x, hx, hxm⟩ := h1
    obtain ⟨_, y, hy, hym⟩ := h2
    refine ⟨hv, maxL x y, List.mem_flatMap.2 ⟨x, hx, List.mem_map.2 ⟨y, hy, rfl⟩⟩, ?_⟩
    unfold maxL
    rw [if_pos (hab x hx y hy), zip_leq x y m (hab x hx y hy)]
    exact ⟨hxm, hym⟩
theorem meetOf_ok {a b : List (List Int)} (ha : a.length ≤ 12) (hb : b.length ≤ 12) : okIn (meetOf a b) := by
  have h1 := makeL_len a
  have h2 := makeL_len b
  refine ⟨?_, fun z hz => ?_⟩
  · unfold meetOf
    rw [List.length_flatMap]
    have : ((makeL a).map fun x => ((makeL b).map fun y => maxL x y).length) = List.replicate (makeL a).length (makeL b).length := by
      apply List.ext_getElem
      · simp
      · intro i h1 h2; simp
    rw [this]
    have := Nat.mul_le_mul (Nat.le_trans h1 ha) (Nat.le_trans h2 hb)
    simp; omega
  · obtain ⟨x, hx, y, hy, rfl⟩ := meetOf_mem hz
    have := maxL_len x y
    have := (makeL_mem hx).2.2.1
    omega
theorem app_ok {a b : List (List Int)} (ha : fewB a = true) (hb : fewB b = true) : okIn (a ++ b) := by
  have h1 := few_ok ha
  have h2 := few_ok hb
  refine ⟨by rw [List.length_append]; omega, fun m hm => ?_⟩
  rcases List.mem_append.1 hm with hm | hm
  · have := h1.2 m hm; omega
  · have := h2.2 m hm; omega
theorem union_f {a b : List (List Int)} (h : okIn (a ++ b)) : upset_Union.f a b = some (unionL a b) := by unfold upset_Union.f; rw [if_pos h]
theorem meet_f {a b : List (List Int)} (ha : fewB a = true) (hb : fewB b = true) : upset_Meet.f a b = some (meetL a b) := by
  unfold upset_Meet.f
  have h := Nat.mul_le_mul (few_ok ha).1 (few_ok hb).1
  rw [if_pos ⟨few_in ha, few_in hb, by omega⟩]
theorem lat_j1 (a b : List (List Int)) (m : List Int) (ha : fewB a = true) (hb : fewB b = true) (hm : m.length ≤ 30) {x y : List Int} (hx : x ∈ makeL a) (hy : y ∈ makeL b) (hxy : x.length = y.length) : Ev (fun k => petrinetlaw21_UpsetLattice.j1 k a b m false) true := by
  have hab : ∀ x ∈ makeL a, ∀ y ∈ makeL b, x.length = y.length := fun x' hx' y' hy' => by
    have h1 := make_same hx hx'
    have h2 := make_same hy hy'
    omega
  have hu := has_union ((base_make a).sub x hx) ((base_make b).sub y hy) hxy
  have hv := has_meet hab
  have hok := app_ok ha hb
  have oku : okIn (unionL a b) := makeL_ok hok
  have okv : okIn (meetL a b) := makeL_ok (meetOf_ok (few_ok ha).1 (few_ok hb).1)
  have s1 : subL (meetL a b) a = true := (subL_iff _ _).2 fun z hz => by rw [hv, Bool.and_eq_true] at hz; exact hz.1
  have s2 : subL (meetL a b) b = true := (subL_iff _ _).2 fun z hz => by rw [hv, Bool.and_eq_true] at hz; exact hz.2
  have s3 : subL a (unionL a b) = true := (subL_iff _ _).2 fun z hz => by rw [hu, hz]; rfl
  have s4 : subL b (unionL a b) = true := (subL_iff _ _).2 fun z hz => by rw [hu, hz, Bool.or_true]
  have hj2 : Ev (fun k => petrinetlaw21_UpsetLattice.j2 k a b (unionL a b) (meetL a b) false) true := by
    refine Ev.up ?_
    simp only [petrinetlaw21_UpsetLattice.j2, if_neg (show ¬ (false = true) by decide), sub_f okv (few_in ha), sub_f okv (few_in hb), sub_f (few_in ha) oku, sub_f (few_in hb) oku, Option.bind_some, s1, s2, s3, s4, if_true]
    exact Ev.of fun _ => rfl
  refine Ev.up ?_
  simp only [petrinetlaw21_UpsetLattice.j1, if_neg (show ¬ (false = true) by decide), has_f (few_in ha) (show m.length ≤ 1000000 by omega), has_f (few_in hb) (show m.length ≤ 1000000 by omega), union_f hok, meet_f ha hb, has_f oku (show m.length ≤ 1000000 by omega), has_f okv (show m.length ≤ 1000000 by omega), Option.bind_some, hu, hv]
  cases h1 : hasL a m with
  | true => cases h2 : hasL b m <;> simpa using hj2
  | false => cases h2 : hasL b m <;> simpa using hj2
theorem lattice_ev (a b : List (List Int)) (m : List Int) : Ev (fun k => petrinetlaw21_UpsetLattice.f k a b m) true := by
  have hj : Ev (fun k => petrinetlaw21_UpsetLattice.j0 k a b m true) true := Ev.up (Ev.of fun _ => rfl)
  have hj1 : Ev (fun k => petrinetlaw21_UpsetLattice.j1 k a b m true) true := Ev.up (Ev.of fun _ => rfl)
  simp only [petrinetlaw21_UpsetLattice.f, petrinetlaw21_lives.f, Option.bind_some, if_true]
  refine Ev.bind (few_ev a) ?_
  cases hfa : fewB a with
  | false => simp only [if_neg (show ¬ (false = true) by decide)]; exact hj
  | true =>
    simp only [if_true]
    refine Ev.bind (few_ev b) ?_
    cases hfb : fewB b with
    | false => simp only [if_neg (show ¬ (false = true) by decide)]; exact hj
    | true =>
      simp only [if_true]
      by_cases hm : (m.length : Int) > 30
      · rw [decide_eq_true hm]; exact hj
      · rw [decide_eq_false hm]
        refine Ev.up ?_
        simp only [petrinetlaw21_UpsetLattice.j0, if_neg (show ¬ (false = true) by decide), make_f (few_in hfa), make_f (few_in hfb), Option.bind_some]
        by_cases h1 : ((makeL a).length : Int) = 0
        · simp only [if_pos h1]; exact hj1
        · simp only [if_neg h1]
          by_cases h2 : ((makeL b).length : Int) = 0
          · simp only [if_pos h2]; exact hj1
          · simp only [if_neg h2, if_pos (show (0 : Int) < ((makeL a).length : Int) by omega), if_pos (show (0 : Int) < ((makeL b).length : Int) by omega)]
            cases hc : (((rd_L1 (makeL a) 0).length : Int) != ((rd_L1 (makeL b) 0).length : Int)) with
            | true => exact hj1
            | false =>
              have hmem : ∀ {l : List (List Int)}, 0 < l.length → rd_L1 l 0 ∈ l := fun {l} hl => by
                have := rdL_nat l 0
                rw [show ((0 : Nat) : Int) = 0 from rfl] at this
                rw [this, List.getD_eq_getElem?_getD, List.getElem?_eq_getElem hl]; exact List.getElem_mem _
              refine lat_j1 a b m hfa hfb (by omega) (hmem (by omega)) (hmem (by omega)) ?_
              have := bne_eq_false_iff_eq.mp hc
              omega
theorem lattice_row (a b : List (List Int)) (m : List Int) (_ : a.length ≤ 9223372036854775807) (_ : b.length ≤ 9223372036854775807) (_ : m.length ≤ 9223372036854775807) : Ev (fun k => petrinetlaw21_UpsetLattice.f k a b m) true := lattice_ev a b m

end Go.Proofs.Ytliagbliaiigaaa.Hy
