-- Written by hyb.sh (a program of this session, over the kit's printer), for the seat Ytliagbliaiigaaa.
import Derived.Test.YtliagbliaiigaaaH0
import Derived.Test.YtliagbliaiigaaaH1
import Derived.Test.YtliagbliaiigaaaH4
import Derived.Test.YtliagbliaiigaaaH5
import Derived.Test.YtliagbliaiigaaaH6
import Derived.Test.YtliagbliaiigaaaH8
import Derived.Test.YtliagbliaiigaaaH9
import Derived.Test.YtliagbliaiigaaaXLives
import Derived.Test.YtliagbliaiigaaaXMake
import Derived.Test.YtliagbliaiigaaaXUps
namespace Go.Proofs.Ytliagbliaiigaaa.Hy
open Go.RowKit Go.Proofs.YtliagbliaiigaaaW.PrintWords Go.Proofs.YtliagbliaiigaaaW.PrintLast Go.Proofs.YtliagbliaiigaaaW.PrintMore
attribute [local go_sem] max2_int min2_int max_two min_two max_three min_three max_four min_four   -- for this text's walks alone
set_option linter.unusedVariables false
set_option linter.unusedSimpArgs false

/-! ### petrinetlaw21_UpsetMinimal: function 7 -/
mutual
def petrinetlaw21_UpsetMinimal.l0 : Nat → List (List Int) → List (List Int) → Int → Option (Bool)
  | 0, _, _, _ => none
  | k + 1, x0, x3, x4 => if x4 < (x3.length : Int) then (petrinetlaw21_UpsetMinimal.l1 k x0 x3 x4 false 0) else (petrinetlaw21_UpsetMinimal.l3 k x0 x3 0)
def petrinetlaw21_UpsetMinimal.l1 : Nat → List (List Int) → List (List Int) → Int → Bool → Int → Option (Bool)
  | 0, _, _, _, _, _ => none
  | k + 1, x0, x3, x4, x5, x6 => if x6 < (x0.length : Int) then (if x5 = true then (petrinetlaw21_UpsetMinimal.l1 k x0 x3 x4 true (wrap64 (x6 + 1))) else (if 0 ≤ x6 then (if 0 ≤ x4 then (if x4 < (x3.length : Int) then ((petrinetref04_Same.f k (rd_L1 x0 x6) (rd_L1 x3 x4)).bind fun t320 => (petrinetlaw21_UpsetMinimal.l1 k x0 x3 x4 t320 (wrap64 (x6 + 1)))) else (none)) else (none)) else (none))) else (if x5 = true then (if 0 ≤ x4 then (if x4 < (x3.length : Int) then ((upset_Has.f x0 (rd_L1 x3 x4)).bind fun t322 => (if t322 = true then (if x4 > 0 then (if 0 ≤ (wrap64 (x4 - 1)) then (if (wrap64 (x4 - 1)) < (x3.length : Int) then ((petrinetref04_Compare.f k (rd_L1 x3 (wrap64 (x4 - 1))) (rd_L1 x3 x4)).bind fun t325 => (petrinetlaw21_UpsetMinimal.j2 k x0 x3 x4 (decide (t325 ≥ 0)))) else (none)) else (none)) else (petrinetlaw21_UpsetMinimal.j2 k x0 x3 x4 false)) else (petrinetlaw21_UpsetMinimal.j2 k x0 x3 x4 true))) else (none)) else (none)) else (petrinetlaw21_UpsetMinimal.j2 k x0 x3 x4 true))
def petrinetlaw21_UpsetMinimal.j2 : Nat → List (List Int) → List (List Int) → Int → Bool → Option (Bool)
  | 0, _, _, _, _ => none
  | k + 1, x0, x3, x4, x67 => if x67 = true then (some false) else (petrinetlaw21_UpsetMinimal.l2 k x0 x3 x4 0)
def petrinetlaw21_UpsetMinimal.l2 : Nat → List (List Int) → List (List Int) → Int → Int → Option (Bool)
  | 0, _, _, _, _ => none
  | k + 1, x0, x3, x4, x7 => if x7 < (x3.length : Int) then (if x7 = x4 then (petrinetlaw21_UpsetMinimal.l2 k x0 x3 x4 (wrap64 (x7 + 1))) else (if 0 ≤ x7 then (if 0 ≤ x4 then (if x4 < (x3.length : Int) then ((petrinetref04_Leq.f k (rd_L1 x3 x7) (rd_L1 x3 x4)).bind fun t328 => (if t328 = true then (some false) else (petrinetlaw21_UpsetMinimal.l2 k x0 x3 x4 (wrap64 (x7 + 1))))) else (none)) else (none)) else (none))) else (petrinetlaw21_UpsetMinimal.l0 k x0 x3 (wrap64 (x4 + 1)))
def petrinetlaw21_UpsetMinimal.l3 : Nat → List (List Int) → List (List Int) → Int → Option (Bool)
  | 0, _, _, _ => none
  | k + 1, x0, x3, x8 => if x8 < (x0.length : Int) then (petrinetlaw21_UpsetMinimal.j5 k x0 x3 x8 (decide ((x3.length : Int) > 0))) else (petrinetlaw21_UpsetMinimal.j5 k x0 x3 x8 false)
def petrinetlaw21_UpsetMinimal.j5 : Nat → List (List Int) → List (List Int) → Int → Bool → Option (Bool)
  | 0, _, _, _, _ => none
  | k + 1, x0, x3, x8, x96 => if x96 = true then (if 0 ≤ x8 then (if x8 < (x0.length : Int) then (if 0 < (x3.length : Int) then ((petrinetref04_Valid.f k (rd_L1 x0 x8) ((rd_L1 x3 0).length : Int)).bind fun t331 => (if t331 = true then ((upset_Has.f x3 (rd_L1 x0 x8)).bind fun t333 => (if t333 = true then (petrinetlaw21_UpsetMinimal.l3 k x0 x3 (wrap64 (x8 + 1))) else (some false))) else (petrinetlaw21_UpsetMinimal.l3 k x0 x3 (wrap64 (x8 + 1))))) else (none)) else (none)) else (none)) else ((upset_Make.f x3).bind fun t334 => ((petrinetref04_Lists.f k t334 x3).bind fun t337 => (if t337 = true then ((upset_Same.f x3 x0).bind fun t338 => (if t338 = true then (if (x3.length : Int) = 0 then (some true) else (if 0 < (x3.length : Int) then ((upset_Valid.f x3 ((rd_L1 x3 0).length : Int)).bind fun t340 => (some t340)) else (none))) else (some false))) else (some false))))
end
def petrinetlaw21_UpsetMinimal.f (k : Nat) (l0 : List (List Int)) : Option (Bool) := (petrinetlaw21_lives.f).bind fun t313 => (if t313 = true then ((petrinetref21_Few.f k l0).bind fun t314 => (if t314 = true then ((upset_Make.f l0).bind fun t315 => (petrinetlaw21_UpsetMinimal.l0 k l0 t315 0)) else (some true))) else (some false))
theorem petrinetlaw21_UpsetMinimal.mono_l : ∀ k, (∀ y0 y1 y2, LeO (petrinetlaw21_UpsetMinimal.l0 k y0 y1 y2) (petrinetlaw21_UpsetMinimal.l0 (k + 1) y0 y1 y2)) ∧ (∀ y0 y1 y2 y3 y4, LeO (petrinetlaw21_UpsetMinimal.l1 k y0 y1 y2 y3 y4) (petrinetlaw21_UpsetMinimal.l1 (k + 1) y0 y1 y2 y3 y4)) ∧ (∀ y0 y1 y2 y3, LeO (petrinetlaw21_UpsetMinimal.j2 k y0 y1 y2 y3) (petrinetlaw21_UpsetMinimal.j2 (k + 1) y0 y1 y2 y3)) ∧ (∀ y0 y1 y2 y3, LeO (petrinetlaw21_UpsetMinimal.l2 k y0 y1 y2 y3) (petrinetlaw21_UpsetMinimal.l2 (k + 1) y0 y1 y2 y3)) ∧ (∀ y0 y1 y2, LeO (petrinetlaw21_UpsetMinimal.l3 k y0 y1 y2) (petrinetlaw21_UpsetMinimal.l3 (k + 1) y0 y1 y2)) ∧ (∀ y0 y1 y2 y3, LeO (petrinetlaw21_UpsetMinimal.j5 k y0 y1 y2 y3) (petrinetlaw21_UpsetMinimal.j5 (k + 1) y0 y1 y2 y3))
  | 0 => ⟨fun _ _ _ r h => by simp [petrinetlaw21_UpsetMinimal.l0] at h, fun _ _ _ _ _ r h => by simp [petrinetlaw21_UpsetMinimal.l1] at h, fun _ _ _ _ r h => by simp [petrinetlaw21_UpsetMinimal.j2] at h, fun _ _ _ _ r h => by simp [petrinetlaw21_UpsetMinimal.l2] at h, fun _ _ _ r h => by simp [petrinetlaw21_UpsetMinimal.l3] at h, fun _ _ _ _ r h => by simp [petrinetlaw21_UpsetMinimal.j5] at h⟩
  | k + 1 => by
    obtain ⟨ih0, ih1, ih2, ih3, ih4, ih5⟩ := petrinetlaw21_UpsetMinimal.mono_l k
    refine ⟨?_, ?_, ?_, ?_, ?_, ?_⟩
    · intro y0 y1 y2
      unfold petrinetlaw21_UpsetMinimal.l0
      repeat' first
      | (with_reducible exact ih0 _ _ _)
      | (with_reducible exact ih1 _ _ _ _ _)
      | (with_reducible exact ih2 _ _ _ _)
      | (with_reducible exact ih3 _ _ _ _)
      | (with_reducible exact ih4 _ _ _)
      | (with_reducible exact ih5 _ _ _ _)
      | (with_reducible exact petrinetref04_Compare.mono _ _ _)
      | (with_reducible exact petrinetref04_Leq.mono _ _ _)
      | (with_reducible exact petrinetref04_Lists.mono _ _ _)
      | (with_reducible exact petrinetref04_Same.mono _ _ _)
      | (with_reducible exact petrinetref04_Valid.mono _ _ _)
      | (with_reducible exact petrinetref21_Few.mono _ _)
      | (with_reducible exact LeO.refl _)
      | (with_reducible exact LeO.none _)
      | (with_reducible refine LeO.ite ?_ ?_)
      | (with_reducible refine LeO.bind ?_ (fun _ => ?_))
      | exact ih0 _ _ _
      | exact ih1 _ _ _ _ _
      | exact ih2 _ _ _ _
      | exact ih3 _ _ _ _
      | exact ih4 _ _ _
      | exact ih5 _ _ _ _
      | exact petrinetref04_Compare.mono _ _ _
      | exact petrinetref04_Leq.mono _ _ _
      | exact petrinetref04_Lists.mono _ _ _
      | exact petrinetref04_Same.mono _ _ _
      | exact petrinetref04_Valid.mono _ _ _
      | exact petrinetref21_Few.mono _ _
      | exact LeO.none _
      | refine LeO.ite ?_ ?_
      | refine LeO.bind ?_ (fun _ => ?_)
    · intro y0 y1 y2 y3 y4
      unfold petrinetlaw21_UpsetMinimal.l1
      repeat' first
      | (with_reducible exact ih0 _ _ _)
      | (with_reducible exact ih1 _ _ _ _ _)
      | (with_reducible exact ih2 _ _ _ _)
      | (with_reducible exact ih3 _ _ _ _)
      | (with_reducible exact ih4 _ _ _)
      | (with_reducible exact ih5 _ _ _ _)
      | (with_reducible exact petrinetref04_Compare.mono _ _ _)
      | (with_reducible exact petrinetref04_Leq.mono _ _ _)
      | (with_reducible exact petrinetref04_Lists.mono _ _ _)
      | (with_reducible exact petrinetref04_Same.mono _ _ _)
      | (with_reducible exact petrinetref04_Valid.mono _ _ _)
      | (with_reducible exact petrinetref21_Few.mono _ _)
      | (with_reducible exact LeO.refl _)
      | (with_reducible exact LeO.none _)
      | (with_reducible refine LeO.ite ?_ ?_)
      | (with_reducible refine LeO.bind ?_ (fun _ => ?_))
      | exact ih0 _ _ _
      | exact ih1 _ _ _ _ _
      | exact ih2 _ _ _ _
      | exact ih3 _ _ _ _
      | exact ih4 _ _ _
      | exact ih5 _ _ _ _
      | exact petrinetref04_Compare.mono _ _ _
      | exact petrinetref04_Leq.mono _ _ _
      | exact petrinetref04_Lists.mono _ _ _
      | exact petrinetref04_Same.mono _ _ _
      | exact petrinetref04_Valid.mono _ _ _
      | exact petrinetref21_Few.mono _ _
      | exact LeO.none _
      | refine LeO.ite ?_ ?_
      | refine LeO.bind ?_ (fun _ => ?_)
    · intro y0 y1 y2 y3
      unfold petrinetlaw21_UpsetMinimal.j2
      repeat' first
      | (with_reducible exact ih0 _ _ _)
      | (with_reducible exact ih1 _ _ _ _ _)
      | (with_reducible exact ih2 _ _ _ _)
      | (with_reducible exact ih3 _ _ _ _)
      | (with_reducible exact ih4 _ _ _)
      | (with_reducible exact ih5 _ _ _ _)
      | (with_reducible exact petrinetref04_Compare.mono _ _ _)
      | (with_reducible exact petrinetref04_Leq.mono _ _ _)
      | (with_reducible exact petrinetref04_Lists.mono _ _ _)
      | (with_reducible exact petrinetref04_Same.mono _ _ _)
      | (with_reducible exact petrinetref04_Valid.mono _ _ _)
      | (with_reducible exact petrinetref21_Few.mono _ _)
      | (with_reducible exact LeO.refl _)
      | (with_reducible exact LeO.none _)
      | (with_reducible refine LeO.ite ?_ ?_)
      | (with_reducible refine LeO.bind ?_ (fun _ => ?_))
      | exact ih0 _ _ _
      | exact ih1 _ _ _ _ _
      | exact ih2 _ _ _ _
      | exact ih3 _ _ _ _
      | exact ih4 _ _ _
      | exact ih5 _ _ _ _
      | exact petrinetref04_Compare.mono _ _ _
      | exact petrinetref04_Leq.mono _ _ _
      | exact petrinetref04_Lists.mono _ _ _
      | exact petrinetref04_Same.mono _ _ _
      | exact petrinetref04_Valid.mono _ _ _
      | exact petrinetref21_Few.mono _ _
      | exact LeO.none _
      | refine LeO.ite ?_ ?_
      | refine LeO.bind ?_ (fun _ => ?_)
    · intro y0 y1 y2 y3
      unfold petrinetlaw21_UpsetMinimal.l2
      repeat' first
      | (with_reducible exact ih0 _ _ _)
      | (with_reducible exact ih1 _ _ _ _ _)
      | (with_reducible exact ih2 _ _ _ _)
      | (with_reducible exact ih3 _ _ _ _)
      | (with_reducible exact ih4 _ _ _)
      | (with_reducible exact ih5 _ _ _ _)
      | (with_reducible exact petrinetref04_Compare.mono _ _ _)
      | (with_reducible exact petrinetref04_Leq.mono _ _ _)
      | (with_reducible exact petrinetref04_Lists.mono _ _ _)
      | (with_reducible exact petrinetref04_Same.mono _ _ _)
      | (with_reducible exact petrinetref04_Valid.mono _ _ _)
      | (with_reducible exact petrinetref21_Few.mono _ _)
      | (with_reducible exact LeO.refl _)
      | (with_reducible exact LeO.none _)
      | (with_reducible refine LeO.ite ?_ ?_)
      | (with_reducible refine LeO.bind ?_ (fun _ => ?_))
      | exact ih0 _ _ _
      | exact ih1 _ _ _ _ _
      | exact ih2 _ _ _ _
      | exact ih3 _ _ _ _
      | exact ih4 _ _ _
      | exact ih5 _ _ _ _
      | exact petrinetref04_Compare.mono _ _ _
      | exact petrinetref04_Leq.mono _ _ _
      | exact petrinetref04_Lists.mono _ _ _
      | exact petrinetref04_Same.mono _ _ _
      | exact petrinetref04_Valid.mono _ _ _
      | exact petrinetref21_Few.mono _ _
      | exact LeO.none _
      | refine LeO.ite ?_ ?_
      | refine LeO.bind ?_ (fun _ => ?_)
    · intro y0 y1 y2
      unfold petrinetlaw21_UpsetMinimal.l3
      repeat' first
      | (with_reducible exact ih0 _ _ _)
      | (with_reducible exact ih1 _ _ _ _ _)
      | (with_reducible exact ih2 _ _ _ _)
      | (with_reducible exact ih3 _ _ _ _)
      | (with_reducible exact ih4 _ _ _)
      | (with_reducible exact ih5 _ _ _ _)
      | (with_reducible exact petrinetref04_Compare.mono _ _ _)
      | (with_reducible exact petrinetref04_Leq.mono _ _ _)
      | (with_reducible exact petrinetref04_Lists.mono _ _ _)
      | (with_reducible exact petrinetref04_Same.mono _ _ _)
      | (with_reducible exact petrinetref04_Valid.mono _ _ _)
      | (with_reducible exact petrinetref21_Few.mono _ _)
      | (with_reducible exact LeO.refl _)
      | (with_reducible exact LeO.none _)
      | (with_reducible refine LeO.ite ?_ ?_)
      | (with_reducible refine LeO.bind ?_ (fun _ => ?_))
      | exact ih0 _ _ _
      | exact ih1 _ _ _ _ _
      | exact ih2 _ _ _ _
      | exact ih3 _ _ _ _
      | exact ih4 _ _ _
      | exact ih5 _ _ _ _
      | exact petrinetref04_Compare.mono _ _ _
      | exact petrinetref04_Leq.mono _ _ _
      | exact petrinetref04_Lists.mono _ _ _
      | exact petrinetref04_Same.mono _ _ _
      | exact petrinetref04_Valid.mono _ _ _
      | exact petrinetref21_Few.mono _ _
      | exact LeO.none _
      | refine LeO.ite ?_ ?_
      | refine LeO.bind ?_ (fun _ => ?_)
    · intro y0 y1 y2 y3
      unfold petrinetlaw21_UpsetMinimal.j5
      repeat' first
      | (with_reducible exact ih0 _ _ _)
      | (with_reducible exact ih1 _ _ _ _ _)
      | (with_reducible exact ih2 _ _ _ _)
      | (with_reducible exact ih3 _ _ _ _)
      | (with_reducible exact ih4 _ _ _)
      | (with_reducible exact ih5 _ _ _ _)
      | (with_reducible exact petrinetref04_Compare.mono _ _ _)
      | (with_reducible exact petrinetref04_Leq.mono _ _ _)
      | (with_reducible exact petrinetref04_Lists.mono _ _ _)
      | (with_reducible exact petrinetref04_Same.mono _ _ _)
      | (with_reducible exact petrinetref04_Valid.mono _ _ _)
      | (with_reducible exact petrinetref21_Few.mono _ _)
      | (with_reducible exact LeO.refl _)
      | (with_reducible exact LeO.none _)
      | (with_reducible refine LeO.ite ?_ ?_)
      | (with_reducible refine LeO.bind ?_ (fun _ => ?_))
      | exact ih0 _ _ _
      | exact ih1 _ _ _ _ _
      | exact ih2 _ _ _ _
      | exact ih3 _ _ _ _
      | exact ih4 _ _ _
      | exact ih5 _ _ _ _
      | exact petrinetref04_Compare.mono _ _ _
      | exact petrinetref04_Leq.mono _ _ _
      | exact petrinetref04_Lists.mono _ _ _
      | exact petrinetref04_Same.mono _ _ _
      | exact petrinetref04_Valid.mono _ _ _
      | exact petrinetref21_Few.mono _ _
      | exact LeO.none _
      | refine LeO.ite ?_ ?_
      | refine LeO.bind ?_ (fun _ => ?_)
theorem petrinetlaw21_UpsetMinimal.mono : ∀ a0 k, LeO (petrinetlaw21_UpsetMinimal.f k a0) (petrinetlaw21_UpsetMinimal.f (k + 1) a0) := by
  intro a0 k
  obtain ⟨ih0, ih1, ih2, ih3, ih4, ih5⟩ := petrinetlaw21_UpsetMinimal.mono_l k
  unfold petrinetlaw21_UpsetMinimal.f
  repeat' first
      | (with_reducible exact ih0 _ _ _)
      | (with_reducible exact ih1 _ _ _ _ _)
      | (with_reducible exact ih2 _ _ _ _)
      | (with_reducible exact ih3 _ _ _ _)
      | (with_reducible exact ih4 _ _ _)
      | (with_reducible exact ih5 _ _ _ _)
      | (with_reducible exact petrinetref04_Compare.mono _ _ _)
      | (with_reducible exact petrinetref04_Leq.mono _ _ _)
      | (with_reducible exact petrinetref04_Lists.mono _ _ _)
      | (with_reducible exact petrinetref04_Same.mono _ _ _)
      | (with_reducible exact petrinetref04_Valid.mono _ _ _)
      | (with_reducible exact petrinetref21_Few.mono _ _)
      | (with_reducible exact LeO.refl _)
      | (with_reducible exact LeO.none _)
      | (with_reducible refine LeO.ite ?_ ?_)
      | (with_reducible refine LeO.bind ?_ (fun _ => ?_))
      | exact ih0 _ _ _
      | exact ih1 _ _ _ _ _
      | exact ih2 _ _ _ _
      | exact ih3 _ _ _ _
      | exact ih4 _ _ _
      | exact ih5 _ _ _ _
      | exact petrinetref04_Compare.mono _ _ _
      | exact petrinetref04_Leq.mono _ _ _
      | exact petrinetref04_Lists.mono _ _ _
      | exact petrinetref04_Same.mono _ _ _
      | exact petrinetref04_Valid.mono _ _ _
      | exact petrinetref21_Few.mono _ _
      | exact LeO.none _
      | refine LeO.ite ?_ ?_
      | refine LeO.bind ?_ (fun _ => ?_)
def petrinetlaw21_UpsetMinimal.T13 : Bool × List (List Nat × List Nat) := (true, [([], []), ([0], [0]), ([1], [1]), ([1], [1]), ([2, 3, 1], [1, 2, 3]), ([4, 1], [1, 4]), ([1], [1]), ([1], [1]), ([6, 7, 1], [1, 6, 7]), ([8, 1], [1, 8]), ([5, 9, 1, 1], [1, 5, 9]), ([1, 10], [1, 10]), ([11, 10, 0, 1, 2, 3, 4, 5, 6, 7, 8, 9, 10, 11], [0, 11])])
def petrinetlaw21_UpsetMinimal.B13 : List Nat := [0, 1, 3, 3, 15, 31, 3, 3, 195, 451, 1023, 2047, 4095]
theorem petrinetlaw21_UpsetMinimal.tab13 : rtab .any (opsOf Try.f7 13) = petrinetlaw21_UpsetMinimal.T13 := by kernel_rfl
theorem petrinetlaw21_UpsetMinimal.bits13 : waitsOk petrinetlaw21_UpsetMinimal.T13.2 petrinetlaw21_UpsetMinimal.B13 = true := by kernel_rfl
def petrinetlaw21_UpsetMinimal.T14 : Bool × List (List Nat × List Nat) := (true, [([], []), ([0], [0]), ([1], [1]), ([2], [2]), ([2], [2]), ([2], [2]), ([4, 5, 2], [2, 4, 5]), ([6, 2], [2, 6]), ([3, 7, 2, 2], [2, 3, 7]), ([8, 2], [2, 8]), ([2, 9], [2, 9]), ([10, 8], [10]), ([11], [11]), ([12, 11], [11, 12]), ([13, 11, 11], [11, 13]), ([14], [14]), ([14], [14]), ([16, 14], [14, 16]), ([15, 17, 14], [14, 15, 17]), ([18, 14], [14, 18]), ([14], [14]), ([14], [14]), ([20, 21, 14], [14, 20, 21]), ([22, 14], [14, 22]), ([19, 23, 14, 14], [14, 19, 23]), ([24, 14], [14, 24]), ([14, 25, 11], [11, 14, 25]), ([11, 26], [11, 26])])
def petrinetlaw21_UpsetMinimal.B14 : List Nat := [0, 1, 3, 7, 7, 7, 55, 119, 255, 511, 1023, 2047, 4095, 8191, 16383, 32767, 32767, 98303, 262143, 524287, 32767, 32767, 3178495, 7372799, 16777215, 33554431, 67108863, 134217727]
theorem petrinetlaw21_UpsetMinimal.tab14 : rtab .any (opsOf Try.f7 14) = petrinetlaw21_UpsetMinimal.T14 := by kernel_rfl
theorem petrinetlaw21_UpsetMinimal.bits14 : waitsOk petrinetlaw21_UpsetMinimal.T14.2 petrinetlaw21_UpsetMinimal.B14 = true := by kernel_rfl
def petrinetlaw21_UpsetMinimal.T19 : Bool × List (List Nat × List Nat) := (true, [([], []), ([], []), ([0, 1], [0, 1]), ([2], [2]), ([3], [3]), ([3], [3]), ([4, 5, 3], [3, 4, 5]), ([6, 3], [3, 6]), ([3], [3]), ([3], [3]), ([8, 9, 3], [3, 8, 9]), ([10, 3], [3, 10]), ([7, 11, 3, 3], [3, 7, 11]), ([3, 12], [3, 12])])
def petrinetlaw21_UpsetMinimal.B19 : List Nat := [0, 0, 3, 7, 15, 15, 63, 127, 15, 15, 783, 1807, 4095, 8191]
theorem petrinetlaw21_UpsetMinimal.tab19 : rtab .any (opsOf Try.f7 19) = petrinetlaw21_UpsetMinimal.T19 := by kernel_rfl
theorem petrinetlaw21_UpsetMinimal.bits19 : waitsOk petrinetlaw21_UpsetMinimal.T19.2 petrinetlaw21_UpsetMinimal.B19 = true := by kernel_rfl
def petrinetlaw21_UpsetMinimal.T24 : Bool × List (List Nat × List Nat) := (true, [([], []), ([], []), ([0, 1], [0, 1]), ([2], [2]), ([], []), ([4], [4]), ([5], [5]), ([6], [6]), ([3, 7], [3, 7]), ([8, 8], [8]), ([9], [9]), ([9], [9]), ([9], [9]), ([11, 12, 9], [9, 11, 12]), ([13, 9], [9, 13]), ([10, 14, 9, 9], [9, 10, 14]), ([15, 9], [9, 15]), ([9, 16], [9, 16])])
def petrinetlaw21_UpsetMinimal.B24 : List Nat := [0, 0, 3, 7, 0, 16, 48, 112, 255, 511, 1023, 1023, 1023, 7167, 15359, 32767, 65535, 131071]
theorem petrinetlaw21_UpsetMinimal.tab24 : rtab .any (opsOf Try.f7 24) = petrinetlaw21_UpsetMinimal.T24 := by kernel_rfl
theorem petrinetlaw21_UpsetMinimal.bits24 : waitsOk petrinetlaw21_UpsetMinimal.T24.2 petrinetlaw21_UpsetMinimal.B24 = true := by kernel_rfl
end Go.Proofs.Ytliagbliaiigaaa.Hy
