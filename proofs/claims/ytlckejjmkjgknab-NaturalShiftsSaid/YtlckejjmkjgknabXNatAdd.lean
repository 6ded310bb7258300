/- By hand (nat_add, nat_pure): a part of this seat's proofs. -/
import Derived.Test.YtlckejjmkjgknabXNatEnv
namespace Go.Proofs.Ytlckejjmkjgknab.Hy
open Go.RowKit Go.Shelf Go.Proofs.YtlckejjmkjgknabW.PrintWords Go.Proofs.YtlckejjmkjgknabW.PrintLast Go.Proofs.YtlckejjmkjgknabW.PrintMore
set_option linter.unusedVariables false
set_option linter.unusedSimpArgs false
theorem mul_bound {k z : Int} (K Z : Nat) (h1 : -(K : Int) ≤ k ∧ k ≤ K) (h2 : -(Z : Int) ≤ z ∧ z ≤ Z) : -((K * Z : Nat) : Int) ≤ k * z ∧ k * z ≤ ((K * Z : Nat) : Int) := by
  have a1 : k.natAbs ≤ K := by omega
  have a2 : z.natAbs ≤ Z := by omega
  have a3 : (k * z).natAbs ≤ K * Z := by rw [Int.natAbs_mul]; exact Nat.mul_le_mul a1 a2
  omega
set_option maxHeartbeats 4000000 in
theorem add_calls (E : Env) (hE : E.Ok) (W : World) (x left : List Int) (h : Inv E W x left) (at_ : Nat) (k : Int) (hat : at_ < E.u.length) (hk : -1000 ≤ k ∧ k ≤ 1000)
    (hb : ∀ z ∈ left, -1000000000000 ≤ z ∧ z ≤ 1000000000000) :
    Calls Try.prog 26 #[.int .i64 at_, .int .i64 k, .pointer (some ⟨E.Ba, 0, none⟩), .pointer (some ⟨E.s + 4, 0, none⟩)] W fun e W' =>
      e = .returned (.tuple #[]) ∧ Inv E W' x (addL E.a left at_ k) ∧ Chg E.priv W W' := by
  have hm : E.a.length ≤ 64 := hE.a1
  have hll := h.hl
  have cA := cell_of_one h.ba
  have HI := Aside0.mk h
  go_enter Try.func26, Try.ntmps26
  go_wp2
  go_loopw [10] (fun i wr => ∃ j : Nat, j ≤ E.a.length ∧ i = .int .i64 j ∧ Aside0 (Inv E wr x (addP E.a left at_ k j)) ∧ Aside0 (Chg E.priv W wr)) (fun i _ => E.a.length - (intOf i).toNat)
  case atStart => exact ⟨0, Nat.zero_le _, rfl, ⟨by simpa [addP] using h⟩, ⟨Chg.refl _ _⟩⟩
  case round =>
    clear cA HI
    obtain ⟨j, hj, rfl, hI, hC⟩ := hrel
    by_cases hlt : j < E.a.length
    · obtain ⟨ad, Ai, ci, hAa, hrow, hC1⟩ := rows_at (Kd.C_below hE.ha hI.out.b0) j hlt
      have hmem : E.a.getD j [] ∈ E.a := by rw [List.getD_eq_getElem?_getD, List.getElem?_eq_getElem hlt]; exact List.getElem_mem hlt
      have hset0 := addP_set E.a left at_ k j hll hlt
      have e0 : E.a[j]?.getD [] = E.a.getD j [] := (List.getD_eq_getElem?_getD ..).symm
      rw [e0] at hset0
      obtain ⟨row, hrow0⟩ : ∃ row, E.a.getD j [] = row := ⟨_, rfl⟩
      rw [hrow0] at hrow hC1 hmem hset0
      have hrl : row.length = E.u.length := hE.rows _ hmem
      obtain ⟨ai, hAi, hz⟩ := int_at hC1 at_ (by omega)
      subst hAi
      have hzb := hE.ra row hmem (row.getD at_ 0) (by rw [List.getD_eq_getElem?_getD, List.getElem?_eq_getElem (show at_ < row.length by omega)]; exact List.getElem_mem _)
      have e1 : row[at_]?.getD 0 = row.getD at_ 0 := (List.getD_eq_getElem?_getD ..).symm
      rw [e1] at hset0
      obtain ⟨z, hz0⟩ : ∃ z, row.getD at_ 0 = z := ⟨_, rfl⟩
      rw [hz0] at hz hzb hset0
      have hlc := hI.out.lcell j hlt
      have hlf := blk_frozen hI.out.lr j
      have hlb := cell_of_one hI.out.lb
      have hlv := hb (left[j]?.getD 0) (by rw [List.getElem?_eq_getElem (show j < left.length by omega)]; exact List.getElem_mem _)
      rw [addP_at E.a left at_ k j hll hlt] at hlc
      obtain ⟨y, hy0⟩ : ∃ y, left[j]?.getD 0 = y := ⟨_, rfl⟩
      rw [hy0] at hlc hlv hset0
      have hset := hI.out.setl hE j (y - k * z)
      rw [hset0] at hset
      have hset' := Aside0.mk hset
      have hC2 := Aside0.mk (hC.out.setCell (p := ⟨E.s + 3, j, none⟩) ⟨show E.s ≤ E.s + 3 by omega, show E.s + 3 < E.s + 7 by omega⟩ (.int .i64 (y - k * z)))
      have hmul : -10000000 ≤ k * z ∧ k * z ≤ 10000000 := mul_bound 1000 10000 hk hzb
      have hat2 : at_ < row.length := by omega
      clear hI hC hC1 hb hset hset0 hrow0 hz0 hy0 e0 e1 hmem hrl
      go_wp2
      go_region
      all_goals go_wp2
      go_roundw
      case rel => exact ⟨j + 1, by omega, by go_num, ⟨hset'.out.drew⟩, ⟨hC2.out.drew⟩⟩
      case measure => simp [intOf]; omega
    · obtain rfl : j = E.a.length := by omega
      go_wp2
      go_end0
      refine ⟨rfl, ?_, hC.out⟩
      have := hI.out
      rwa [show addP E.a left at_ k E.a.length = addL E.a left at_ k from by rw [addP, List.take_of_length_le (by rw [addL_len _ _ _ _ hll]; omega), List.drop_of_length_le (by omega), List.append_nil]] at this

/-! ### solutions, as lists -/
def dot : List Int → List Int → Int
  | r :: rs, p :: ps => r * p + dot rs ps
  | _, _ => 0
theorem dot_nil (r : List Int) : dot r [] = 0 := by cases r <;> rfl
theorem dot_snoc (p : List Int) : ∀ (r : List Int) (v : Int), p.length < r.length → dot r (p ++ [v]) = dot r p + (r[p.length]?.getD 0) * v := by
  induction p with
  | nil => intro r v h; cases r with
    | nil => simp at h
    | cons r0 rs => simp [dot, dot_nil]
  | cons p0 ps ih => intro r v h; cases r with
    | nil => simp at h
    | cons r0 rs =>
      simp only [List.length_cons] at h
      simp only [List.cons_append, dot, ih rs v (by omega), List.length_cons, List.getElem?_cons_succ]
      omega
def leftOf (a : List (List Int)) (b p : List Int) : List Int := List.zipWith (fun r d => d - dot r p) a b
theorem leftOf_len (a : List (List Int)) (b p : List Int) (h : a.length = b.length) : (leftOf a b p).length = a.length := by simp [leftOf, h]
theorem leftOf_nil (a : List (List Int)) (b : List Int) (h : a.length = b.length) : leftOf a b [] = b := by
  unfold leftOf
  apply List.ext_getElem
  · simp [h]
  · intro i h1 h2; simp [dot_nil]
theorem leftOf_snoc (a : List (List Int)) (b p : List Int) (v k : Int) (h : ∀ r ∈ a, p.length < r.length) : addL a (leftOf a b (p ++ [v])) p.length k = leftOf a b (p ++ [v + k]) := by
  unfold addL leftOf
  apply List.ext_getElem
  · simp
  · intro i h1 h2
    have hi : i < a.length := by simp at h2; omega
    have hr := h a[i] (List.getElem_mem hi)
    simp only [List.getElem_zipWith]
    rw [dot_snoc p _ v hr, dot_snoc p _ (v + k) hr, Int.mul_add, Int.mul_comm k]
    omega
theorem leftOf_zero (a : List (List Int)) (b p : List Int) (h : ∀ r ∈ a, p.length < r.length) : leftOf a b (p ++ [0]) = leftOf a b p := by
  unfold leftOf
  apply List.ext_getElem
  · simp
  · intro i h1 h2
    have hi : i < a.length := by simp at h2; omega
    simp only [List.getElem_zipWith]
    rw [dot_snoc p _ 0 (h a[i] (List.getElem_mem hi))]; omega
theorem dot_bound (p : List Int) : ∀ (r : List Int), (∀ z ∈ r, -10000 ≤ z ∧ z ≤ 10000) → (∀ z ∈ p, 0 ≤ z ∧ z ≤ 1000) → -(10000000 * (p.length : Int)) ≤ dot r p ∧ dot r p ≤ 10000000 * (p.length : Int) := by
  induction p with
  | nil => intro r _ _; rw [dot_nil]; simp
  | cons p0 ps ih => intro r hr hp; cases r with
    | nil => simp only [dot]; omega
    | cons r0 rs =>
      have h1 := ih rs (fun z hz => hr z (List.mem_cons_of_mem _ hz)) (fun z hz => hp z (List.mem_cons_of_mem _ hz))
      have h2 := hr r0 List.mem_cons_self
      have h3 := hp p0 List.mem_cons_self
      have h4 := mul_bound (k := r0) (z := p0) 10000 1000 h2 ⟨by omega, by omega⟩
      simp only [dot, List.length_cons]
      omega
theorem leftOf_bound (a : List (List Int)) (b p : List Int) (ha : ∀ r ∈ a, ∀ z ∈ r, -10000 ≤ z ∧ z ≤ 10000) (hb : ∀ z ∈ b, -10000 ≤ z ∧ z ≤ 10000) (hp : ∀ z ∈ p, 0 ≤ z ∧ z ≤ 1000) (hl : p.length ≤ 64) :
    ∀ z ∈ leftOf a b p, -1000000000000 ≤ z ∧ z ≤ 1000000000000 := by
  intro z hz
  obtain ⟨i, hi, rfl⟩ := List.getElem_of_mem hz
  have hi2 : i < a.length ∧ i < b.length := by simp [leftOf] at hi; omega
  simp only [leftOf, List.getElem_zipWith]
  have h1 := dot_bound p a[i] (ha _ (List.getElem_mem hi2.1)) hp
  have h2 := hb b[i] (List.getElem_mem hi2.2)
  omega
/-- the vectors within the bounds, in lexicographic order -/
def allZ : List Int → List (List Int)
  | [] => [[]]
  | u :: us => (List.range (u.toNat + 1)).flatMap fun (v : Nat) => (allZ us).map ((v : Int) :: ·)
def isSol (a : List (List Int)) (b x : List Int) : Bool := (leftOf a b x).all (· == 0)
/-- the solutions that begin with p, the rest within us -/
def sols (a : List (List Int)) (b : List Int) (us p : List Int) : List (List Int) := ((allZ us).map (p ++ ·)).filter (isSol a b)
theorem sols_nil (a : List (List Int)) (b p : List Int) : sols a b [] p = if isSol a b p then [p] else [] := by
  simp [sols, allZ, List.filter_cons]
/-- what has come when the values below v are done -/
def upto (a : List (List Int)) (b : List Int) (us p : List Int) (v : Nat) : List (List Int) := (List.range v).flatMap fun (i : Nat) => sols a b us (p ++ [(i : Int)])
theorem upto_zero (a : List (List Int)) (b us p : List Int) : upto a b us p 0 = [] := rfl
theorem upto_succ (a : List (List Int)) (b us p : List Int) (v : Nat) : upto a b us p (v + 1) = upto a b us p v ++ sols a b us (p ++ [(v : Int)]) := by
  simp [upto, List.range_succ]
theorem sols_cons (a : List (List Int)) (b : List Int) (u : Int) (us p : List Int) : sols a b (u :: us) p = upto a b us p (u.toNat + 1) := by
  simp only [sols, allZ, upto, List.map_flatMap, List.filter_flatMap, List.map_map]
  congr 1
  funext v
  congr 2
  funext x
  simp
theorem upto_prefix (a : List (List Int)) (b us p : List Int) (v w : Nat) (h : v ≤ w) : upto a b us p v <+: upto a b us p w := by
  obtain ⟨d, rfl⟩ : ∃ d, w = v + d := ⟨w - v, by omega⟩
  unfold upto
  rw [List.range_add, List.flatMap_append]
  exact List.prefix_append _ _

end Go.Proofs.Ytlckejjmkjgknab.Hy
