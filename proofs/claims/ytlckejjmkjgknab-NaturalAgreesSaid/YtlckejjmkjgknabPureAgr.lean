/- the plain law of NaturalAgrees -/
import Derived.Test.YtlckejjmkjgknabPureFew
import Derived.Test.YtlckejjmkjgknabH13
namespace Go.Proofs.Ytlckejjmkjgknab.Pure
open Go.RowKit Go.Proofs.Ytlckejjmkjgknab.Hy Go.Proofs.YtlckejjmkjgknabW.PrintWords Go.Proofs.YtlckejjmkjgknabW.PrintLast Go.Proofs.YtlckejjmkjgknabW.PrintMore
/-! ### all three agree -/
def lexL : List Int → List Int → Prop
  | a :: xs, b :: ys => a < b ∨ (a = b ∧ lexL xs ys)
  | _, _ => False
theorem allZ_lex : ∀ us, (allZ us).Pairwise lexL
  | [] => List.pairwise_singleton _ _
  | u :: us => by
    rw [allZ, List.pairwise_flatMap]
    refine ⟨fun v _ => ?_, ?_⟩
    · rw [List.pairwise_map]
      exact (allZ_lex us).imp (fun h => .inr ⟨rfl, h⟩)
    · refine List.pairwise_lt_range.imp (fun {v1 v2} h x hx y hy => ?_)
      obtain ⟨x', _, rfl⟩ := List.mem_map.1 hx
      obtain ⟨y', _, rfl⟩ := List.mem_map.1 hy
      exact .inl (by omega)
theorem allZ_mem : ∀ (us x : List Int), (∀ z ∈ us, inU z) → x ∈ allZ us → x.length = us.length ∧ ∀ j : Nat, j < us.length → 0 ≤ x.getD j 0 ∧ x.getD j 0 ≤ us.getD j 0
  | [], x, _, hx => by
    have : x = [] := by simpa [allZ] using hx
    subst this
    exact ⟨rfl, fun j hj => by simp at hj⟩
  | u :: us, x, hu, hx => by
    rw [allZ, List.mem_flatMap] at hx
    obtain ⟨v, hv, hx⟩ := hx
    obtain ⟨y, hy, rfl⟩ := List.mem_map.1 hx
    obtain ⟨h1, h2⟩ := allZ_mem us y (fun z hz => hu z (List.mem_cons_of_mem _ hz)) hy
    have h3 := hu u List.mem_cons_self
    simp only [inU, Bool.and_eq_true, decide_eq_true_eq] at h3
    rw [List.mem_range] at hv
    refine ⟨by simp [h1], fun j hj => ?_⟩
    cases j with
    | zero => simp only [List.getD_cons_zero]; omega
    | succ j => simp only [List.getD_cons_succ]; exact h2 j (by simpa using hj)
theorem sols_mem {a : List (List Int)} {b u x : List Int} (hu : ∀ z ∈ u, inU z) (h : x ∈ sols a b u []) : x.length = u.length ∧ (∀ j : Nat, j < u.length → 0 ≤ x.getD j 0 ∧ x.getD j 0 ≤ u.getD j 0) ∧ isSol a b x = true ∧ ∀ z ∈ x, 0 ≤ z ∧ z ≤ 1000 := by
  have h' : x ∈ (allZ u).filter (isSol a b) := by simpa [sols] using h
  rw [List.mem_filter] at h'
  obtain ⟨h1, h2⟩ := allZ_mem u x hu h'.1
  refine ⟨h1, h2, h'.2, fun z hz => ?_⟩
  obtain ⟨i, hi, rfl⟩ := List.getElem_of_mem hz
  have h3 := h2 i (by omega)
  rw [List.getD_eq_getElem?_getD, List.getElem?_eq_getElem hi] at h3
  have h4 := hu (u.getD i 0) (by rw [List.getD_eq_getElem?_getD, List.getElem?_eq_getElem (by omega)]; exact List.getElem_mem (by omega))
  simp only [inU, Bool.and_eq_true, decide_eq_true_eq] at h4
  simp only [Option.getD_some] at h3
  omega
theorem sols_lex (a : List (List Int)) (b u : List Int) (n i : Nat) (h : i + 1 < ((sols a b u []).take n).length) : lexL (rd_L1 ((sols a b u []).take n) (i : Int)) (rd_L1 ((sols a b u []).take n) ((i + 1 : Nat) : Int)) := by
  have h1 : (sols a b u []).Pairwise lexL := by
    have : sols a b u [] = (allZ u).filter (isSol a b) := by simp [sols]
    rw [this]
    exact (allZ_lex u).filter _
  have h2 := h1.sublist (List.take_sublist n _)
  rw [List.pairwise_iff_getElem] at h2
  have h3 := h2 i (i + 1) (by omega) h (by omega)
  rw [rdL_nat, rdL_nat, List.getD_eq_getElem?_getD, List.getD_eq_getElem?_getD, List.getElem?_eq_getElem (by omega), List.getElem?_eq_getElem h]
  exact h3
theorem chk_nil {a : List (List Int)} {b u : List Int} (hc : chk a b u = 0) : chk [] [] u = 0 := by
  have hok := (chk_ok hc).1
  unfold chk at hc ⊢
  split at hc
  · cases hc
  · rename_i h1
    split at hc
    · cases hc
    · split at hc
      · cases hc
      · rename_i h3
        split at hc
        · cases hc
        · rename_i h4
          rw [Bool.not_eq_false] at h3
          simp only [Bool.and_eq_true] at h3
          have g1 := hok.1
          rw [if_neg (show ¬ (u.length < 1 ∨ u.length > 64 ∨ ([] : List (List Int)).length ≠ ([] : List Int).length ∨ ([] : List (List Int)).length > 64) by rintro (h | h | h | h) <;> first | omega | exact h rfl | exact absurd h (by decide)), if_neg (by simp), if_neg (by rw [Bool.not_eq_false]; simpa using h3.2), if_neg h4]
theorem sols_none (u : List Int) : (sols [] [] u []).length = prodZ u := by
  have : sols [] [] u [] = allZ u := by
    simp only [sols, List.nil_append, List.map_id']
    rw [List.filter_eq_self]
    intro x _
    rfl
  rw [this, allZ_len]
theorem lex_drop {x y : List Int} {j : Nat} (hx : j < x.length) (hy : j < y.length) (h : lexL (x.drop j) (y.drop j)) : rd x j < rd y j ∨ (rd x j = rd y j ∧ lexL (x.drop (j + 1)) (y.drop (j + 1))) := by
  rw [drop_rd hx, drop_rd hy] at h
  exact h
set_option maxRecDepth 10000 in
/-- the loops over the solutions -/
theorem agree_loop (a : List (List Int)) (b u : List Int) (hc : chk a b u = 0) (l : List (List Int)) (hl : l = (sols a b u []).take 1000) :
    ∀ (m i : Nat), i + m = l.length → Ev (fun k => petrinetlaw35_NaturalAgrees.l0 k l ((sols a b u []).length : Int) i a b u) true := by
  obtain ⟨hok, hp⟩ := chk_ok hc
  have hu := ok_inU hok
  have hul := hok.1.2.1
  have hll : l.length ≤ 1000 := by rw [hl, List.length_take]; omega
  have hm : ∀ i, i < l.length → rd_L1 l (i : Int) ∈ sols a b u [] := fun i hi => List.mem_of_mem_take (by rw [← hl]; exact rdL_mem hi)
  intro m
  induction m with
  | zero =>
    intro i hi
    refine Ev.up ?_
    simp only [petrinetlaw35_NaturalAgrees.l0, if_neg (show ¬ (i : Int) < (l.length : Int) by omega)]
    refine Ev.bind (natCount_ev _ _ _) ?_
    simp only [countRes, if_pos (chk_nil hc), if_true]
    refine Ev.bind (product_ev hu hul hp) ?_
    have h1 := sols_le a b u
    simp only [sols_none, if_true, if_pos (show ((sols a b u []).length : Int) ≤ (prodZ u : Int) by omega)]
    exact Ev.bind alive_ev (Ev.of fun _ => rfl)
  | succ m ih =>
    intro i hi
    have hlt : i < l.length := by omega
    obtain ⟨x, hx⟩ : ∃ x, x = rd_L1 l (i : Int) := ⟨_, rfl⟩
    obtain ⟨x1, x2, x3, x4⟩ := sols_mem hu (hm i hlt)
    rw [← hx] at x1 x2 x3 x4
    have inner : ∀ (m j : Nat) (less : Bool), j + m = u.length → (less = false → ∃ i' : Nat, i = i' + 1 ∧ lexL ((rd_L1 l (i' : Int)).drop j) (x.drop j)) →
        Ev (fun k => petrinetlaw35_NaturalAgrees.l1 k l ((sols a b u []).length : Int) i less j a b u) true := by
      intro m
      induction m with
      | zero =>
        intro j less hj hless
        refine Ev.up ?_
        simp only [petrinetlaw35_NaturalAgrees.l1, ← hx, if_pos (show (0 : Int) ≤ (i : Int) by omega), if_pos (show (i : Int) < (l.length : Int) by omega), if_neg (show ¬ (j : Int) < (x.length : Int) by omega), w_succ (show i < 9223372036854775807 by omega)]
        cases less with
        | false =>
          obtain ⟨i', _, h⟩ := hless rfl
          rw [List.drop_of_length_le (show x.length ≤ j by omega)] at h
          cases hh : (rd_L1 l (i' : Int)).drop j with
          | nil => rw [hh] at h; exact h.elim
          | cons _ _ => rw [hh] at h; exact h.elim
        | true =>
          simp only [if_true]
          exact ih (i + 1) (by omega)
      | succ m ih2 =>
        intro j less hj hless
        have hj2 : j < u.length := by omega
        obtain ⟨v, hv⟩ : ∃ v, v = rd x (j : Int) := ⟨_, rfl⟩
        have hb := x2 j hj2
        rw [← rd_nat, ← rd_nat, ← hv] at hb
        refine Ev.up ?_
        simp only [petrinetlaw35_NaturalAgrees.l1, ← hx, ← hv, if_pos (show (0 : Int) ≤ (i : Int) by omega), if_pos (show (0 : Int) ≤ (j : Int) by omega), if_pos (show (i : Int) < (l.length : Int) by omega), if_pos (show (j : Int) < (x.length : Int) by omega), if_neg (show ¬ v < 0 by omega), if_pos (show (j : Int) < (u.length : Int) by omega), decide_eq_false (show ¬ v > rd u (j : Int) by omega)]
        refine Ev.up ?_
        simp only [petrinetlaw35_NaturalAgrees.j5, ← hx, ← hv, if_neg (show ¬ (false = true) by decide), w_succ (show j < 9223372036854775807 by omega)]
        cases less with
        | true =>
          simp only [if_true]
          exact ih2 (j + 1) true (by omega) (by simp)
        | false =>
          obtain ⟨i', hi', hlex⟩ := hless rfl
          obtain ⟨y1, _⟩ := sols_mem hu (hm i' (by omega))
          have e1 : wrap64 ((i : Int) - 1) = (i' : Int) := by rw [w_id (by omega) (by omega)]; omega
          obtain ⟨y, hy⟩ : ∃ y, y = rd_L1 l (i' : Int) := ⟨_, rfl⟩
          obtain ⟨p, hpv⟩ : ∃ p, p = rd y (j : Int) := ⟨_, rfl⟩
          rw [← hy] at hlex y1
          have hd := lex_drop (by omega) (by omega) hlex
          rw [← hv, ← hpv] at hd
          simp only [e1, ← hy, ← hpv, if_neg (show ¬ (false = true) by decide), if_pos (show (0 : Int) ≤ (i : Int) by omega), if_pos (show (0 : Int) ≤ (j : Int) by omega), if_pos (show (i : Int) < (l.length : Int) by omega), if_pos (show (j : Int) < (x.length : Int) by omega), if_pos (show (0 : Int) ≤ (i' : Int) by omega), if_pos (show (i' : Int) < (l.length : Int) by omega), if_pos (show (j : Int) < (y.length : Int) by omega), if_neg (show ¬ v < p by omega)]
          refine ih2 (j + 1) (decide (v > p)) (by omega) (fun h => ⟨i', hi', ?_⟩)
          have h' : ¬ v > p := by simpa using h
          rw [← hy]
          rcases hd with hd | hd
          · omega
          · exact hd.2
    refine Ev.up ?_
    simp only [petrinetlaw35_NaturalAgrees.l0, ← hx, if_pos (show (i : Int) < (l.length : Int) by omega), if_pos (show (0 : Int) ≤ (i : Int) by omega), if_pos (show ((x.length : Nat) : Int) = (u.length : Int) by omega)]
    refine Ev.bind (is_ev hok x1 x4) ?_
    rw [x3]
    refine Ev.up ?_
    simp only [petrinetlaw35_NaturalAgrees.j3, Bool.not_true, if_neg (show ¬ (false = true) by decide)]
    refine inner u.length 0 _ (by omega) (fun h => ?_)
    have h0 : i ≠ 0 := by
      rintro rfl
      simp at h
    refine ⟨i - 1, by omega, ?_⟩
    have := sols_lex a b u 1000 (i - 1) (by rw [← hl]; omega)
    rw [← hl, show i - 1 + 1 = i by omega, ← hx] at this
    simpa using this
theorem agrees_ev (a : List (List Int)) (b u : List Int) : Ev (fun k => petrinetlaw35_NaturalAgrees.f k a b u) true := by
  obtain ⟨v, hv⟩ := few_ev a b u
  have no : Ev (fun k => petrinetlaw35_NaturalAgrees.j0 k true a b u) true := by
    refine Ev.up ?_
    simp only [petrinetlaw35_NaturalAgrees.j0, if_true]
    exact Ev.bind alive_ev (Ev.of fun _ => rfl)
  simp only [petrinetlaw35_NaturalAgrees.f]
  refine Ev.bind hv ?_
  cases v with
  | false => simp only [if_neg (show ¬ (false = true) by decide)]; exact no
  | true =>
    simp only [if_true]
    refine Ev.bind (refCheck_ev a b u) ?_
    by_cases hc : chk a b u = 0
    · obtain ⟨hok, hp⟩ := chk_ok hc
      have e0 : (chk a b u != 0) = false := by simp [hc]
      simp only [e0]
      refine Ev.up ?_
      simp only [petrinetlaw35_NaturalAgrees.j0, if_neg (show ¬ (false = true) by decide)]
      refine Ev.bind (natAll_ev a b u 1000) ?_
      refine Ev.bind (natCount_ev a b u) ?_
      refine Ev.bind (natSolve_ev a b u) ?_
      have e1 : allRes a b u 1000 = ((sols a b u []).take 1000, 0) := by
        unfold allRes; rw [if_pos hc, if_neg (by decide)]; rfl
      have e2 : countRes a b u = (((sols a b u []).length : Int), 0) := by unfold countRes; rw [if_pos hc]
      have e3 : solveRes a b u = ((solRes (sols a b u [])).1, (solRes (sols a b u [])).2, 0) := by unfold solveRes; rw [if_pos hc]
      have hll : (((sols a b u []).take 1000).length : Int) = mn ((sols a b u []).length : Int) 1000 := by
        rw [List.length_take]; unfold mn; split <;> omega
      simp only [e1, e2, e3, if_true, if_pos hll]
      have fin : Ev (fun k => petrinetlaw35_NaturalAgrees.j1 k ((sols a b u []).take 1000) ((sols a b u []).length : Int) false a b u) true := by
        refine Ev.up ?_
        simp only [petrinetlaw35_NaturalAgrees.j1, if_neg (show ¬ (false = true) by decide)]
        exact agree_loop a b u hc _ rfl _ 0 (Nat.zero_add _)
      cases hs : sols a b u [] with
      | nil =>
        rw [hs] at fin
        exact fin
      | cons x t =>
        rw [hs] at fin
        have h1 : (solRes (x :: t)).2 = true := rfl
        have h2 : (decide (((x :: t).length : Int) > 0)) = true := by simp
        have h3 : (0 : Int) < (((x :: t).take 1000).length : Int) := by simp
        have h4 : rd_L1 ((x :: t).take 1000) 0 = x := rfl
        have h5 : (solRes (x :: t)).1 = x := rfl
        simp only [h1, h2, h4, h5, bne_self_eq_false, if_neg (show ¬ (false = true) by decide), if_true, if_pos h3]
        have hxl := solveRes_len a b u
        rw [e3, hs] at hxl
        refine Ev.bind (same_ev x x hxl) ?_
        simp only [beq_self_eq_true, Bool.not_true]
        exact fin
    · have e0 : (chk a b u != 0) = true := by simp [hc]
      simp only [e0]
      exact no

end Go.Proofs.Ytlckejjmkjgknab.Pure
