/- By hand (nat_solve): a part of this seat's proofs. -/
import Derived.Test.YtlckejjmkjgknabXNatSol
import Derived.Test.YtlckejjmkjgknabH5
import Derived.Sort.LoopGhostIn
import Derived.Stop.RegionWithIn
import Derived.Laws.EntriesVeiled
import Derived.Test.YtlckejjmkjgknabXGuard
namespace Go.Proofs.Ytlckejjmkjgknab.Hy
open Go.RowKit Go.Shelf Go.Proofs.YtlckejjmkjgknabW.PrintWords Go.Proofs.YtlckejjmkjgknabW.PrintLast Go.Proofs.YtlckejjmkjgknabW.PrintMore
set_option linter.unusedVariables false
set_option linter.unusedSimpArgs false
attribute [local go_sem] Oper.semAt_some
theorem put_keep {W : World} {k D : Nat} {cs : Array Value} {t : TypeId} {fr : Nat × Nat} {d : Option (List Deferred)} (h : W.heap[k]? = some (.cells cs t fr)) (hD : W.heap[D]? = some (.deferred d)) (o : Obj) : (W.putObj D o).heap[k]? = some (.cells cs t fr) := by
  have : k ≠ D := fun e => by subst e; rw [h] at hD; cases hD
  exact (World.putObj_heap_other this).trans h
theorem put_below {W w : World} {D n : Nat} (h : Below n w W) (hn : n ≤ D) (o : Obj) : Below n w (W.putObj D o) := h.trans ⟨rfl, rfl, rfl, by simp, fun k hk => World.putObj_heap_other (by omega)⟩
def solRes (l : List (List Int)) : List Int × Bool := match l with
  | [] => ([], false)
  | x :: _ => (x, true)
theorem row_fresh {W : World} {B g : Nat} {x : List Int} (hb : B ≤ g) (hg : W.heap[g]? = some (.cells (nums .i64 x).toArray 2 (0, 0))) (hn : x.length ≤ 9223372036854775807) :
    Kd.R (Kd.int .i64) 2 W B (fun _ => True) (.slice (some ⟨g, 0, none⟩) x.length x.length) x := by
  refine Kd.R_of_own ?_ (fun _ _ => trivial)
  refine ⟨by simp [encs], .inr ⟨g, x.length, (nums .i64 x).toArray, rfl, hb, hg, Nat.le_refl _, by simp only [maxLen]; omega, by simp [nums], ?_⟩⟩
  simp only [nums, encs]
  rw [List.take_of_length_le (by simp)]
theorem allZ_len (us : List Int) : ∀ x ∈ allZ us, x.length = us.length := by
  induction us with
  | nil => intro x hx; simp [allZ] at hx; subst hx; rfl
  | cons u us ih =>
    intro x hx
    simp only [allZ, List.mem_flatMap, List.mem_map] at hx
    obtain ⟨v, _, y, hy, rfl⟩ := hx
    simp [ih y hy]
theorem sols_len (a : List (List Int)) (b us p : List Int) : ∀ x ∈ sols a b us p, x.length = p.length + us.length := by
  intro x hx
  simp only [sols, List.mem_filter, List.mem_map] at hx
  obtain ⟨⟨y, hy, rfl⟩, _⟩ := hx
  simp [allZ_len us y hy]
theorem sols_small {a : List (List Int)} {b u x : List Int} {l : List (List Int)} (hok : okN a b u) (h : sols a b u [] = x :: l) : x.length ≤ 9223372036854775807 := by
  have h1 := sols_len a b u [] x (by rw [h]; exact List.mem_cons_self)
  have h2 := hok.1.2.1
  simp at h1
  omega
set_option maxRecDepth 100000 in
set_option maxHeartbeats 8000000 in
theorem solve_in (k : Nat) (A0 : Option Addr) (c0 : Nat) (l0 : List (List Int)) (A1 : Option Addr) (c1 : Nat) (l1 : List Int) (A2 : Option Addr) (c2 : Nat) (l2 : List Int) (w : World) (hr0 : Kd.C (Kd.slice 2 (Kd.int .i64)) w A0 l0.length l0) (hc0 : l0.length ≤ c0) (hr1 : Kd.C (Kd.int .i64) w A1 l1.length l1) (hc1 : l1.length ≤ c1) (hr2 : Kd.C (Kd.int .i64) w A2 l2.length l2) (hc2 : l2.length ≤ c2)
    (hk : natural_Check.f k l0 l1 l2 = some 0) (hok : okN l0 l1 l2) :
    CallsIn Fence.wide 0 Try.prog 13 #[.slice A0 l0.length c0, .slice A1 l1.length c1, .slice A2 l2.length c2] w fun e w' => ∃ v0_ : Value, e = .returned (.tuple #[v0_, .bool (solRes (sols l0 l1 l2 [])).2, .int .i64 0]) ∧ Kd.R (Kd.int .i64) 2 w' w.heap.size (fun _ => True) v0_ (solRes (sols l0 l1 l2 [])).1 ∧ Below w.heap.size w w' := by
  have hb3 : Below w.heap.size w (((w.alloc (.cells #[.slice none 0 0] 23)).alloc (.cells #[.bool false] 4)).alloc (.cells #[.int .i64 0] 28)) := below_alloc (below_alloc (below_alloc (Below.refl _ _) _) _) _
  have hchk := Aside0.mk (callsIn_wide (n := 0).2 (natural_Check.calls k A0 c0 l0 A1 c1 l1 A2 c2 l2 0 _ (Kd.C_below hr0 hb3) hc0 (Kd.C_below hr1 hb3) hc1 (Kd.C_below hr2 hb3) hc2 hk))
  obtain ⟨r1, r2, r3, r4⟩ := three_ w (.cells #[.slice none 0 0] 23) (.cells #[.bool false] 4) (.cells #[.int .i64 0] 28)
  refine callsIn_of_wp_marks Try.func13 rfl trivial ?_ rfl
  simp only [Try.ntmps13, List.size_toArray, List.length_cons, List.length_nil, Nat.reduceAdd, Nat.reduceSub, Array.replicate_succ, Array.replicate_zero, List.push_toArray, List.append_toArray, List.nil_append, List.cons_append]
  gi_wp2
  refine ⟨trivial, rfl, hchk.out.mono ?_⟩
  rintro e w1 ⟨rfl, hd⟩
  have hd1 := hd.below
  have hB1 : Below w.heap.size w w1 := hb3.trans (hd1.mono hb3.size)
  replace r1 := Aside0.mk (blk_below r1 hd1)
  replace r2 := Aside0.mk (blk_below r2 hd1)
  replace r3 := Aside0.mk (blk_below r3 hd1)
  have hs1 : w.heap.size + 3 ≤ w1.heap.size := by have := hd1.size; omega
  clear hd hchk hd1 r4
  gi_wp2
  refine ⟨trivial, rfl, (solutions_calls _ _ _ _ _ _ _ _ _ _).mono ?_⟩
  rintro e w2 ⟨rfl, hw2⟩
  replace hw2 := Aside0.mk hw2
  gi_wp2
  obtain ⟨priv, hold, hpv', hho', hit, hsz, hB2, hB3⟩ := it_setup A0 c0 l0 A1 c1 l1 A2 c2 l2 w w1 w2 hr0 hr1 hr2 hok hB1 hw2.out
  have q1 := blk_below r1.out hB3
  have q2 := blk_below r2.out hB3
  have q3 := blk_below r3.out hB3
  have hpv : ∀ k, priv k → w2.heap.size + 2 ≤ k := fun k hk => (hpv' k hk).1
  have stay : ∀ (W W' : World) (k : Nat) (o : Obj), W.heap[k]? = some o → k < w1.heap.size → Chg (fun k => priv k ∨ k = w2.heap.size + 1) W W' → W'.heap[k]? = some o := fun W W' k o h hk hc => (hc.block _ (Array.getElem?_eq_some_iff.1 h).1 (fun hn => by
    rcases hn with hn | hn
    · have := hpv _ hn; omega
    · omega)).trans h
  have stayB : ∀ (W W' : World), Below w.heap.size w W → Chg (fun k => priv k ∨ k = w2.heap.size + 1) W W' → Below w.heap.size w W' := fun W W' h hc => h.trans (hc.below h.size (fun k hn => by
    rcases hn with hn | hn
    · have := hpv _ hn; omega
    · omega))
  refine rangeFunc_it (gf := 25) (lb := #[.pointer (some ⟨w1.heap.size + 1 + 1, 0, none⟩), .pointer (some ⟨w1.heap.size + 1, 0, none⟩), .pointer (some ⟨w1.heap.size, 0, none⟩)]) rfl (enters_of Try.func25 (by kernel_rfl) rfl) hpv (hho' _ (by omega) (.inr (.inl (by omega)))) elt_size elt_turn hit
    (fun pre W => pre = [] ∧ W.heap[w.heap.size]? = some (.cells #[.slice none 0 0] 23 (0, 0)) ∧ W.heap[w.heap.size + 1]? = some (.cells #[.bool false] 4 (0, 0)) ∧ W.heap[w.heap.size + 1 + 1]? = some (.cells #[.int .i64 0] 28 (0, 0)) ∧ Below w.heap.size w W)
    (fun c pre W => c = .ret ∧ ∃ (g : Nat) (x : List Int), pre = [x] ∧ w2.heap.size + 9 ≤ g ∧ W.heap[w.heap.size]? = some (.cells #[.slice (some ⟨g, 0, none⟩) x.length x.length] 23 (0, 0)) ∧ W.heap[w.heap.size + 1]? = some (.cells #[.bool true] 4 (0, 0)) ∧ W.heap[w.heap.size + 1 + 1]? = some (.cells #[.int .i64 0] 28 (0, 0)) ∧ W.heap[g]? = some (.cells (nums .i64 x).toArray 2 (0, 0)) ∧ Below w.heap.size w W)
    ?hI ?hIx ?h0 (fun vs => { tmps := #[.slice A0 l0.length c0, .slice A1 l1.length c1, .slice A2 l2.length c2, undef, undef, undef, .pointer (some ⟨w.heap.size, 0, none⟩), .pointer (some ⟨w.heap.size + 1, 0, none⟩), .pointer (some ⟨w.heap.size + 1 + 1, 0, none⟩), .int .i64 0, vs.getD 0 undef,
      .slice A0 l0.length c0, .slice A1 l1.length c1, .slice A2 l2.length c2, .int .i64 0, .int .i64 0, .bool false, undef, .slice A0 l0.length c0, .slice A1 l1.length c1, .slice A2 l2.length c2, .func (.func 25) #[] #[.pointer (some ⟨w1.heap.size + 1 + 1, 0, none⟩), .pointer (some ⟨w1.heap.size + 1, 0, none⟩), .pointer (some ⟨w1.heap.size, 0, none⟩)], vs.getD 0 undef, undef], defers := [] }) ?assign ?body ?done ?stop
  case hI =>
    rintro pre A B ⟨h1, h2, h3, h4, h5⟩ hc
    exact ⟨h1, stay _ _ _ _ h2 (by omega) hc, stay _ _ _ _ h3 (by omega) hc, stay _ _ _ _ h4 (by omega) hc, stayB _ _ h5 hc⟩
  case hIx =>
    rintro c pre A B ⟨h0, g, x, h1, hg, h2, h3, h4, h6, h5⟩ hc
    refine ⟨h0, g, x, h1, hg, stay _ _ _ _ h2 (by omega) hc, stay _ _ _ _ h3 (by omega) hc, stay _ _ _ _ h4 (by omega) hc, (hc.block _ (Array.getElem?_eq_some_iff.1 h6).1 (fun hn => ?_)).trans h6, stayB _ _ h5 hc⟩
    rcases hn with hn | hn
    · have := (hpv' _ hn).2; omega
    · omega
  case h0 => intro r; exact ⟨rfl, blk_alloc (blk_alloc q1 _) _, blk_alloc (blk_alloc q2 _) _, blk_alloc (blk_alloc q3 _) _, (hB2.alloc hB2.size _).alloc (by simp; have := hB2.size; omega) _⟩
  case assign =>
    intro vs W K hvs hK
    obtain ⟨v, rfl⟩ : ∃ v, vs = #[v] := by
      match vs, hvs with
      | ⟨[v]⟩, _ => exact ⟨v, rfl⟩
    have e : (#[v] : Array Value).getD 0 undef = v := rfl
    simp only [e] at hK
    gi_wp2
    simpa using hK
  case body =>
    rintro pre x vs W0 W ⟨rfl, h2, h3, h4, h5⟩ hc ⟨g, hg0, hg1, hg2, rfl, hg⟩ hpre hWs
    have k2 := stay _ _ _ _ h2 (by omega) hc
    have k3 := stay _ _ _ _ h3 (by omega) hc
    have k4 := stay _ _ _ _ h4 (by omega) hc
    have k5 := stayB _ _ h5 hc
    have c2 := cell_of_one k2
    have f2 := free_of_one k2
    have c3 := cell_of_one k3
    have f3 := free_of_one k3
    have c4 := cell_of_one k4
    have f4 := free_of_one k4
    have m2 := blk_far (blk_far (one_setCell (u := .slice (some ⟨g, 0, none⟩) x.length x.length) k2) (p := ⟨w.heap.size + 1, 0, none⟩) (by show w.heap.size ≠ w.heap.size + 1; omega) (.bool true)) (p := ⟨w.heap.size + 1 + 1, 0, none⟩) (by show w.heap.size ≠ w.heap.size + 1 + 1; omega) (.int .i64 0)
    have m3 := blk_far (one_setCell (u := .bool true) (blk_far k3 (p := ⟨w.heap.size, 0, none⟩) (by show w.heap.size + 1 ≠ w.heap.size; omega) (.slice (some ⟨g, 0, none⟩) x.length x.length))) (p := ⟨w.heap.size + 1 + 1, 0, none⟩) (by show w.heap.size + 1 ≠ w.heap.size + 1 + 1; omega) (.int .i64 0)
    have m4 := one_setCell (u := .int .i64 0) (blk_far (blk_far k4 (p := ⟨w.heap.size, 0, none⟩) (by show w.heap.size + 1 + 1 ≠ w.heap.size; omega) (.slice (some ⟨g, 0, none⟩) x.length x.length)) (p := ⟨w.heap.size + 1, 0, none⟩) (by show w.heap.size + 1 + 1 ≠ w.heap.size + 1; omega) (.bool true))
    have mg := blk_far (blk_far (blk_far hg (p := ⟨w.heap.size, 0, none⟩) (by show g ≠ w.heap.size; omega) (.slice (some ⟨g, 0, none⟩) x.length x.length)) (p := ⟨w.heap.size + 1, 0, none⟩) (by show g ≠ w.heap.size + 1; omega) (.bool true)) (p := ⟨w.heap.size + 1 + 1, 0, none⟩) (by show g ≠ w.heap.size + 1 + 1; omega) (.int .i64 0)
    have mB := ((k5.setCell (p := ⟨w.heap.size, 0, none⟩) (Nat.le_refl _) (.slice (some ⟨g, 0, none⟩) x.length x.length)).setCell (p := ⟨w.heap.size + 1, 0, none⟩) (by show w.heap.size ≤ w.heap.size + 1; omega) (.bool true)).setCell (p := ⟨w.heap.size + 1 + 1, 0, none⟩) (by show w.heap.size ≤ w.heap.size + 1 + 1; omega) (.int .i64 0)
    have T : ∀ j, j < 3 → ¬ ¬ ¬ (hold (w.heap.size + j) ∨ w.heap.size + j = w2.heap.size ∨ w.heap.size + j = w2.heap.size + 1) := fun j hj h => h (fun hn => by
      rcases hn with hn | hn | hn
      · exact hho' _ (by omega) (.inl (by omega)) hn
      · omega
      · omega)
    have mC : Chg (fun k => ¬ (hold k ∨ k = w2.heap.size ∨ k = w2.heap.size + 1)) W (((W.setCell ⟨w.heap.size, 0, none⟩ (.slice (some ⟨g, 0, none⟩) x.length x.length)).setCell ⟨w.heap.size + 1, 0, none⟩ (.bool true)).setCell ⟨w.heap.size + 1 + 1, 0, none⟩ (.int .i64 0)) :=
      (((Chg.refl _ W).setCell (p := ⟨w.heap.size, 0, none⟩) (fun hn => T 0 (by omega) (fun h => h hn)) _).setCell (p := ⟨w.heap.size + 1, 0, none⟩) (fun hn => T 1 (by omega) (fun h => h hn)) _).setCell (p := ⟨w.heap.size + 1 + 1, 0, none⟩) (fun hn => T 2 (by omega) (fun h => h hn)) _
    replace m2 := Aside0.mk m2
    replace m3 := Aside0.mk m3
    replace m4 := Aside0.mk m4
    replace mg := Aside0.mk mg
    replace mB := Aside0.mk mB
    replace mC := Aside0.mk mC
    clear k2 k3 k4 k5 h2 h3 h4 h5 hc hg T
    gi_wp2
    exact ⟨⟨rfl, g, x, rfl, hg0, m2.out, m3.out, m4.out, mg.out, mB.out⟩, mC.out⟩
  case done =>
    rintro W ⟨h1, h2, h3, h4, h5⟩ hK
    have c2 := cell_of_one h2
    have f2 := free_of_one h2
    have c3 := cell_of_one h3
    have f3 := free_of_one h3
    have c4 := cell_of_one h4
    have f4 := free_of_one h4
    have hx : sols l0 l1 l2 [] = [] := h1
    have m2 := blk_far (blk_far (one_setCell (u := .slice none 0 0) h2) (p := ⟨w.heap.size + 1, 0, none⟩) (by show w.heap.size ≠ w.heap.size + 1; omega) (.bool false)) (p := ⟨w.heap.size + 1 + 1, 0, none⟩) (by show w.heap.size ≠ w.heap.size + 1 + 1; omega) (.int .i64 0)
    have m3 := blk_far (one_setCell (u := .bool false) (blk_far h3 (p := ⟨w.heap.size, 0, none⟩) (by show w.heap.size + 1 ≠ w.heap.size; omega) (.slice none 0 0))) (p := ⟨w.heap.size + 1 + 1, 0, none⟩) (by show w.heap.size + 1 ≠ w.heap.size + 1 + 1; omega) (.int .i64 0)
    have m4 := one_setCell (u := .int .i64 0) (blk_far (blk_far h4 (p := ⟨w.heap.size, 0, none⟩) (by show w.heap.size + 1 + 1 ≠ w.heap.size; omega) (.slice none 0 0)) (p := ⟨w.heap.size + 1, 0, none⟩) (by show w.heap.size + 1 + 1 ≠ w.heap.size + 1; omega) (.bool false))
    have mB := ((h5.setCell (p := ⟨w.heap.size, 0, none⟩) (Nat.le_refl _) (.slice none 0 0)).setCell (p := ⟨w.heap.size + 1, 0, none⟩) (by show w.heap.size ≤ w.heap.size + 1; omega) (.bool false)).setCell (p := ⟨w.heap.size + 1 + 1, 0, none⟩) (by show w.heap.size ≤ w.heap.size + 1 + 1; omega) (.int .i64 0)
    have hK' : (((W.setCell ⟨w.heap.size, 0, none⟩ (.slice none 0 0)).setCell ⟨w.heap.size + 1, 0, none⟩ (.bool false)).setCell ⟨w.heap.size + 1 + 1, 0, none⟩ (.int .i64 0)).heap[w2.heap.size]? = some (.deferred (some [])) := by
      rw [Below.heap_setCell _ _ _ _ (by show w2.heap.size ≠ w.heap.size + 1 + 1; omega), Below.heap_setCell _ _ _ _ (by show w2.heap.size ≠ w.heap.size + 1; omega), Below.heap_setCell _ _ _ _ (by show w2.heap.size ≠ w.heap.size; omega)]
      exact hK
    have n2 := cell_of_one (put_keep m2 hK' (.deferred none))
    have n3 := cell_of_one (put_keep m3 hK' (.deferred none))
    have n4 := cell_of_one (put_keep m4 hK' (.deferred none))
    have nB := put_below mB (D := w2.heap.size) (by omega) (.deferred none)
    replace m2 := Aside0.mk m2
    replace m3 := Aside0.mk m3
    replace m4 := Aside0.mk m4
    replace mB := Aside0.mk mB
    replace nB := Aside0.mk nB
    replace n2 := Aside0.mk n2
    replace n3 := Aside0.mk n3
    replace n4 := Aside0.mk n4
    clear h2 h3 h4 h5
    gi_wp2
    refine ⟨by simp, .inl ⟨_, _, rfl, run_takeDeferred hK', ?_⟩⟩
    refine ⟨.tuple #[.slice none 0 0, .bool false, .int .i64 0], ?_, .slice none 0 0, by rw [hx]; rfl, by rw [hx]; exact Kd.R_nil _ _ _ _ _, nB.out⟩
    have n2' := n2.out
    have n3' := n3.out
    have n4' := n4.out
    simp [results, Try.f13, go_sem, n2', n3', n4']
  case stop =>
    rintro c pre W hpre ⟨rfl, g, x, rfl, hg, h2, h3, h4, h6, h5⟩ hK
    have hx : ∃ l, sols l0 l1 l2 [] = x :: l := by
      obtain ⟨t, ht⟩ := hpre
      exact ⟨t, by rw [← ht]; rfl⟩
    obtain ⟨l, hx⟩ := hx
    have n2 := cell_of_one (put_keep h2 hK (.deferred none))
    have n3 := cell_of_one (put_keep h3 hK (.deferred none))
    have n4 := cell_of_one (put_keep h4 hK (.deferred none))
    have n6 := put_keep h6 hK (.deferred none)
    have nB := put_below h5 (D := w2.heap.size) (by omega) (.deferred none)
    gi_wp2
    refine ⟨by simp, .inl ⟨_, _, rfl, run_takeDeferred hK, ?_⟩⟩
    refine ⟨.tuple #[.slice (some ⟨g, 0, none⟩) x.length x.length, .bool true, .int .i64 0], ?_, .slice (some ⟨g, 0, none⟩) x.length x.length, by rw [hx]; rfl, by rw [hx]; exact row_fresh (by omega) n6 (sols_small hok hx), nB⟩
    simp [results, Try.f13, go_sem, n2, n3, n4]

/-- what Solve answers -/
def natural_Solve.f (k : Nat) (l0 : List (List Int)) (l1 : List Int) (l2 : List Int) : Option (List Int × Bool × Int) :=
  (natural_Check.f k l0 l1 l2).bind fun e => if e = 0 then (if okN l0 l1 l2 then some ((solRes (sols l0 l1 l2 [])).1, (solRes (sols l0 l1 l2 [])).2, 0) else none) else some ([], false, e)
theorem natural_Solve.mono : ∀ a0 a1 a2 k, LeO (natural_Solve.f k a0 a1 a2) (natural_Solve.f (k + 1) a0 a1 a2) := by
  intro a0 a1 a2 k
  exact LeO.bind (natural_Check.mono a0 a1 a2 k) (fun _ => LeO.refl _)
set_option maxRecDepth 100000 in
set_option maxHeartbeats 8000000 in
theorem natural_Solve.calls (k : Nat) (A0 : Option Addr) (c0 : Nat) (l0 : List (List Int)) (A1 : Option Addr) (c1 : Nat) (l1 : List Int) (A2 : Option Addr) (c2 : Nat) (l2 : List Int) (r1 : List Int) (r2 : Bool) (r3 : Int) (w : World) (hr0 : Kd.C (Kd.slice 2 (Kd.int .i64)) w A0 l0.length l0) (hc0 : l0.length ≤ c0) (hr1 : Kd.C (Kd.int .i64) w A1 l1.length l1) (hc1 : l1.length ≤ c1) (hr2 : Kd.C (Kd.int .i64) w A2 l2.length l2) (hc2 : l2.length ≤ c2) (h : natural_Solve.f k l0 l1 l2 = some (r1, r2, r3)) :
    Calls Try.prog 13 #[.slice A0 l0.length c0, .slice A1 l1.length c1, .slice A2 l2.length c2] w fun e w' => ∃ v0_ : Value, e = .returned (.tuple #[v0_, .bool r2, .int .i64 r3]) ∧ Kd.R (Kd.int .i64) 2 w' w.heap.size (fun _ => True) v0_ r1 ∧ Below w.heap.size w w' := by
  rw [natural_Solve.f] at h
  cases hk : natural_Check.f k l0 l1 l2 with
  | none => rw [hk] at h; simp at h
  | some e =>
    rw [hk, Option.bind_some] at h
    by_cases he : e = 0
    · subst he
      rw [if_pos rfl] at h
      by_cases hok : okN l0 l1 l2
      · rw [if_pos hok] at h
        injection h with h
        injection h with h1 h2
        injection h2 with h2 h3
        subst h1 h2 h3
        exact callsIn_wide.1 (solve_in k A0 c0 l0 A1 c1 l1 A2 c2 l2 w hr0 hc0 hr1 hc1 hr2 hc2 hk hok)
      · rw [if_neg hok] at h; simp at h
    · rw [if_neg he] at h
      injection h with h
      injection h with h1 h2
      injection h2 with h2 h3
      subst h1 h2 h3
      have hb3 : Below w.heap.size w (((w.alloc (.cells #[.slice none 0 0] 23)).alloc (.cells #[.bool false] 4)).alloc (.cells #[.int .i64 0] 28)) := below_alloc (below_alloc (below_alloc (Below.refl _ _) _) _) _
      have hchk := Aside0.mk (callsIn_wide (n := 0).2 (natural_Check.calls k A0 c0 l0 A1 c1 l1 A2 c2 l2 e _ (Kd.C_below hr0 hb3) hc0 (Kd.C_below hr1 hb3) hc1 (Kd.C_below hr2 hb3) hc2 hk))
      obtain ⟨r1, r2, r3, r4⟩ := three_ w (.cells #[.slice none 0 0] 23) (.cells #[.bool false] 4) (.cells #[.int .i64 0] 28)
      refine callsIn_wide (n := 0).1 ?_
      refine callsIn_of_wp_marks Try.func13 rfl trivial ?_ rfl
      simp only [Try.ntmps13, List.size_toArray, List.length_cons, List.length_nil, Nat.reduceAdd, Nat.reduceSub, Array.replicate_succ, Array.replicate_zero, List.push_toArray, List.append_toArray, List.nil_append, List.cons_append]
      gi_wp2
      refine ⟨trivial, rfl, hchk.out.mono ?_⟩
      rintro e w1 ⟨rfl, hd⟩
      have hd1 := hd.below
      have hB1 : Below w.heap.size w w1 := hb3.trans (hd1.mono hb3.size)
      have k1 := blk_below r1 hd1
      have k2 := blk_below r2 hd1
      have k3 := blk_below r3 hd1
      have c2 := cell_of_one k1
      have f2 := free_of_one k1
      have c3 := cell_of_one k2
      have f3 := free_of_one k2
      have c4 := cell_of_one k3
      have f4 := free_of_one k3
      have m2 := cell_of_one (blk_far (blk_far (one_setCell (u := .slice none 0 0) k1) (p := ⟨w.heap.size + 1, 0, none⟩) (by show w.heap.size ≠ w.heap.size + 1; omega) (.bool false)) (p := ⟨w.heap.size + 1 + 1, 0, none⟩) (by show w.heap.size ≠ w.heap.size + 1 + 1; omega) (.int .i64 e))
      have m3 := cell_of_one (blk_far (one_setCell (u := .bool false) (blk_far k2 (p := ⟨w.heap.size, 0, none⟩) (by show w.heap.size + 1 ≠ w.heap.size; omega) (.slice none 0 0))) (p := ⟨w.heap.size + 1 + 1, 0, none⟩) (by show w.heap.size + 1 ≠ w.heap.size + 1 + 1; omega) (.int .i64 e))
      have m4 := cell_of_one (one_setCell (u := .int .i64 e) (blk_far (blk_far k3 (p := ⟨w.heap.size, 0, none⟩) (by show w.heap.size + 1 + 1 ≠ w.heap.size; omega) (.slice none 0 0)) (p := ⟨w.heap.size + 1, 0, none⟩) (by show w.heap.size + 1 + 1 ≠ w.heap.size + 1; omega) (.bool false)))
      have mB := ((hB1.setCell (p := ⟨w.heap.size, 0, none⟩) (Nat.le_refl _) (.slice none 0 0)).setCell (p := ⟨w.heap.size + 1, 0, none⟩) (by show w.heap.size ≤ w.heap.size + 1; omega) (.bool false)).setCell (p := ⟨w.heap.size + 1 + 1, 0, none⟩) (by show w.heap.size ≤ w.heap.size + 1 + 1; omega) (.int .i64 e)
      replace mB := Aside0.mk mB
      clear hd hchk hd1 r4
      gi_wp2
      refine ⟨.tuple #[.slice none 0 0, .bool false, .int .i64 e], ?_, .slice none 0 0, rfl, Kd.R_nil _ _ _ _ _, mB.out⟩
      simp [results, Try.f13, go_sem, m2, m3, m4]

end Go.Proofs.Ytlckejjmkjgknab.Hy
