/- By hand (nat_count): a part of this seat's proofs. -/
import Derived.Test.YtlckejjmkjgknabXNatSol
import Derived.Test.YtlckejjmkjgknabH5
import Derived.Sort.LoopGhostIn
import Derived.Stop.RegionWithIn
import Derived.Laws.EntriesVeiled
import Derived.Test.YtlckejjmkjgknabXGuard
namespace Go.Proofs.Ytlckejjmkjgknab.Hy
open Go.RowKit Go.Shelf Go.Proofs.YtlckejjmkjgknabW.PrintWords Go.Proofs.YtlckejjmkjgknabW.PrintLast Go.Proofs.YtlckejjmkjgknabW.PrintMore
set_option linter.unusedVariables false
set_option linter.unusedSimpArgs false
attribute [local go_sem] Oper.semAt_some
set_option maxRecDepth 100000 in
set_option maxHeartbeats 8000000 in
theorem count_in (k : Nat) (A0 : Option Addr) (c0 : Nat) (l0 : List (List Int)) (A1 : Option Addr) (c1 : Nat) (l1 : List Int) (A2 : Option Addr) (c2 : Nat) (l2 : List Int) (w : World) (hr0 : Kd.C (Kd.slice 2 (Kd.int .i64)) w A0 l0.length l0) (hc0 : l0.length ≤ c0) (hr1 : Kd.C (Kd.int .i64) w A1 l1.length l1) (hc1 : l1.length ≤ c1) (hr2 : Kd.C (Kd.int .i64) w A2 l2.length l2) (hc2 : l2.length ≤ c2)
    (hk : natural_Check.f k l0 l1 l2 = some 0) (hok : okN l0 l1 l2) :
    CallsIn Fence.wide 0 Try.prog 16 #[.slice A0 l0.length c0, .slice A1 l1.length c1, .slice A2 l2.length c2] w fun e w' => e = .returned (.tuple #[.int .i64 ((sols l0 l1 l2 []).length : Int), .int .i64 0]) ∧ Below w.heap.size w w' := by
  have hchk := Aside0.mk (callsIn_wide (n := 0).2 (natural_Check.calls k A0 c0 l0 A1 c1 l1 A2 c2 l2 0 w hr0 hc0 hr1 hc1 hr2 hc2 hk))
  refine callsIn_of_wp_marks Try.func16 rfl trivial ?_ rfl
  simp only [Try.ntmps16, List.size_toArray, List.length_cons, List.length_nil, Nat.reduceAdd, Nat.reduceSub, Array.replicate_succ, Array.replicate_zero, List.push_toArray, List.append_toArray, List.nil_append, List.cons_append]
  gi_wp2
  refine ⟨trivial, rfl, hchk.out.mono ?_⟩
  rintro e w1 ⟨rfl, hd⟩
  have hB1 := hd.below
  clear hd hchk
  gi_wp2
  refine ⟨trivial, rfl, (solutions_calls _ _ _ _ _ _ _ _ _ _).mono ?_⟩
  rintro e w2 ⟨rfl, hw2⟩
  replace hw2 := Aside0.mk hw2
  gi_wp2
  have hBn : Below w.heap.size w (w1.alloc (.cells #[.int .i64 0] 3)) := hB1.alloc hB1.size _
  obtain ⟨priv, hold, hpv', hho', hit, hsz, hB2, hB3⟩ := it_setup A0 c0 l0 A1 c1 l1 A2 c2 l2 w (w1.alloc (.cells #[.int .i64 0] 3)) w2 hr0 hr1 hr2 hok hBn hw2.out
  have t0 := blk_below (blk_new w1 (.cells #[.int .i64 0] 3)) hB3
  simp only [World.size_alloc] at hit hsz hho' hB3
  have hw1s := hB1.size
  have hpv : ∀ k, priv k → w2.heap.size + 2 ≤ k := fun k hk => (hpv' k hk).1
  have hho : ¬ hold w1.heap.size := hho' _ hw1s (.inl (by omega))
  refine rangeFunc_it (gf := 25) (lb := #[.pointer (some ⟨w1.heap.size + 1 + 1 + 1, 0, none⟩), .pointer (some ⟨w1.heap.size + 1 + 1, 0, none⟩), .pointer (some ⟨w1.heap.size + 1, 0, none⟩)]) rfl (enters_of Try.func25 (by kernel_rfl) rfl) hpv (hho' _ (by omega) (.inr (.inl (by omega)))) elt_size elt_turn hit
    (fun pre W => W.heap[w1.heap.size]? = some (.cells #[.int .i64 (pre.length : Int)] 3 (0, 0)) ∧ Below w.heap.size w W) (fun _ _ _ => False) ?hI ?hIx ?h0 (fun vs => { tmps := #[.slice A0 l0.length c0, .slice A1 l1.length c1, .slice A2 l2.length c2, undef, undef, undef, .int .i64 0, .int .i64 0, .int .i64 0, .pointer (some ⟨w1.heap.size, 0, none⟩), .slice A0 l0.length c0, .slice A1 l1.length c1, .slice A2 l2.length c2, .int .i64 0, .int .i64 0, .bool false, undef, .slice A0 l0.length c0, .slice A1 l1.length c1, .slice A2 l2.length c2, .func (.func 25) #[] #[.pointer (some ⟨w1.heap.size + 1 + 1 + 1, 0, none⟩), .pointer (some ⟨w1.heap.size + 1 + 1, 0, none⟩), .pointer (some ⟨w1.heap.size + 1, 0, none⟩)], vs.getD 0 undef, undef, undef, undef], defers := [] }) ?assign ?body ?done ?stop
  case hI =>
    rintro pre A B ⟨h1, h2⟩ hc
    refine ⟨(hc.block _ (Array.getElem?_eq_some_iff.1 h1).1 (fun hk => ?_)).trans h1, h2.trans (hc.below h2.size (fun k hk => ?_))⟩
    · rcases hk with hk | hk
      · have := hpv _ hk; omega
      · omega
    · rcases hk with hk | hk
      · have := hpv _ hk; omega
      · omega
  case hIx => intro c pre A B h _; exact h.elim
  case h0 => intro r; exact ⟨blk_alloc (blk_alloc t0 _) _, (hB2.alloc hB2.size _).alloc (by simp; have := hB2.size; omega) _⟩
  case assign =>
    intro vs W K hvs hK
    obtain ⟨v, rfl⟩ : ∃ v, vs = #[v] := by
      match vs, hvs with
      | ⟨[v]⟩, _ => exact ⟨v, rfl⟩
    have e : (#[v] : Array Value).getD 0 undef = v := rfl
    simp only [e] at hK
    gi_wp2
    simpa using hK
  case body =>
    rintro pre x vs W0 W ⟨h1, h2⟩ hc he hpre hWs
    have h1' : W.heap[w1.heap.size]? = some (.cells #[.int .i64 (pre.length : Int)] 3 (0, 0)) := (hc.block _ (Array.getElem?_eq_some_iff.1 h1).1 (fun hk => by
      rcases hk with hk | hk
      · have := hpv _ hk; omega
      · omega)).trans h1
    have h2' : Below w.heap.size w W := h2.trans (hc.below h2.size (fun k hk => by
      rcases hk with hk | hk
      · have := hpv _ hk; omega
      · omega))
    have hpl := pre_len hpre hok.2.2.2.2.2
    have cn := cell_of_one h1'
    have fn := free_of_one h1'
    have hset := Aside0.mk (one_setCell (u := .int .i64 ((pre.length : Int) + 1)) h1')
    clear h1 h2 hc he
    gi_wp2
    refine ⟨⟨by simpa using hset.out, h2'.setCell (by show w.heap.size ≤ w1.heap.size; omega) _⟩, (Chg.refl _ W).setCell (p := ⟨w1.heap.size, 0, none⟩) (fun hk => ?_) _⟩
    rcases hk with hk | hk | hk
    · exact hho hk
    · exact absurd hk (by show w1.heap.size ≠ w2.heap.size; omega)
    · exact absurd hk (by show w1.heap.size ≠ w2.heap.size + 1; omega)
  case done =>
    rintro W ⟨h1, h2⟩ hK
    have cn := cell_of_one h1
    gi_wp2
    refine ⟨by simp, .inl ⟨_, _, rfl, run_takeDeferred hK, ?_⟩⟩
    exact ⟨_, results_tmp2 rfl _ _ _, rfl, h2.trans (((Chg.refl (fun k => k = w2.heap.size) W).putObj (r := w2.heap.size) rfl _).below h2.size (fun k hk => by rw [hk]; exact hB2.size))⟩
  case stop =>
    intro c pre W _ h _
    exact h.elim
/-- what Count answers -/
def natural_Count.f (k : Nat) (l0 : List (List Int)) (l1 : List Int) (l2 : List Int) : Option (Int × Int) :=
  (natural_Check.f k l0 l1 l2).bind fun e => if e = 0 then (if okN l0 l1 l2 then some (((sols l0 l1 l2 []).length : Int), 0) else none) else some (0, e)
theorem natural_Count.mono : ∀ a0 a1 a2 k, LeO (natural_Count.f k a0 a1 a2) (natural_Count.f (k + 1) a0 a1 a2) := by
  intro a0 a1 a2 k
  exact LeO.bind (natural_Check.mono a0 a1 a2 k) (fun _ => LeO.refl _)
set_option maxRecDepth 100000 in
set_option maxHeartbeats 8000000 in
theorem natural_Count.calls (k : Nat) (A0 : Option Addr) (c0 : Nat) (l0 : List (List Int)) (A1 : Option Addr) (c1 : Nat) (l1 : List Int) (A2 : Option Addr) (c2 : Nat) (l2 : List Int) (r1 : Int) (r2 : Int) (w : World) (hr0 : Kd.C (Kd.slice 2 (Kd.int .i64)) w A0 l0.length l0) (hc0 : l0.length ≤ c0) (hr1 : Kd.C (Kd.int .i64) w A1 l1.length l1) (hc1 : l1.length ≤ c1) (hr2 : Kd.C (Kd.int .i64) w A2 l2.length l2) (hc2 : l2.length ≤ c2) (h : natural_Count.f k l0 l1 l2 = some (r1, r2)) :
    Calls Try.prog 16 #[.slice A0 l0.length c0, .slice A1 l1.length c1, .slice A2 l2.length c2] w fun e w' => e = .returned (.tuple #[.int .i64 r1, .int .i64 r2]) ∧ Below w.heap.size w w' := by
  rw [natural_Count.f] at h
  cases hk : natural_Check.f k l0 l1 l2 with
  | none => rw [hk] at h; simp at h
  | some e =>
    rw [hk, Option.bind_some] at h
    by_cases he : e = 0
    · subst he
      rw [if_pos rfl] at h
      by_cases hok : okN l0 l1 l2
      · rw [if_pos hok] at h
        injection h with h
        injection h with h1 h2
        subst h1 h2
        exact callsIn_wide.1 (count_in k A0 c0 l0 A1 c1 l1 A2 c2 l2 w hr0 hc0 hr1 hc1 hr2 hc2 hk hok)
      · rw [if_neg hok] at h; simp at h
    · rw [if_neg he] at h
      injection h with h
      injection h with h1 h2
      subst h1 h2
      have hchk := Aside0.mk (callsIn_wide (n := 0).2 (natural_Check.calls k A0 c0 l0 A1 c1 l1 A2 c2 l2 e w hr0 hc0 hr1 hc1 hr2 hc2 hk))
      refine callsIn_wide (n := 0).1 ?_
      refine callsIn_of_wp_marks Try.func16 rfl trivial ?_ rfl
      simp only [Try.ntmps16, List.size_toArray, List.length_cons, List.length_nil, Nat.reduceAdd, Nat.reduceSub, Array.replicate_succ, Array.replicate_zero, List.push_toArray, List.append_toArray, List.nil_append, List.cons_append]
      gi_wp2
      refine ⟨trivial, rfl, hchk.out.mono ?_⟩
      rintro e w1 ⟨rfl, hd⟩
      have hB1 := hd.below
      clear hd hchk
      gi_wp2
      exact ⟨_, results_tmp2 rfl _ _ _, rfl, hB1⟩

end Go.Proofs.Ytlckejjmkjgknab.Hy
