/- By hand (nat_all): a part of this seat's proofs. -/
import Derived.Maps.AppendAt
import Derived.Test.YtlckejjmkjgknabXSolve
import Derived.Test.YtlckejjmkjgknabXNatSol
import Derived.Test.YtlckejjmkjgknabH5
import Derived.Sort.LoopGhostIn
import Derived.Stop.RegionWithIn
import Derived.Laws.EntriesVeiled
namespace Go.Proofs.Ytlckejjmkjgknab.Hy
open Go.RowKit Go.Shelf Go.Proofs.YtlckejjmkjgknabW.PrintWords Go.Proofs.YtlckejjmkjgknabW.PrintLast Go.Proofs.YtlckejjmkjgknabW.PrintMore
set_option linter.unusedVariables false
set_option linter.unusedSimpArgs false
attribute [local go_sem] Oper.semAt_some
/-- the inner rows of out -/
def InnerOk (W : World) (lo : Nat) (xs : List (List Int)) (inner : List Value) : Prop :=
  inner.length = xs.length ∧ ∀ i, i < xs.length → ∃ g, lo ≤ g ∧ inner[i]? = some (.slice (some ⟨g, 0, none⟩) (xs.getD i []).length (xs.getD i []).length) ∧ W.heap[g]? = some (.cells (nums .i64 (xs.getD i [])).toArray 2 (0, 0))
theorem InnerOk.step {W W' : World} {lo : Nat} {xs : List (List Int)} {inner : List Value} (h : InnerOk W lo xs inner) (hk : ∀ g cs, lo ≤ g → W.heap[g]? = some (.cells cs 2 (0, 0)) → W'.heap[g]? = W.heap[g]?) : InnerOk W' lo xs inner :=
  ⟨h.1, fun i hi => by
    obtain ⟨g, h1, h2, h3⟩ := h.2 i hi
    exact ⟨g, h1, h2, (hk g _ h1 h3).trans h3⟩⟩
theorem InnerOk.snoc {W : World} {lo g : Nat} {xs : List (List Int)} {inner : List Value} {x : List Int} (h : InnerOk W lo xs inner) (hlo : lo ≤ g) (hg : W.heap[g]? = some (.cells (nums .i64 x).toArray 2 (0, 0))) :
    InnerOk W lo (xs ++ [x]) (inner ++ [.slice (some ⟨g, 0, none⟩) x.length x.length]) := by
  refine ⟨by simp [h.1], fun i hi => ?_⟩
  rcases Nat.lt_or_ge i xs.length with h1 | h1
  · obtain ⟨g', h2, h3, h4⟩ := h.2 i h1
    have e : (xs ++ [x]).getD i [] = xs.getD i [] := by rw [List.getD_eq_getElem?_getD, List.getElem?_append_left h1, ← List.getD_eq_getElem?_getD]
    rw [e]
    exact ⟨g', h2, by rw [List.getElem?_append_left (by rw [h.1]; exact h1)]; exact h3, h4⟩
  · have h2 : i = xs.length := by simp at hi; omega
    subst h2
    have e : (xs ++ [x]).getD xs.length [] = x := by rw [List.getD_eq_getElem?_getD, List.getElem?_append_right (Nat.le_refl _)]; simp
    rw [e]
    exact ⟨g, hlo, by rw [List.getElem?_append_right (by rw [h.1]; exact Nat.le_refl _), h.1]; simp, hg⟩
/-- out, in its box -/
structure OutIs (w : World) (Bo lo : Nat) (xs : List (List Int)) (W : World) : Prop where
  ex : ∃ v inner, W.heap[Bo]? = some (.cells #[v] 22 (0, 0)) ∧ W.ownsRow lo 23 1 v xs.length inner ∧ InnerOk W lo xs inner
  bel : Below w.heap.size w W
theorem own_ne_two {W : World} {lo n g : Nat} {v : Value} {inner : List Value} {cs : Array Value} {t : TypeId} (h : W.ownsRow lo 23 1 v n inner) (hg : W.heap[g]? = some (.cells cs t (0, 0))) (ht : t ≠ 23) : some g ≠ v.ownBlock := by
  intro e
  obtain ⟨cells, hc⟩ := own_typed h g e.symm
  rw [hc] at hg
  injection hg with hg
  injection hg with _ hg
  exact ht hg.symm
theorem OutIs.row {w W : World} {lo n : Nat} {v : Value} {inner : List Value} {xs : List (List Int)} (h : W.ownsRow lo 23 1 v n inner) (hn : n = xs.length) (hi : InnerOk W lo xs inner) (hlo : w.heap.size ≤ lo) (hs : ∀ x ∈ xs, x.length ≤ 9223372036854775807) :
    Kd.R (Kd.slice 2 (Kd.int .i64)) 23 W w.heap.size (fun _ => True) v xs := by
  subst hn
  refine ⟨fun _ _ => trivial, inner, own_weaken h hlo, by simp [hi.1, Kd.slice], fun j p hp => ?_⟩
  have hj : j < xs.length := (List.getElem?_eq_some_iff.1 hp).1
  obtain ⟨g, h1, h2, h3⟩ := hi.2 j hj
  have e : xs.getD j [] = p := by rw [List.getD_eq_getElem?_getD, hp]; rfl
  rw [e] at h2 h3
  refine ⟨.slice (some ⟨g, 0, none⟩) p.length p.length, ?_, ?_⟩
  · have hd : (inner.drop j).take 1 = [.slice (some ⟨g, 0, none⟩) p.length p.length] := by
      have hl : j < inner.length := by rw [hi.1]; exact hj
      rw [List.drop_eq_getElem_cons hl]
      have := (List.getElem?_eq_some_iff.1 h2).2
      simp [this]
    simpa [Kd.slice] using hd
  · have hne := own_ne_two h h3 (by decide)
    have hp2 : p.length ≤ 9223372036854775807 := hs p (List.mem_of_getElem? hp)
    have hR := row_fresh (W := W) (B := w.heap.size) (g := g) (x := p) (by omega) h3 hp2
    refine Kd.R_of_own ?_ ?_
    · obtain ⟨_, inner', ho, hr⟩ := hR
      refine ⟨by simp [encs], .inr ⟨g, p.length, (nums .i64 p).toArray, rfl, by omega, h3, Nat.le_refl _, by simp only [maxLen]; omega, by simp [nums], ?_⟩⟩
      simp only [nums, encs]
      rw [List.take_of_length_le (by simp)]
    · intro k hk
      have : g = k := by simpa [Value.ownBlock] using hk
      subst this
      exact ⟨trivial, hne⟩
theorem sols_all {a : List (List Int)} {b u : List Int} (hok : okN a b u) : ∀ x ∈ sols a b u [], x.length ≤ 9223372036854775807 := by
  intro x hx
  have h1 := sols_len a b u [] x hx
  have h2 := hok.1.2.1
  simp at h1
  omega
set_option maxRecDepth 100000 in
set_option maxHeartbeats 8000000 in
theorem all_in (k : Nat) (A0 : Option Addr) (c0 : Nat) (l0 : List (List Int)) (A1 : Option Addr) (c1 : Nat) (l1 : List Int) (A2 : Option Addr) (c2 : Nat) (l2 : List Int) (L : Nat) (w : World) (hr0 : Kd.C (Kd.slice 2 (Kd.int .i64)) w A0 l0.length l0) (hc0 : l0.length ≤ c0) (hr1 : Kd.C (Kd.int .i64) w A1 l1.length l1) (hc1 : l1.length ≤ c1) (hr2 : Kd.C (Kd.int .i64) w A2 l2.length l2) (hc2 : l2.length ≤ c2)
    (hk : natural_Check.f k l0 l1 l2 = some 0) (hok : okN l0 l1 l2) (h1 : 1 ≤ L) (h2 : L ≤ 1000) :
    CallsIn Fence.wide 0 Try.prog 18 #[.slice A0 l0.length c0, .slice A1 l1.length c1, .slice A2 l2.length c2, .int .i64 (L : Int)] w fun e w' => ∃ v0_ : Value, e = .returned (.tuple #[v0_, .int .i64 0]) ∧ Kd.R (Kd.slice 2 (Kd.int .i64)) 23 w' w.heap.size (fun _ => True) v0_ ((sols l0 l1 l2 []).take L) ∧ Below w.heap.size w w' := by
  obtain ⟨i0, hi, hz0, hz1, hz2⟩ := info_parts info23
  have hd1 : decide ((L : Int) < 1) = false := by simp; omega
  have hd2 : decide (1000 < (L : Int)) = false := by simp; omega
  have hb1 : Below w.heap.size w (w.alloc (.cells #[.int .i64 (L : Int)] 3)) := below_alloc (Below.refl _ _) _
  have hchk := Aside0.mk (callsIn_wide (n := 0).2 (natural_Check.calls k A0 c0 l0 A1 c1 l1 A2 c2 l2 0 _ (Kd.C_below hr0 hb1) hc0 (Kd.C_below hr1 hb1) hc1 (Kd.C_below hr2 hb1) hc2 hk))
  have r1 := blk_new w (.cells #[.int .i64 (L : Int)] 3)
  refine callsIn_of_wp_marks Try.func18 rfl trivial ?_ rfl
  simp only [Try.ntmps18, List.size_toArray, List.length_cons, List.length_nil, Nat.reduceAdd, Nat.reduceSub, Array.replicate_succ, Array.replicate_zero, List.push_toArray, List.append_toArray, List.nil_append, List.cons_append]
  gi_wp2
  refine ⟨trivial, rfl, hchk.out.mono ?_⟩
  rintro e w1 ⟨rfl, hd⟩
  have hd1 := hd.below
  have hB1 : Below w.heap.size w w1 := hb1.trans (hd1.mono hb1.size)
  have r2 := blk_below r1 hd1
  have cL := cell_of_one r2
  have hs1 : w.heap.size + 1 ≤ w1.heap.size := by have := hd1.size; simpa using this
  replace r2 := Aside0.mk r2
  clear hd hchk hd1 r1
  gi_wp2
  refine ⟨trivial, rfl, (solutions_calls _ _ _ _ _ _ _ _ _ _).mono ?_⟩
  rintro e w2 ⟨rfl, hw2⟩
  replace hw2 := Aside0.mk hw2
  gi_wp2
  have hBn : Below w.heap.size w (w1.alloc (.cells #[.slice none 0 0] 22)) := hB1.alloc hB1.size _
  obtain ⟨priv, hold, hpv', hho', hit, hsz, hB2, hB3⟩ := it_setup A0 c0 l0 A1 c1 l1 A2 c2 l2 w (w1.alloc (.cells #[.slice none 0 0] 22)) w2 hr0 hr1 hr2 hok hBn hw2.out
  have t0 := blk_below (blk_new w1 (.cells #[.slice none 0 0] 22)) hB3
  have tL := blk_below (blk_alloc r2.out (.cells #[.slice none 0 0] 22)) hB3
  simp only [World.size_alloc] at hit hsz hho' hB3
  have hw1s := hB1.size
  have hpv : ∀ k, priv k → w2.heap.size + 2 ≤ k := fun k hk => (hpv' k hk).1
  have hho : ¬ hold w1.heap.size := hho' _ hw1s (.inl (by omega))
  have hsz1 : w1.heap.size + 4 ≤ w2.heap.size := by omega
  have hsz2 : w2.heap.size ≤ w1.heap.size + 4 := by omega
  clear hsz
  have stay : ∀ (W W' : World) (k : Nat) (o : Obj), W.heap[k]? = some o → k < w2.heap.size → Chg (fun k => priv k ∨ k = w2.heap.size + 1) W W' → W'.heap[k]? = some o := fun W W' k o h hk hc => (hc.block _ (Array.getElem?_eq_some_iff.1 h).1 (fun hn => by
    rcases hn with hn | hn
    · have := hpv _ hn; omega
    · omega)).trans h
  have stay2 : ∀ (W W' : World) (k : Nat), k < W.heap.size → w2.heap.size + 9 ≤ k → Chg (fun k => priv k ∨ k = w2.heap.size + 1) W W' → W'.heap[k]? = W.heap[k]? := fun W W' k h hk hc => hc.block _ h (fun hn => by
    rcases hn with hn | hn
    · have := (hpv' _ hn).2; omega
    · omega)
  have stayB : ∀ (W W' : World), Below w.heap.size w W → Chg (fun k => priv k ∨ k = w2.heap.size + 1) W W' → Below w.heap.size w W' := fun W W' h hc => h.trans (hc.below h.size (fun k hn => by
    rcases hn with hn | hn
    · have := hpv _ hn; omega
    · omega))
  have stayO : ∀ (pre : List (List Int)) (W W' : World), OutIs w w1.heap.size (w2.heap.size + 9) pre W → Chg (fun k => priv k ∨ k = w2.heap.size + 1) W W' → OutIs w w1.heap.size (w2.heap.size + 9) pre W' := fun pre W W' h hc => by
    obtain ⟨⟨v, inner, g1, g2, g3⟩, g4⟩ := h
    refine ⟨⟨v, inner, stay _ _ _ _ g1 (by omega) hc, own_move g2 (fun k hk => stay2 _ _ _ (own_lt g2 k hk) (own_base g2 k hk) hc), g3.step (fun g cs hg hb => stay2 _ _ _ (Array.getElem?_eq_some_iff.1 hb).1 hg hc)⟩, stayB _ _ g4 hc⟩
  refine rangeFunc_it (gf := 25) (lb := #[.pointer (some ⟨w1.heap.size + 1 + 1 + 1, 0, none⟩), .pointer (some ⟨w1.heap.size + 1 + 1, 0, none⟩), .pointer (some ⟨w1.heap.size + 1, 0, none⟩)]) rfl (enters_of Try.func25 (by kernel_rfl) rfl) hpv (hho' _ (by omega) (.inr (.inl (by omega)))) elt_size elt_turn hit
    (fun pre W => pre.length < L ∧ W.heap[w.heap.size]? = some (.cells #[.int .i64 (L : Int)] 3 (0, 0)) ∧ OutIs w w1.heap.size (w2.heap.size + 9) pre W)
    (fun c pre W => c = .exit 0 ∧ pre.length = L ∧ OutIs w w1.heap.size (w2.heap.size + 9) pre W)
    ?hI ?hIx ?h0 (fun vs => { tmps := #[.slice A0 l0.length c0, .slice A1 l1.length c1, .slice A2 l2.length c2, .int .i64 (L : Int), undef, undef, undef, .pointer (some ⟨w.heap.size, 0, none⟩), .slice none 0 0, .int .i64 0, .int .i64 0, .pointer (some ⟨w1.heap.size, 0, none⟩), vs.getD 0 undef,
      .slice A0 l0.length c0, .slice A1 l1.length c1, .slice A2 l2.length c2, .int .i64 0, .int .i64 0, .bool false, undef, .int .i64 (L : Int), .bool false, .bool false, .int .i64 (L : Int), .bool false, .bool false, .slice A0 l0.length c0, .slice A1 l1.length c1, .slice A2 l2.length c2,
      .func (.func 25) #[] #[.pointer (some ⟨w1.heap.size + 1 + 1 + 1, 0, none⟩), .pointer (some ⟨w1.heap.size + 1 + 1, 0, none⟩), .pointer (some ⟨w1.heap.size + 1, 0, none⟩)], vs.getD 0 undef, undef, undef, undef, undef, undef, undef, undef, undef, undef], defers := [] }) ?assign ?body ?done ?stop
  case hI =>
    rintro pre A B ⟨g1, g2, g3⟩ hc
    exact ⟨g1, stay _ _ _ _ g2 (by omega) hc, stayO _ _ _ g3 hc⟩
  case hIx =>
    rintro c pre A B ⟨g1, g2, g3⟩ hc
    exact ⟨g1, g2, stayO _ _ _ g3 hc⟩
  case h0 =>
    intro r
    exact ⟨by simp; omega, blk_alloc (blk_alloc tL _) _, ⟨.slice none 0 0, [], blk_alloc (blk_alloc t0 _) _, World.ownsRow_nil _ _ _ _, ⟨rfl, fun i hi => by simp at hi⟩⟩, (hB2.alloc hB2.size _).alloc (by simp; have := hB2.size; omega) _⟩
  case assign =>
    intro vs W K hvs hK
    obtain ⟨v, rfl⟩ : ∃ v, vs = #[v] := by
      match vs, hvs with
      | ⟨[v]⟩, _ => exact ⟨v, rfl⟩
    have e : (#[v] : Array Value).getD 0 undef = v := rfl
    simp only [e] at hK
    gi_wp2
    simpa using hK
  case body =>
    rintro pre x vs W0 W ⟨g1, g2, g3⟩ hc ⟨g, hg0, hg1, hg2, rfl, hg⟩ hpre hWs
    have k2 := stay _ _ _ _ g2 (by omega) hc
    obtain ⟨⟨v, inner, k3, k4, k5⟩, k6⟩ := stayO _ _ _ g3 hc
    have c2 := cell_of_one k2
    have c3 := cell_of_one k3
    have f3 := free_of_one k3
    clear g2 g3
    have ne1 : some w1.heap.size ≠ v.ownBlock := fun e => by have := own_base k4 _ e.symm; omega
    have ne0 : some w.heap.size ≠ v.ownBlock := fun e => by have := own_base k4 _ e.symm; omega
    have neg : some g ≠ v.ownBlock := own_ne_two k4 hg (by decide)
    have lt1 : w1.heap.size < W.heap.size := blk_lt k3
    have hWlo : w2.heap.size + 9 ≤ W.heap.size := by omega
    replace hg := Aside0.mk hg
    replace k2 := Aside0.mk k2
    replace k3 := Aside0.mk k3
    replace k5 := Aside0.mk k5
    replace ne1 := Aside0.mk ne1
    replace ne0 := Aside0.mk ne0
    replace neg := Aside0.mk neg
    gi_wp2_with (gi_at_builtin; refine wpListIn_append_own _ rfl _ _ 22 rfl (w2.heap.size + 9) 23 i0 (.slice none 0 0) 1 24 Try.underlying22 hi hz0 hz1 hz2 rfl (by decide) _ _ _ rfl (k4.alloc _) ⟨W.heap.size, 0, none⟩ 1 1 [.slice (some ⟨g, 0, none⟩) x.length x.length] rfl rfl (cell_one_new _ _ _) (by simp [Value.oneCell']) (by simp only [maxLen]; omega) (by omega) (by simp; omega) ?_; intro v' w3 hown' hgrow _; obtain ⟨g', cap', rfl⟩ := ownsRow_succ hown'; have hb3 := blk_grown (blk_alloc k3.out _) hgrow ne1.out; have hl3 := blk_grown (blk_alloc k2.out _) hgrow ne0.out; have cb3 := cell_of_one hb3; have fb3 := free_of_one hb3; have cl3 := cell_of_one (blk_far hl3 (p := ⟨w1.heap.size, 0, none⟩) (by show w.heap.size ≠ w1.heap.size; omega) (.slice (some ⟨g', 0, none⟩) (pre.length + 1) cap')); have co3 := cell_of_one (one_setCell (u := .slice (some ⟨g', 0, none⟩) (pre.length + 1) cap') hb3))
    all_goals (
      rename_i hq
      have kf : ∀ (j : Nat) (o : Obj), W.heap[j]? = some o → some j ≠ v.ownBlock → j ≠ w1.heap.size → (w3.setCell ⟨w1.heap.size, 0, none⟩ (.slice (some ⟨g', 0, none⟩) (pre.length + 1) cap')).heap[j]? = some o := fun j o h hn hj =>
        (Below.heap_setCell _ _ _ _ hj).trans (blk_grown (blk_alloc h _) hgrow hn)
      have hO : OutIs w w1.heap.size (w2.heap.size + 9) (pre ++ [x]) (w3.setCell ⟨w1.heap.size, 0, none⟩ (.slice (some ⟨g', 0, none⟩) (pre.length + 1) cap')) := by
        refine ⟨⟨_, inner ++ [.slice (some ⟨g, 0, none⟩) x.length x.length], one_setCell hb3, ?_, ?_⟩, ?_⟩
        · have e : (pre ++ [x]).length = pre.length + 1 := by simp
          rw [e]
          refine own_move hown' (fun j hj => Below.heap_setCell _ _ _ _ (by show j ≠ w1.heap.size; have := own_base hown' j hj; omega))
        · exact (k5.out.step (fun j cs hj hb => (kf j _ hb (own_ne_two k4 hb (by decide)) (by omega)).trans hb.symm)).snoc hg0 (kf g _ hg.out neg.out (by omega))
        · refine (((k6.alloc k6.size _).grown hgrow ?_ ?_).setCell ?_ _)
          · simp; have := k6.size; omega
          · intro j hj
            have := own_base k4 j (by simpa [go_sem, Act.eval] using hj)
            omega
          · show w.heap.size ≤ w1.heap.size
            omega
      have hC : Chg (fun k => ¬ (hold k ∨ k = w2.heap.size ∨ k = w2.heap.size + 1)) W (w3.setCell ⟨w1.heap.size, 0, none⟩ (.slice (some ⟨g', 0, none⟩) (pre.length + 1) cap')) := by
        refine (((Chg.refl _ W).alloc _).trans (Chg.of_grown hgrow ?_)).setCell ?_ _
        · intro j hj
          have hj2 := own_base k4 j (by simpa [go_sem, Act.eval] using hj)
          have := hho' j (by omega) (.inr (.inr hj2))
          rintro (h | h | h)
          · exact this h
          · omega
          · omega
        · show ¬ (hold w1.heap.size ∨ w1.heap.size = w2.heap.size ∨ w1.heap.size = w2.heap.size + 1)
          rintro (h | h | h)
          · exact hho h
          · omega
          · omega)
    · have hq' : pre.length + 1 = L := by
        simp only [beq_iff_eq] at hq
        omega
      exact ⟨⟨rfl, by simp; omega, hO⟩, hC⟩
    · have hq' : pre.length + 1 ≠ L := by
        intro h
        simp only [beq_eq_false_iff_ne, ne_eq] at hq
        exact hq (by omega)
      exact ⟨⟨by simp; omega, kf _ _ k2.out ne0.out (by omega), hO⟩, hC⟩
  case done =>
    rintro W ⟨g1, g2, ⟨v, inner, k3, k4, k5⟩, k6⟩ hK
    have c3 := cell_of_one k3
    have k4 := own_move (w1 := W.putObj w2.heap.size (.deferred none)) k4 (fun j hj => World.putObj_heap_other (by have := own_base k4 j hj; omega))
    have k5 := k5.step (W' := W.putObj w2.heap.size (.deferred none)) (fun j cs hj hb => World.putObj_heap_other (by omega))
    have hR := OutIs.row (w := w) k4 rfl k5 (Nat.le_trans hw1s (by omega)) (sols_all hok)
    rw [← List.take_of_length_le (Nat.le_of_lt g1)] at hR
    have hB := put_below k6 (D := w2.heap.size) (Nat.le_trans hw1s (by omega)) (.deferred none)
    gi_wp2
    refine ⟨by simp, .inl ⟨_, _, rfl, run_takeDeferred hK, ?_⟩⟩
    exact ⟨_, results_tmp2 rfl _ _ _, v, rfl, hR, hB⟩
  case stop =>
    rintro c pre W hpre ⟨rfl, hl, ⟨v, inner, k3, k4, k5⟩, k6⟩ hK
    have c3 := cell_of_one k3
    have k4 := own_move (w1 := W.putObj w2.heap.size (.deferred none)) k4 (fun j hj => World.putObj_heap_other (by have := own_base k4 j hj; omega))
    have k5 := k5.step (W' := W.putObj w2.heap.size (.deferred none)) (fun j cs hj hb => World.putObj_heap_other (by omega))
    have hR := OutIs.row (w := w) k4 rfl k5 (Nat.le_trans hw1s (by omega)) (fun x hx => sols_all hok x (hpre.subset hx))
    rw [List.prefix_iff_eq_take.1 hpre, hl] at hR
    have hB := put_below k6 (D := w2.heap.size) (Nat.le_trans hw1s (by omega)) (.deferred none)
    gi_wp2
    refine ⟨by simp, .inl ⟨_, _, rfl, run_takeDeferred hK, ?_⟩⟩
    exact ⟨_, results_tmp2 rfl _ _ _, v, rfl, hR, hB⟩
/-- what All answers -/
def natural_All.f (k : Nat) (l0 : List (List Int)) (l1 : List Int) (l2 : List Int) (a3 : Int) : Option ((List (List Int)) × Int) :=
  (natural_Check.f k l0 l1 l2).bind fun e => if e = 0 then (if a3 < 1 ∨ 1000 < a3 then some ([], 1) else if okN l0 l1 l2 then some ((sols l0 l1 l2 []).take a3.toNat, 0) else none) else some ([], e)
theorem natural_All.mono : ∀ a0 a1 a2 a3 k, LeO (natural_All.f k a0 a1 a2 a3) (natural_All.f (k + 1) a0 a1 a2 a3) := by
  intro a0 a1 a2 a3 k
  exact LeO.bind (natural_Check.mono a0 a1 a2 k) (fun _ => LeO.refl _)
set_option maxRecDepth 100000 in
set_option maxHeartbeats 8000000 in
theorem all_err (k : Nat) (A0 : Option Addr) (c0 : Nat) (l0 : List (List Int)) (A1 : Option Addr) (c1 : Nat) (l1 : List Int) (A2 : Option Addr) (c2 : Nat) (l2 : List Int) (a3 e r : Int) (w : World) (hr0 : Kd.C (Kd.slice 2 (Kd.int .i64)) w A0 l0.length l0) (hc0 : l0.length ≤ c0) (hr1 : Kd.C (Kd.int .i64) w A1 l1.length l1) (hc1 : l1.length ≤ c1) (hr2 : Kd.C (Kd.int .i64) w A2 l2.length l2) (hc2 : l2.length ≤ c2)
    (hk : natural_Check.f k l0 l1 l2 = some e) (he : (e ≠ 0 ∧ r = e) ∨ (e = 0 ∧ (a3 < 1 ∨ 1000 < a3) ∧ r = 1)) :
    CallsIn Fence.wide 0 Try.prog 18 #[.slice A0 l0.length c0, .slice A1 l1.length c1, .slice A2 l2.length c2, .int .i64 a3] w fun e w' => ∃ v0_ : Value, e = .returned (.tuple #[v0_, .int .i64 r]) ∧ Kd.R (Kd.slice 2 (Kd.int .i64)) 23 w' w.heap.size (fun _ => True) v0_ [] ∧ Below w.heap.size w w' := by
  have hb1 : Below w.heap.size w (w.alloc (.cells #[.int .i64 a3] 3)) := below_alloc (Below.refl _ _) _
  have hchk := Aside0.mk (callsIn_wide (n := 0).2 (natural_Check.calls k A0 c0 l0 A1 c1 l1 A2 c2 l2 e _ (Kd.C_below hr0 hb1) hc0 (Kd.C_below hr1 hb1) hc1 (Kd.C_below hr2 hb1) hc2 hk))
  have r1 := blk_new w (.cells #[.int .i64 a3] 3)
  refine callsIn_of_wp_marks Try.func18 rfl trivial ?_ rfl
  simp only [Try.ntmps18, List.size_toArray, List.length_cons, List.length_nil, Nat.reduceAdd, Nat.reduceSub, Array.replicate_succ, Array.replicate_zero, List.push_toArray, List.append_toArray, List.nil_append, List.cons_append]
  rcases he with ⟨he, rfl⟩ | ⟨rfl, ha, rfl⟩
  · have hne : (r != (0 : Int)) = true := by simp [he]
    gi_wp2
    refine ⟨trivial, rfl, hchk.out.mono ?_⟩
    rintro e w1 ⟨rfl, hd⟩
    have hB1 := hb1.trans (hd.below.mono hb1.size)
    have r2 := cell_of_one (blk_below r1 hd.below)
    clear hd hchk
    gi_wp2
    exact ⟨_, results_tmp2 rfl _ _ _, _, rfl, Kd.R_nil _ _ _ _ _, hB1⟩
  · have hne : ((0 : Int) != (0 : Int)) = false := by simp
    rcases ha with ha | ha
    · have hd1 : decide (a3 < 1) = true := by simp; omega
      gi_wp2
      refine ⟨trivial, rfl, hchk.out.mono ?_⟩
      rintro e w1 ⟨rfl, hd⟩
      have hB1 := hb1.trans (hd.below.mono hb1.size)
      have r2 := cell_of_one (blk_below r1 hd.below)
      clear hd hchk
      gi_wp2
      exact ⟨_, results_tmp2 rfl _ _ _, _, rfl, Kd.R_nil _ _ _ _ _, hB1⟩
    · have hd1 : decide (a3 < 1) = false := by simp; omega
      have hd2 : decide (1000 < a3) = true := by simp; omega
      gi_wp2
      refine ⟨trivial, rfl, hchk.out.mono ?_⟩
      rintro e w1 ⟨rfl, hd⟩
      have hB1 := hb1.trans (hd.below.mono hb1.size)
      have r2 := cell_of_one (blk_below r1 hd.below)
      clear hd hchk
      gi_wp2
      exact ⟨_, results_tmp2 rfl _ _ _, _, rfl, Kd.R_nil _ _ _ _ _, hB1⟩
theorem natural_All.calls (k : Nat) (A0 : Option Addr) (c0 : Nat) (l0 : List (List Int)) (A1 : Option Addr) (c1 : Nat) (l1 : List Int) (A2 : Option Addr) (c2 : Nat) (l2 : List Int) (a3 : Int) (r1 : List (List Int)) (r2 : Int) (w : World) (hr0 : Kd.C (Kd.slice 2 (Kd.int .i64)) w A0 l0.length l0) (hc0 : l0.length ≤ c0) (hr1 : Kd.C (Kd.int .i64) w A1 l1.length l1) (hc1 : l1.length ≤ c1) (hr2 : Kd.C (Kd.int .i64) w A2 l2.length l2) (hc2 : l2.length ≤ c2) (h : natural_All.f k l0 l1 l2 a3 = some (r1, r2)) :
    Calls Try.prog 18 #[.slice A0 l0.length c0, .slice A1 l1.length c1, .slice A2 l2.length c2, .int .i64 a3] w fun e w' => ∃ v0_ : Value, e = .returned (.tuple #[v0_, .int .i64 r2]) ∧ Kd.R (Kd.slice 2 (Kd.int .i64)) 23 w' w.heap.size (fun _ => True) v0_ r1 ∧ Below w.heap.size w w' := by
  rw [natural_All.f] at h
  cases hk : natural_Check.f k l0 l1 l2 with
  | none => rw [hk] at h; simp at h
  | some e =>
    rw [hk, Option.bind_some] at h
    by_cases he : e = 0
    · subst he
      rw [if_pos rfl] at h
      by_cases ha : a3 < 1 ∨ 1000 < a3
      · rw [if_pos ha] at h
        injection h with h
        injection h with h1 h2
        subst h1 h2
        exact callsIn_wide.1 (all_err k A0 c0 l0 A1 c1 l1 A2 c2 l2 a3 0 1 w hr0 hc0 hr1 hc1 hr2 hc2 hk (.inr ⟨rfl, ha, rfl⟩))
      · rw [if_neg ha] at h
        by_cases hok : okN l0 l1 l2
        · rw [if_pos hok] at h
          injection h with h
          injection h with h1 h2
          subst h1 h2
          obtain ⟨L, rfl⟩ : ∃ L : Nat, a3 = (L : Int) := ⟨a3.toNat, by omega⟩
          exact callsIn_wide.1 (all_in k A0 c0 l0 A1 c1 l1 A2 c2 l2 L w hr0 hc0 hr1 hc1 hr2 hc2 hk hok (by omega) (by omega))
        · rw [if_neg hok] at h; simp at h
    · rw [if_neg he] at h
      injection h with h
      injection h with h1 h2
      subst h1 h2
      exact callsIn_wide.1 (all_err k A0 c0 l0 A1 c1 l1 A2 c2 l2 a3 e e w hr0 hc0 hr1 hc1 hr2 hc2 hk (.inl ⟨he, rfl⟩))

end Go.Proofs.Ytlckejjmkjgknab.Hy
