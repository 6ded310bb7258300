/- By hand (up_bs, up_clone, up_make): a part of this seat's proofs. -/
import Derived.Test.YtliagbliaiigaaaXUse
import Derived.Deep.LoopGhost
namespace Go.Proofs.Ytliagbliaiigaaa.Hy
open Go.RowKit Go.Shelf Go.Proofs.YtliagbliaiigaaaW.PrintWords Go.Proofs.YtliagbliaiigaaaW.PrintLast Go.Proofs.YtliagbliaiigaaaW.PrintMore
set_option linter.unusedVariables false
set_option linter.unusedSimpArgs false
attribute [local go_sem] Oper.semAt_some
/-! ### slices.BinarySearchFunc -/
/-- a closure that compares the i-th value with a target -/
def Compares (w : World) (g : Nat) (vals : List Value) (tv : Value) (q : Nat → Int) : Prop :=
  ∀ (i : Nat) (W : World), i < vals.length → Below w.heap.size w W → Calls Try.prog g #[vals.getD i nilV, tv] W fun e w' => e = .returned (.int .i64 (q i)) ∧ Below W.heap.size W w'
def BsPost (n : Nat) (q : Nat → Int) (w : World) (e : Ending) (w' : World) : Prop :=
  ∃ (at_ : Nat) (b : Bool), e = .returned (.tuple #[.int .i64 at_, .bool b]) ∧ at_ ≤ n ∧ (∀ i, i < at_ → q i < 0) ∧ (∀ i, at_ ≤ i → i < n → 0 ≤ q i) ∧ Below w.heap.size w w'
set_option maxRecDepth 100000 in
set_option maxHeartbeats 4000000 in
theorem bsearch_in (w : World) (A : Option Addr) (c : Nat) (vals : List Value) (tv : Value) (g : Nat) (q : Nat → Int) (hv : Vals w A vals) (hp : Compares w g vals tv q) (hl : vals.length ≤ 1000000)
    (hmono : ∀ i j, i ≤ j → j < vals.length → q j < 0 → q i < 0) (eg : ∀ args w, (callFunc g args).run Try.prog w = .ok (.enter g args) w) :
    Calls Try.prog 35 #[.slice A vals.length c, tv, .func (.func g) #[] #[]] w (BsPost vals.length q w) := by
  replace hmono := Aside0.mk hmono
  replace hp := Aside0.mk hp
  replace hv := Aside0.mk hv
  go_enter Try.func35, Try.ntmps35
  go_wp2
  go_loopg [9, 10] vals.length (fun kx s9 s10 wr => ∃ lo hi : Nat, s9 = .int .i64 lo ∧ s10 = .int .i64 hi ∧ lo ≤ hi ∧ hi ≤ vals.length ∧ hi - lo ≤ kx ∧ Aside0 (Below w.heap.size w wr) ∧
    Aside0 ((∀ t, t < lo → q t < 0) ∧ (∀ t, hi ≤ t → t < vals.length → 0 ≤ q t)))
  case atStart => exact ⟨0, vals.length, rfl, rfl, Nat.zero_le _, Nat.le_refl _, by omega, ⟨Below.refl _ _⟩, ⟨fun t ht => absurd ht (Nat.not_lt_zero _), fun t h1 h2 => by omega⟩⟩
  case round =>
    obtain ⟨lo, hi, rfl, rfl, hlh, hin, hg, hB, I⟩ := hrel
    by_cases hlt : lo < hi
    · obtain ⟨ad, hA, hc⟩ := hv.out ((lo + hi) / 2) (by omega)
      subst hA
      replace hc := pw_cell_below hB.out hc
      have hcall := Aside0.mk (hp.out ((lo + hi) / 2) wr (by omega) hB.out)
      obtain ⟨x, hx⟩ : ∃ x, vals.getD ((lo + hi) / 2) (.slice none 0 0) = x := ⟨_, rfl⟩
      rw [show vals.getD ((lo + hi) / 2) nilV = x from hx] at hcall
      rw [hx] at hc
      obtain ⟨y, hy⟩ : ∃ y, q ((lo + hi) / 2) = y := ⟨_, rfl⟩
      rw [hy] at hcall
      replace hy := Aside0.mk hy
      clear hx
      by_cases hyx : y < 0
      · go_wp2_with fail
        refine hcall.out.mono ?_
        rintro e w' ⟨rfl, hb⟩
        have hB2 := Aside0.mk (hB.out.trans (hb.mono hB.out.size))
        clear hb hcall
        go_wp2
        go_roundg (hi - ((lo + hi) / 2 + 1))
        case measure => omega
        case rel =>
          exact ⟨(lo + hi) / 2 + 1, hi, by rw [show ((lo : Int) + (hi : Int)) / 2 + 1 = (((lo + hi) / 2 + 1 : Nat) : Int) by omega], rfl, by omega, hin, Nat.le_refl _, hB2,
            ⟨fun t ht => hmono.out t ((lo + hi) / 2) (by omega) (by omega) (by rw [hy.out]; exact hyx), I.out.2⟩⟩
      · go_wp2_with fail
        refine hcall.out.mono ?_
        rintro e w' ⟨rfl, hb⟩
        have hB2 := Aside0.mk (hB.out.trans (hb.mono hB.out.size))
        clear hb hcall
        go_wp2
        go_roundg ((lo + hi) / 2 - lo)
        case measure => omega
        case rel =>
          exact ⟨lo, (lo + hi) / 2, rfl, by rw [show ((lo : Int) + (hi : Int)) / 2 = (((lo + hi) / 2 : Nat) : Int) by omega], by omega, by omega, Nat.le_refl _, hB2,
            ⟨I.out.1, fun t ht htn => Int.not_lt.1 fun h => by have := hmono.out ((lo + hi) / 2) t ht htn h; rw [hy.out] at this; omega⟩⟩
    · obtain rfl : hi = lo := by omega
      by_cases hn : hi < vals.length
      · obtain ⟨ad, hA, hc⟩ := hv.out hi (by omega)
        subst hA
        replace hc := pw_cell_below hB.out hc
        have hcall := Aside0.mk (hp.out hi wr (by omega) hB.out)
        obtain ⟨x, hx⟩ : ∃ x, vals.getD hi (.slice none 0 0) = x := ⟨_, rfl⟩
        rw [show vals.getD hi nilV = x from hx] at hcall
        rw [hx] at hc
        obtain ⟨y, hy⟩ : ∃ y, q hi = y := ⟨_, rfl⟩
        rw [hy] at hcall
        clear hx hy
        go_wp2_with fail
        refine hcall.out.mono ?_
        rintro e w' ⟨rfl, hb⟩
        have hB2 := Aside0.mk (hB.out.trans (hb.mono hB.out.size))
        clear hb hcall
        go_wp2
        go_ret2
        exact ⟨hi, _, rfl, by omega, I.out.1, I.out.2, hB2.out⟩
      · go_wp2
        go_ret2
        exact ⟨hi, _, rfl, by omega, I.out.1, I.out.2, hB.out⟩

/-! ### slices.Clone of a marking -/
theorem reads_of_C {w : World} {A : Option Addr} {n : Nat} {xs : List Int} (h : Kd.C (Kd.int .i64) w A n xs) : ReadsInt w .i64 A n xs := by
  refine ⟨h.1, h.2.1, fun hn => ?_⟩
  obtain ⟨ad, e, _⟩ := h.2.2 hn
  refine ⟨ad, e, fun j hj => ?_⟩
  obtain ⟨ad2, e2, hc⟩ := int_at h j (by have := h.1; omega)
  have : ad = ad2 := by rw [e] at e2; injection e2
  subst this
  exact hc
set_option maxRecDepth 100000 in
set_option maxHeartbeats 4000000 in
theorem clone_in (w : World) (ad : Addr) (c : Nat) (xs : List Int) (hr : Kd.C (Kd.int .i64) w (some ad) xs.length xs) (h1 : 1 ≤ xs.length) (hl : xs.length ≤ 1000000) :
    Calls Try.prog 38 #[.slice (some ad) xs.length c] w fun e w' => ∃ v, e = .returned v ∧ Kd.R (Kd.int .i64) 3 w' w.heap.size (fun _ => True) v xs ∧ Below w.heap.size w w' := by
  have hR := Aside0.mk (reads_of_C hr)
  have heq := Lib.run_eql_slice_nil (P := Try.prog)
  clear hr
  go_enter Try.func38, Try.ntmps38
  have hO : Aside0 ((w.alloc (.cells #[] 3)).ownsRow w.heap.size 3 1 (.slice (some ⟨w.heap.size, 0, none⟩) 0 0) 0 (nums .i64 [])) := ⟨own_lit w w.heap.size 3 .i64 [] (Nat.le_refl _) (by simp)⟩
  go_wp2_with (at_builtin; refine print_append_row (w0 := w) w.heap.size rfl (.tmp 5) (.tmp 6) 28 3 .i64 8 rfl Try.underlying28 infoInt (by decide) (.slice (some ⟨w.heap.size, 0, none⟩) 0 0) [] xs (some ad) xs.length c rfl rfl hO.out (hR.out.allocS _) (below_alloc (Below.refl _ _) _) (by simp) (by simp; omega) ?_; intro v1 w1 ho1 hb1 _ _; replace ho1 := Aside0.mk ho1; replace hb1 := Aside0.mk hb1)
  go_ret
  exact ⟨v1, rfl, Kd.R_of_own ho1.out (fun _ _ => trivial), hb1.out⟩

/-! ### upset.Make -/
theorem below_calls (w : World) (A : Option Addr) (c : Nat) (a : List Int) (A2 : Option Addr) (c2 : Nat) (b : List Int) (h1 : (Kd.int .i64).C w A a.length a) (hc1 : a.length ≤ c) (h2 : (Kd.int .i64).C w A2 b.length b) (hc2 : b.length ≤ c2) (hl : a.length ≤ 1000000) :
    Calls Try.prog 34 #[.slice A a.length c, .slice A2 b.length c2] w fun e w' => e = .returned (.bool (leqL a b)) ∧ ∃ q, w' = w.drewN q := by
  have hcall := Aside0.mk (marking_Leq.calls _ A c a A2 c2 b _ w h1 hc1 h2 hc2 (leq_at a b hl))
  clear h1 h2
  go_enter Try.func34, Try.ntmps34
  go_wp2_with (go_at_call 32; refine hcall.out.mono ?_; rintro e w' ⟨rfl, hd⟩; obtain ⟨q, hq⟩ := hd.out; replace hq := Aside0.mk hq)
  go_ret
  exact ⟨rfl, q, hq.out⟩
/-- out, as it grows -/
structure OutM (W : World) (B : Nat) (v : Value) (ps : List (Value × List Int)) : Prop where
  own : W.ownsRow B 28 1 v ps.length (ps.map (·.1))
  el : ∀ p ∈ ps, (Kd.int .i64).R 3 W B (fun _ => True) p.1 p.2
  ln : ∀ p ∈ ps, 1 ≤ p.2.length ∧ p.2.length ≤ 24
  ap : ps.Pairwise fun p q => p.1.ownBlock ≠ q.1.ownBlock
theorem el_chg {W W' : World} {B n : Nat} {v u : Value} {vals : List Value} {x : List Int} {ok : Nat → Prop} (h : (Kd.int .i64).R 3 W B ok u x) (ho : W.ownsRow B 28 1 v n vals) (hc : Chg (Old v) W W') : (Kd.int .i64).R 3 W' B ok u x :=
  Kd.R_over' (v := v) (e' := 28) h (fun k hk => own_typed ho k hk) (by simp [Kd.int, Kd.scalar]) ⟨hc.os, hc.tape, hc.output, hc.size, fun k hk hne => hc.block k hk (fun hh => hne hh)⟩
namespace OutM
variable {W W' : World} {B : Nat} {v v' : Value} {ps : List (Value × List Int)}
theorem nil (W : World) (B : Nat) : OutM W B (.slice none 0 0) [] := ⟨own_nil _ _ _ _, by simp, by simp, List.Pairwise.nil⟩
theorem below (h : OutM W B v ps) (hb : Below W.heap.size W W') : OutM W' B v ps :=
  ⟨own_move h.own (fun k hk => hb.block k (own_lt h.own k hk)), fun p hp => Kd.R_below (h.el p hp) hb, h.ln, h.ap⟩
theorem form (h : OutM W B v ps) : ∃ A c, v = .slice A ps.length c ∧ ps.length ≤ c ∧ Vals W A (ps.map (·.1)) := by
  rcases own_open h.own with ⟨e, h0, hn⟩ | ⟨g, tl, e, _, _, _, hh⟩
  · refine ⟨none, 0, by rw [e, h0], by omega, fun i hi => ?_⟩
    rw [hn] at hi; simp at hi
  · refine ⟨_, _, e, by omega, fun i hi => ⟨_, rfl, ?_⟩⟩
    rw [add_at, Nat.zero_add, blk_cell hh, List.getElem?_toArray, List.getElem?_append_left hi, List.getD_eq_getElem?_getD, List.getElem?_eq_getElem hi]; rfl
theorem at_ (h : OutM W B v ps) (i : Nat) (hi : i < ps.length) : ∃ A c, (ps.map (·.1)).getD i nilV = .slice A ((ps.map (·.2)).getD i []).length c ∧ ((ps.map (·.2)).getD i []).length ≤ c ∧ (Kd.int .i64).C W A ((ps.map (·.2)).getD i []).length ((ps.map (·.2)).getD i []) ∧ ((ps.map (·.2)).getD i []).length ≤ 24 := by
  have e1 : (ps.map (·.1)).getD i nilV = ps[i].1 := by simp [List.getD_eq_getElem?_getD, List.getElem?_eq_getElem hi]
  have e2 : (ps.map (·.2)).getD i [] = ps[i].2 := by simp [List.getD_eq_getElem?_getD, List.getElem?_eq_getElem hi]
  obtain ⟨A, c, e, hc, hC⟩ := Kd.R_reads (h.el _ (List.getElem_mem hi))
  rw [e1, e2]
  exact ⟨A, c, e, hc, hC, (h.ln _ (List.getElem_mem hi)).2⟩
theorem one (h : OutM W B v ps) : ∀ u ∈ ps.map (·.1), u.oneCell' = true := by
  intro u hu
  obtain ⟨p, hp, rfl⟩ := List.mem_map.1 hu
  obtain ⟨A, c, e, _⟩ := Kd.R_reads (h.el p hp)
  show p.1.oneCell' = true
  rw [e]; rfl
/-- elements are struck -/
theorem del (h : OutM W B v ps) (hc : Chg (Old v) W W') (φ : List Int → Bool) (ho : W'.ownsRow B 28 1 v' (ps.filter fun p => φ p.2).length ((ps.filter fun p => φ p.2).map (·.1))) : OutM W' B v' (ps.filter fun p => φ p.2) :=
  ⟨ho, fun p hp => el_chg (h.el p (List.mem_filter.1 hp).1) h.own hc, fun p hp => h.ln p (List.mem_filter.1 hp).1, h.ap.filter _⟩
/-- an element is put in -/
theorem ins (h : OutM W B v ps) (hc : Chg (Old v) W W') (k : Nat) (u : Value) (x : List Int) (hu : (Kd.int .i64).R 3 W B (fun _ => True) u x) (hx : 1 ≤ x.length ∧ x.length ≤ 24) (hap : ∀ p ∈ ps, p.1.ownBlock ≠ u.ownBlock)
    (ho : W'.ownsRow B 28 1 v' ((ps.map (·.1)).take k ++ u :: (ps.map (·.1)).drop k).length ((ps.map (·.1)).take k ++ u :: (ps.map (·.1)).drop k)) : OutM W' B v' (ps.take k ++ (u, x) :: ps.drop k) := by
  have e : (ps.take k ++ (u, x) :: ps.drop k).map (·.1) = (ps.map (·.1)).take k ++ u :: (ps.map (·.1)).drop k := by simp
  have hmem : ∀ p ∈ ps.take k ++ (u, x) :: ps.drop k, p ∈ ps ∨ p = (u, x) := by
    intro p hp
    rcases List.mem_append.1 hp with hp | hp
    · exact .inl (List.mem_of_mem_take hp)
    · rcases List.mem_cons.1 hp with hp | hp
      · exact .inr hp
      · exact .inl (List.mem_of_mem_drop hp)
  refine ⟨?_, fun p hp => ?_, fun p hp => ?_, ?_⟩
  · rw [← e, List.length_map] at ho; exact ho
  · rcases hmem p hp with hp | rfl
    · exact el_chg (h.el p hp) h.own hc
    · exact el_chg hu h.own hc
  · rcases hmem p hp with hp | rfl
    · exact h.ln p hp
    · exact hx
  · refine List.pairwise_append.2 ⟨h.ap.sublist (List.take_sublist _ _), List.pairwise_cons.2 ⟨fun q hq => fun e => hap q (List.mem_of_mem_drop hq) e.symm, h.ap.sublist (List.drop_sublist _ _)⟩, ?_⟩
    intro p hp q hq
    rcases List.mem_cons.1 hq with rfl | hq
    · exact hap p (List.mem_of_mem_take hp)
    · have := List.take_append_drop k ps
      have h2 := h.ap
      rw [← this] at h2
      exact (List.pairwise_append.1 h2).2.2 p hp q hq
end OutM
theorem kept_filter (φ : List Int → Bool) (ps : List (Value × List Int)) : keptV (fun i => !φ ((ps.map (·.2)).getD i [])) (ps.map (·.1)) ps.length = (ps.filter fun p => φ p.2).map (·.1) := by
  unfold keptV
  have e : ps = (List.range ps.length).map fun i => ps.getD i (nilV, []) := by
    apply List.ext_getElem
    · simp
    · intro i h1 h2
      simp [List.getD_eq_getElem?_getD, List.getElem?_eq_getElem h1]
  conv => rhs; rw [e]
  rw [List.filter_map, List.map_map]
  have hf : (List.range ps.length).filter (fun i => !!φ ((ps.map (·.2)).getD i [])) = (List.range ps.length).filter ((fun p : Value × List Int => φ p.2) ∘ fun i => ps.getD i (nilV, [])) := by
    apply List.filter_congr
    intro i hi
    have hi := List.mem_range.1 hi
    simp [List.getD_eq_getElem?_getD, List.getElem?_eq_getElem hi]
  rw [hf]
  apply List.map_congr_left
  intro i hi
  have hi := List.mem_range.1 (List.mem_filter.1 hi).1
  simp [List.getD_eq_getElem?_getD, List.getElem?_eq_getElem hi]
/-- as the printed texts ask for it -/
theorem OutM.share {W : World} {B : Nat} {v : Value} {ps : List (Value × List Int)} (h : OutM W B v ps) : Kd.S kM 28 W B (fun _ => True) v (ps.map (·.2)) := by
  refine ⟨fun k => ((List.range ps.length).find? fun i => decide ((ps.getD i (nilV, [])).1.ownBlock = some k)).getD 0, fun _ _ => trivial, ps.map (·.1), ?_, ?_, ?_⟩
  · rw [List.length_zipIdx, List.length_map]; exact h.own
  · simp [Kd.tag, Kd.slice]
  · intro j p hp
    have hj : j < ps.length := by
      have := (List.getElem?_eq_some_iff.1 hp).1
      simpa using this
    have hpe : p = (ps[j].2, j) := by
      rw [List.getElem?_zipIdx, List.getElem?_map, List.getElem?_eq_getElem hj] at hp
      simpa using hp.symm
    subst hpe
    have hd : ((ps.map (·.1)).drop (j * (Kd.tag (fun k => ((List.range ps.length).find? fun i => decide ((ps.getD i (nilV, [])).1.ownBlock = some k)).getD 0) kM).sz)).take (Kd.tag (fun k => ((List.range ps.length).find? fun i => decide ((ps.getD i (nilV, [])).1.ownBlock = some k)).getD 0) kM).sz = [ps[j].1] := by
      have hs : (Kd.tag (fun k => ((List.range ps.length).find? fun i => decide ((ps.getD i (nilV, [])).1.ownBlock = some k)).getD 0) kM).sz = 1 := rfl
      rw [hs, Nat.mul_one, List.drop_eq_getElem_cons (by simpa using hj)]
      simp
    rw [hd]
    have hel := h.el _ (List.getElem_mem hj)
    refine ⟨ps[j].1, rfl, fun k hk => ⟨⟨trivial, fun e => ?_⟩, ?_⟩, hel.2⟩
    · obtain ⟨c1, h1⟩ := own_typed h.own k e.symm
      obtain ⟨inner, ho⟩ := Kd.R_own hel
      obtain ⟨c2, h2⟩ := own_typed ho k hk
      rw [h1] at h2
      injection h2 with h2
      injection h2 with _ h2
      exact absurd h2 (by decide)
    · have hf : (List.range ps.length).find? (fun i => decide ((ps.getD i (nilV, [])).1.ownBlock = some k)) = some j := by
        rw [List.find?_range_eq_some]
        refine ⟨by simp [List.getD_eq_getElem?_getD, List.getElem?_eq_getElem hj, hk], List.mem_range.2 hj, fun i hi => ?_⟩
        have := (List.pairwise_iff_getElem.1 h.ap) i j (by omega) hj hi
        rw [hk] at this
        simpa [List.getD_eq_getElem?_getD, List.getElem?_eq_getElem (show i < ps.length by omega)] using this
      show ((List.range ps.length).find? _).getD 0 = j
      rw [hf]; rfl

end Go.Proofs.Ytliagbliaiigaaa.Hy
