/- random.Shuffle, proved by hand: what the call answers, and that what was there stays. The array of 64 numbers is one block. -/
import Derived.Test.YtlckejjmkjgknaaH1
import Derived.RegionTactic
import Derived.BigRegion
import Derived.Laws.CopyOwn
namespace Go.Proofs.Ytlckejjmkjgknaa.Hy
open Go.RowKit Go.Proofs.YtlckejjmkjgknaaW.PrintWords Go.Proofs.YtlckejjmkjgknaaW.PrintLast Go.Proofs.YtlckejjmkjgknaaW.PrintMore

/-- block B is the array of 64 numbers cs -/
structure Arr (W : World) (B : Nat) (cs : List Int) : Prop where
  blk : W.heap[B]? = some (.cells (nums .i64 cs).toArray 43 (0, 0))
  len : cs.length = 64
theorem Arr.cell {W : World} {B : Nat} {cs : List Int} (h : Arr W B cs) (j : Nat) (hj : j < 64) : W.cell? ⟨B, j, none⟩ = some (.int .i64 (cs.getD j 0)) := by
  rw [blk_cell h.blk]
  have := h.len
  simp [nums, List.getD_eq_getElem?_getD, List.getElem?_eq_getElem (show j < cs.length by omega)]
theorem Arr.free {W : World} {B : Nat} {cs : List Int} (h : Arr W B cs) (j : Nat) : W.frozen? ⟨B, j, none⟩ = false := blk_frozen h.blk j
theorem Arr.set {W : World} {B : Nat} {cs : List Int} (h : Arr W B cs) (j : Nat) (x : Int) : Arr (W.setCell ⟨B, j, none⟩ (.int .i64 x)) B (cs.set j x) := by
  refine ⟨?_, by simp [h.len]⟩
  have := blk_set h.blk j (.int .i64 x)
  rw [this]
  simp [nums, List.map_set]
theorem Arr.drewN {W : World} {B : Nat} {cs : List Int} (h : Arr W B cs) (n : Nat) : Arr (W.drewN n) B cs := ⟨h.blk, h.len⟩
theorem Arr.drew {W : World} {B : Nat} {cs : List Int} (h : Arr W B cs) : Arr W.drew B cs := ⟨h.blk, h.len⟩
def ini (k : Nat) : List Int := (List.range k).map (fun (i : Nat) => (i : Int)) ++ List.replicate (64 - k) 0
theorem ini_len (k : Nat) (h : k ≤ 64) : (ini k).length = 64 := by simp [ini]; omega
theorem ini_set (k : Nat) (h : k < 64) : (ini k).set k (k : Int) = ini (k + 1) := by
  have e : 64 - k = (64 - (k + 1)) + 1 := by omega
  unfold ini
  rw [List.set_append_right _ _ (by simp), e, List.replicate_succ, List.range_succ]
  simp
theorem Arr.new (w : World) : Arr (w.alloc (.cells (nums .i64 (List.replicate 64 0)).toArray 43)) w.heap.size (ini 0) := ⟨by rw [blk_new]; simp [ini], ini_len 0 (by omega)⟩

def swp (l : List Int) (i j : Nat) : List Int := (l.set i (l.getD j 0)).set j (l.getD i 0)
theorem swp_len (l : List Int) (i j : Nat) : (swp l i j).length = l.length := by simp [swp]
/-- the exchanges, from place j down to 1 -/
def exch : Nat → List Int → Int → Option (List Int × Int)
  | 0, l, s => some (l, s)
  | j + 1, l, s => (random_Below.f s ((j + 1 : Nat) + 1 : Int)).bind fun r => if 0 ≤ r.1 ∧ r.1 ≤ (j + 1 : Nat) then exch j (swp l (j + 1) r.1.toNat) r.2 else none
theorem exch_pos (j : Nat) (hj : 0 < j) (l : List Int) (s : Int) (r : List Int × Int) (h : exch j l s = some r) :
    ∃ q t, random_Below.f s ((j : Int) + 1) = some (q, t) ∧ 0 ≤ q ∧ q ≤ j ∧ exch (j - 1) (swp l j q.toNat) t = some r := by
  obtain ⟨j, rfl⟩ : ∃ m, j = m + 1 := ⟨j - 1, by omega⟩
  rw [exch] at h
  cases hb : random_Below.f s ((j + 1 : Nat) + 1 : Int) with
  | none => rw [hb] at h; simp at h
  | some z =>
    obtain ⟨q, t⟩ := z
    rw [hb] at h
    simp only [Option.bind_some] at h
    split at h
    · rename_i hq; exact ⟨q, t, rfl, hq.1, hq.2, h⟩
    · simp at h
theorem row_of {W2 : World} {B g : Nat} {cs : List Int} {k : Nat} (hb : B ≤ g) (hg : W2.heap[g]? = some (.cells (splice (nums .i64 (List.replicate k 0)) 0 (nums .i64 (cs.take k))).toArray 3 (0, 0))) (hl : cs.length = 64) (hk : k ≤ 64) :
    Kd.R (Kd.int .i64) 3 W2 B (fun _ => True) (.slice (some ⟨g, 0, none⟩) k k) (cs.take k) := by
  have e : splice (nums .i64 (List.replicate k 0)) 0 (nums .i64 (cs.take k)) = nums .i64 (cs.take k) := by
    have : (nums .i64 (cs.take k)).length = k := by simp [nums, hl, hk]
    unfold splice
    rw [List.take_zero, List.nil_append, this, List.drop_of_length_le (by simp [nums]), List.append_nil]
  rw [e] at hg
  have ht : (cs.take k).length = k := by simp [hl, hk]
  refine Kd.R_of_own ?_ (fun _ _ => trivial)
  refine ⟨by simp [encs], .inr ⟨g, k, (nums .i64 (cs.take k)).toArray, by rw [ht], hb, hg, by omega, by simp only [maxLen]; omega, by simp [nums, hl, hk], ?_⟩⟩
  rw [ht]
  simp [nums, encs, List.take_take]
theorem Arr.below {W : World} {B : Nat} {cs : List Int} (h : Arr W B cs) : B < W.heap.size := blk_lt h.blk
theorem made_nums (m : Nat) : madeCells #[Value.int .i64 0] m = (nums .i64 (List.replicate m 0)).toArray := by
  have hl : (madeCells #[Value.int .i64 0] m).toList = nums .i64 (List.replicate m 0) := by
    apply List.ext_getElem
    · simp [nums, madeCells]
    · intro i h1 h2
      simp [nums, madeCells, Nat.mod_one]
  rw [← hl]
theorem size3 : (Try.prog.info? 3).map (·.size) = some 1 := by kernel_rfl
theorem Arr.src {W : World} {B : Nat} {cs : List Int} (h : Arr W B cs) (o : Obj) (n : Nat) : ∀ j v, (nums .i64 (cs.take n))[j]? = some v → (W.alloc o).cell? ((⟨B, 0, none⟩ : Addr).add j) = some v := by
  intro j v hv
  have h2 : Arr (W.alloc o) B cs := ⟨blk_alloc h.blk o, h.len⟩
  have hj : j < (nums .i64 (cs.take n)).length := (List.getElem?_eq_some_iff.1 hv).1
  rw [nums_length, List.length_take, h.len] at hj
  rw [add_plain, h2.cell j (by omega), ← hv]
  simp [nums, List.getD_eq_getElem?_getD, List.getElem?_eq_getElem (show j < cs.length by have := h.len; omega), show j < n by omega]
set_option maxHeartbeats 4000000 in
theorem shuffle_in (a0 : Int) (n : Nat) (w : World) (h1 : 1 ≤ n) (h2 : n ≤ 64) (r1 : List Int) (r2 : Int) (H : exch (n - 1) (ini n) a0 = some (r1, r2)) :
    Calls Try.prog 18 #[.int .u64 a0, .int .i64 n] w fun e w' => ∃ v0_ : Value, e = .returned (.tuple #[v0_, .int .u64 r2]) ∧ Kd.R (Kd.int .i64) 3 w' w.heap.size (fun _ => True) v0_ (r1.take n) ∧ Below w.heap.size w w' := by
  have hA0 := Arr.new w
  obtain ⟨H⟩ : Aside0 (exch (n - 1) (ini n) a0 = some (r1, r2)) := ⟨H⟩
  have H' := Aside0.mk H
  clear H
  go_enter Try.func18, Try.ntmps18
  go_wp2
  go_loopw [20] (fun i wr => ∃ k : Nat, k ≤ n ∧ i = .int .i64 k ∧ Aside0 (Arr wr w.heap.size (ini k)) ∧ Below w.heap.size w wr) (fun i _ => n - (intOf i).toNat)
  case atStart => exact ⟨0, Nat.zero_le _, rfl, ⟨hA0⟩, (Below.refl _ _).alloc (Nat.le_refl _) _⟩
  case round =>
    clear hA0
    obtain ⟨k, hk, rfl, hA, hB⟩ := hrel
    by_cases hlt : k < n
    · have hcell := hA.out.cell k (by omega)
      have hfree := hA.out.free k
      have hset := Aside0.mk (hA.out.set k (k : Int))
      clear hA
      go_wp2
      go_roundw
      case rel => exact ⟨k + 1, by omega, by go_num, ⟨by rw [← ini_set k (by omega)]; exact hset.out⟩, hB.setCell (Nat.le_refl _) _⟩
      case measure => simp [intOf]; omega
    · obtain rfl : k = n := by omega
      go_wp2
      go_loopw [8, 9] (fun v8 v9 wr => ∃ (j : Nat) (cs : List Int) (s : Int), j < k ∧ v8 = .int .u64 s ∧ v9 = .int .i64 j ∧ Aside0 (exch j cs s = some (r1, r2)) ∧ Aside0 (Arr wr w.heap.size cs) ∧ Below w.heap.size w wr) (fun _ v9 _ => (intOf v9).toNat)
      case atStart => exact ⟨k - 1, ini k, a0, by omega, rfl, by go_num, H', hA, hB⟩
      case round =>
        clear hA hB H'
        obtain ⟨j, cs, s, hj, rfl, rfl, H, hA, hB⟩ := hrel
        by_cases hpos : 0 < j
        · obtain ⟨q, t, hb, hq0, hq1, hn⟩ := exch_pos j hpos cs s _ H.out
          have hb := Aside0.mk hb
          have hn := Aside0.mk hn
          clear H
          have hL := hA.out.len
          go_wp2_with (go_at_call 11; refine (random_Below.calls _ _ q t _ hb.out).mono ?_; rintro e w' ⟨rfl, ⟨m, rfl⟩⟩)
          obtain ⟨W, hW⟩ : ∃ W, wr.drewN m = W := ⟨_, rfl⟩
          rw [hW]
          have hA' := Aside0.mk (show Arr W w.heap.size cs from hW ▸ hA.out.drewN m)
          have hB' : Below w.heap.size w W := hW ▸ pw_below_drewN hB m
          clear hW hA hB hb
          obtain ⟨q, rfl⟩ := Int.eq_ofNat_of_zero_le hq0
          have hc1 := hA'.out.cell j (by omega)
          have hc2 := hA'.out.cell q (by omega)
          have hf1 := hA'.out.free j
          have hf2 := hA'.out.free q
          have hc3 := (hA'.out.set j (cs.getD q 0)).cell q (by omega)
          have hc4 := (hA'.out.set q (cs.getD j 0)).cell j (by omega)
          have hq6 : (q : Int) < 64 := by omega
          have hj6 : (j : Int) < 64 := by omega
          simp only [List.getD_eq_getElem?_getD] at hc1 hc2 hc3 hc4
          have hset := Aside0.mk ((hA'.out.set j (cs.getD q 0)).set q (cs.getD j 0))
          go_region
          all_goals go_wp2
          go_roundw
          case rel => exact ⟨j - 1, swp cs j q, t, by omega, rfl, by go_num, hn, ⟨by have := hset.out; simp only [List.getD_eq_getElem?_getD] at this; simpa [swp] using this.drew⟩, ((hB'.setCell (Nat.le_refl _) _).setCell (Nat.le_refl _) _).drew⟩
          case measure => simp [intOf]; omega
        · obtain rfl : j = 0 := by omega
          have hmk := print_make (P := Try.prog) 30 3 .i64 8 Try.underlying30 info3 (by decide) k (by omega)
          have hl := hA.out.len
          have hsrc := Aside0.mk (fun o => hA.out.src o k)
          have hBl := hB.size
          have hcl : Aside0 ((nums .i64 (cs.take k)).length = Nat.min k k) := ⟨by simp only [nums, List.length_map, List.length_take, hl, Nat.min_self]; exact Nat.min_eq_left h2⟩
          have hcf : Aside0 (0 + (nums .i64 (cs.take k)).length ≤ (nums .i64 (List.replicate k 0)).length) := ⟨by rw [hcl.out]; simp [nums]⟩
          have hg0 : Aside0 ((wr.alloc (.cells (madeCells #[.int .i64 0] k) 3)).heap[wr.heap.size]? = some (.cells (nums .i64 (List.replicate k 0)).toArray 3 (0, 0))) := ⟨by rw [made_nums]; exact blk_new _ _⟩
          have h1c : Aside0 (∀ v ∈ nums .i64 (cs.take k), v.oneCell' = true) := ⟨by intro v hv; simp only [nums, List.mem_map] at hv; obtain ⟨x, _, rfl⟩ := hv; rfl⟩
          have hAb := hA.out.below
          go_wp2_with (with_reducible refine wpList_copy_splice rfl (.tmp 53) (.tmp 55) 30 30 rfl 3 Try.underlying30 size3 (some ⟨wr.heap.size, 0, none⟩) (some ⟨w.heap.size, 0, none⟩) k k k 64 rfl rfl wr.heap.size 0 (nums .i64 (List.replicate k 0)) 3 hg0.out (nums .i64 (cs.take k)) hcl.out (fun _ => ⟨rfl, _, rfl, hsrc.out _⟩) hcf.out h1c.out w.heap.size w (hB.alloc hB.size _) hB.size ?_; intro w2 hg2 hb2)
          go_ret2
          obtain ⟨rfl, rfl⟩ : cs = r1 ∧ s = r2 := by have := H.out; simpa [exch] using this
          exact ⟨_, rfl, row_of (hB.size) hg2.out hl h2, hb2⟩
theorem shuffle_no (a0 a1 : Int) (w : World) (h : a1 < 1 ∨ a1 > 64) :
    Calls Try.prog 18 #[.int .u64 a0, .int .i64 a1] w fun e w' => ∃ v0_ : Value, e = .returned (.tuple #[v0_, .int .u64 a0]) ∧ Kd.R (Kd.int .i64) 3 w' w.heap.size (fun _ => True) v0_ [] ∧ Below w.heap.size w w' := by
  by_cases h1 : a1 < 1
  · go_enter Try.func18, Try.ntmps18
    go_wp2
    go_ret2
    exact ⟨_, rfl, Kd.R_nil _ _ _ _ _, Below.refl _ _⟩
  · have h2 : a1 > 64 := by omega
    clear h
    go_enter Try.func18, Try.ntmps18
    go_wp2
    go_ret2
    exact ⟨_, rfl, Kd.R_nil _ _ _ _ _, Below.refl _ _⟩
/-- what Shuffle answers -/
def random_Shuffle.f (a0 : Int) (a1 : Int) : Option (List Int × Int) :=
  if a1 < 1 ∨ a1 > 64 then some ([], a0) else (exch (a1.toNat - 1) (ini a1.toNat) a0).map (fun r => (r.1.take a1.toNat, r.2))
theorem random_Shuffle.calls (a0 : Int) (a1 : Int) (r1 : List Int) (r2 : Int) (w : World) (h : random_Shuffle.f a0 a1 = some (r1, r2)) :
    Calls Try.prog 18 #[.int .u64 a0, .int .i64 a1] w fun e w' => ∃ v0_ : Value, e = .returned (.tuple #[v0_, .int .u64 r2]) ∧ Kd.R (Kd.int .i64) 3 w' w.heap.size (fun _ => True) v0_ r1 ∧ Below w.heap.size w w' := by
  rw [random_Shuffle.f] at h
  by_cases hn : a1 < 1 ∨ a1 > 64
  · rw [if_pos hn] at h
    injection h with h
    injection h with h1 h2
    subst h1 h2
    exact shuffle_no a0 a1 w hn
  · rw [if_neg hn] at h
    obtain ⟨n, rfl⟩ := Int.eq_ofNat_of_zero_le (show 0 ≤ a1 by omega)
    obtain ⟨⟨q1, q2⟩, hq, he⟩ := Option.map_eq_some_iff.1 h
    injection he with h1 h2
    subst h1 h2
    exact shuffle_in a0 n w (by omega) (by omega) q1 q2 hq
end Go.Proofs.Ytlckejjmkjgknaa.Hy
