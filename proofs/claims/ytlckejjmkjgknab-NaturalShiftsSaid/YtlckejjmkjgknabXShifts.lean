/- By hand (nums2, held, nat_shifts): a part of this seat's proofs. -/
import Derived.Test.YtlckejjmkjgknabXCount
import Derived.Test.YtlckejjmkjgknabH1
import Derived.Test.YtlckejjmkjgknabH3
import Derived.Test.YtlckejjmkjgknabH6
import Derived.Sort.LoopGhostIn
import Derived.Stop.RegionWithIn
import Derived.Maps.OwnIn
import Derived.Laws.EntriesVeiled
import Derived.Outline
import Derived.Handy
namespace Go.Proofs.Ytlckejjmkjgknab.Hy
open Go.RowKit Go.Shelf Go.Proofs.YtlckejjmkjgknabW.PrintWords Go.Proofs.YtlckejjmkjgknabW.PrintLast Go.Proofs.YtlckejjmkjgknabW.PrintMore
set_option linter.unusedVariables false
set_option linter.unusedSimpArgs false
attribute [local go_sem] Oper.semAt_some
theorem nums_cell {W : World} {g t : Nat} {xs : List Int} (h : W.heap[g]? = some (.cells (nums .i64 xs).toArray t (0, 0))) (j : Nat) (hj : j < xs.length) : W.cell? ⟨g, j, none⟩ = some (.int .i64 (xs.getD j 0)) := by
  rw [blk_cell h]
  simp [nums, List.getD_eq_getElem?_getD, List.getElem?_eq_getElem hj]
theorem nums_set {W : World} {g t : Nat} {xs : List Int} (h : W.heap[g]? = some (.cells (nums .i64 xs).toArray t (0, 0))) (j : Nat) (v : Int) : (W.setCell ⟨g, j, none⟩ (.int .i64 v)).heap[g]? = some (.cells (nums .i64 (xs.set j v)).toArray t (0, 0)) := by
  rw [blk_set h]
  congr 2
  simp only [nums, List.map_set, List.setIfInBounds_toArray]

/-! ### what the call itself holds: a list of its blocks -/
structure Held (w : World) (L : List (Nat × Obj)) (W : World) : Prop where
  bel : Below w.heap.size w W
  at_ : ∀ p ∈ L, W.heap[p.1]? = some p.2
  lo : ∀ p ∈ L, w.heap.size ≤ p.1
  nd : (L.map (·.1)).Nodup
namespace Held
variable {w W W' : World} {L : List (Nat × Obj)} {g t : Nat} {cs : Array Value} {xs : List Int}
theorem refl (w : World) : Held w [] w := ⟨Below.refl _ _, by simp, by simp, by simp⟩
theorem of_below (h : Below w.heap.size w W) : Held w [] W := ⟨h, by simp, by simp, by simp⟩
theorem size (h : Held w L W) : w.heap.size ≤ W.heap.size := h.bel.size
theorem lt (h : Held w L W) : ∀ p ∈ L, p.1 < W.heap.size := fun p hp => (Array.getElem?_eq_some_iff.1 (h.at_ p hp)).1
theorem push (h : Held w L W) (o : Obj) : Held w ((W.heap.size, o) :: L) (W.alloc o) := by
  refine ⟨below_alloc h.bel o, ?_, ?_, ?_⟩
  · intro p hp
    rcases List.mem_cons.1 hp with rfl | hp
    · exact blk_new W o
    · exact blk_alloc (h.at_ p hp) o
  · intro p hp
    rcases List.mem_cons.1 hp with rfl | hp
    · exact h.size
    · exact h.lo p hp
  · rw [List.map_cons, List.nodup_cons]
    refine ⟨fun hm => ?_, h.nd⟩
    obtain ⟨p, hp, he⟩ := List.mem_map.1 hm
    have := h.lt p hp
    have he' : p.1 = W.heap.size := he
    omega
theorem below (h : Held w L W) (hb : Below W.heap.size W W') : Held w L W' :=
  ⟨h.bel.trans (hb.mono h.size), fun p hp => (hb.block p.1 (h.lt p hp)).trans (h.at_ p hp), h.lo, h.nd⟩
theorem alloc (h : Held w L W) (o : Obj) : Held w L (W.alloc o) := h.below (below_alloc (Below.refl _ _) o)
theorem drew (h : Held w L W) : Held w L W.drew := h.below (below_drew (Below.refl _ _))
theorem drewN (h : Held w L W) (n : Nat) : Held w L (W.drewN n) := h.below (pw_below_drewN (Below.refl _ _) n)
theorem chg (h : Held w L W) {S : Nat → Prop} (hc : Chg S W W') (hs : ∀ k, S k → w.heap.size ≤ k) (hL : ∀ p ∈ L, ¬ S p.1) : Held w L W' :=
  ⟨h.bel.trans (hc.below h.size hs), fun p hp => (hc.block p.1 (h.lt p hp) (hL p hp)).trans (h.at_ p hp), h.lo, h.nd⟩
theorem mem {p : Nat × Obj} {i : Nat} (hi : L[i]? = some p) : p ∈ L := List.mem_of_getElem? hi
/-- one block is changed -/
theorem upd (h : Held w L W) (i : Nat) {o o' : Obj} (hi : L[i]? = some (g, o)) (hg : W'.heap[g]? = some o') (hb : Chg (fun k => k = g) W W') : Held w (L.set i (g, o')) W' := by
  have hlt : i < L.length := (List.getElem?_eq_some_iff.1 hi).1
  have hgi : L[i] = (g, o) := (List.getElem?_eq_some_iff.1 hi).2
  have hlo := h.lo _ (mem hi)
  have hother : ∀ j (hj : j < L.length), j ≠ i → L[j].1 ≠ g := fun j hj hne he => by
    have h1 : (L.map (·.1))[j]'(by simpa using hj) = (L.map (·.1))[i]'(by simpa using hlt) := by simp [he, hgi]
    have hp := List.pairwise_iff_getElem.1 h.nd
    rcases Nat.lt_or_gt_of_ne hne with hlt2 | hlt2
    · exact hp j i (by simpa using hj) (by simpa using hlt) hlt2 h1
    · exact hp i j (by simpa using hlt) (by simpa using hj) hlt2 h1.symm
  have hmap : (L.set i (g, o')).map (·.1) = L.map (·.1) := by
    rw [List.map_set]
    apply List.ext_getElem (by simp)
    intro j h1 h2
    rw [List.getElem_set]
    split
    · subst_vars; simp [hgi]
    · rfl
  refine ⟨h.bel.trans (hb.below h.size (fun k hk => by rw [hk]; exact hlo)), ?_, ?_, by rw [hmap]; exact h.nd⟩
  · intro p hp
    obtain ⟨j, hj, rfl⟩ := List.getElem_of_mem hp
    rw [List.length_set] at hj
    rw [List.getElem_set]
    split
    · exact hg
    · rename_i hne
      have hp2 : L[j] ∈ L := List.getElem_mem hj
      exact (hb.block _ (h.lt _ hp2) (hother j hj (fun e => hne e.symm))).trans (h.at_ _ hp2)
  · intro p hp
    obtain ⟨j, hj, rfl⟩ := List.getElem_of_mem hp
    rw [List.length_set] at hj
    rw [List.getElem_set]
    split
    · exact hlo
    · exact h.lo _ (List.getElem_mem hj)
theorem set (h : Held w L W) (i j : Nat) (hi : L[i]? = some (g, .cells cs t (0, 0))) (u : Value) : Held w (L.set i (g, .cells (cs.setIfInBounds j u) t (0, 0))) (W.setCell ⟨g, j, none⟩ u) :=
  h.upd i hi (blk_set (h.at_ _ (mem hi)) j u) ((Chg.refl (fun k => k = g) W).setCell (p := ⟨g, j, none⟩) rfl u)
theorem setN (h : Held w L W) (i j : Nat) (hi : L[i]? = some (g, .cells (nums .i64 xs).toArray t (0, 0))) (v : Int) : Held w (L.set i (g, .cells (nums .i64 (xs.set j v)).toArray t (0, 0))) (W.setCell ⟨g, j, none⟩ (.int .i64 v)) :=
  h.upd i hi (nums_set (h.at_ _ (mem hi)) j v) ((Chg.refl (fun k => k = g) W).setCell (p := ⟨g, j, none⟩) rfl _)
theorem put (h : Held w L W) (i : Nat) {o : Obj} (hi : L[i]? = some (g, o)) (o' : Obj) : Held w (L.set i (g, o')) (W.putObj g o') :=
  h.upd i hi (World.putObj_heap_same (h.lt _ (mem hi))) ((Chg.refl (fun k => k = g) W).putObj (r := g) rfl o')
theorem cell (h : Held w L W) (i j : Nat) (hi : L[i]? = some (g, .cells cs t (0, 0))) {v : Value} (hj : cs[j]? = some v) : W.cell? ⟨g, j, none⟩ = some v := (blk_cell (h.at_ _ (mem hi)) j).trans hj
theorem free (h : Held w L W) (i j : Nat) (hi : L[i]? = some (g, .cells cs t (0, 0))) : W.frozen? ⟨g, j, none⟩ = false := blk_frozen (h.at_ _ (mem hi)) j
theorem num (h : Held w L W) (i j : Nat) (hi : L[i]? = some (g, .cells (nums .i64 xs).toArray t (0, 0))) (hj : j < xs.length) : W.cell? ⟨g, j, none⟩ = some (.int .i64 (xs.getD j 0)) := nums_cell (h.at_ _ (mem hi)) j hj
theorem tail {p : Nat × Obj} (h : Held w (p :: L) W) : Held w L W :=
  ⟨h.bel, fun q hq => h.at_ q (List.mem_cons_of_mem _ hq), fun q hq => h.lo q (List.mem_cons_of_mem _ hq), by have := h.nd; rw [List.map_cons, List.nodup_cons] at this; exact this.2⟩
theorem row (h : Held w L W) (i : Nat) (hi : L[i]? = some (g, .cells (nums .i64 xs).toArray 2 (0, 0))) (n : Nat) (hn : n = xs.length) (hm : xs.length ≤ 9223372036854775807) : Kd.R (Kd.int .i64) 2 W w.heap.size (fun _ => True) (.slice (some ⟨g, 0, none⟩) n n) xs := by
  subst hn
  exact row_fresh (h.lo _ (mem hi)) (h.at_ _ (mem hi)) hm
theorem blk (h : Held w L W) (i : Nat) {o : Obj} (hi : L[i]? = some (g, o)) : W.heap[g]? = some o := h.at_ _ (mem hi)
end Held

/-! ### NaturalShifts, walked by hand: rows that lead to what came in -/
/-- a kind whose elements are read in every world that S holds of -/
def under {α : Type} (S : World → Prop) (d : Kd α) : Kd α where
  sz := d.sz
  E := []
  K := fun _ x cs => cs.length = d.sz ∧ (∀ u ∈ cs, u.oneCell' = true) ∧ ∀ W, S W → d.K W x cs
  M := fun _ _ _ x cs => cs.length = d.sz ∧ (∀ u ∈ cs, u.oneCell' = true) ∧ ∀ W, S W → d.K W x cs
  K_len := fun h => h.1
  K_one := fun h => h.2.1
  K_below := fun _ h => h
  K_of_M := fun h => h
  M_mono := fun _ h => h
  M_bound := fun h => h
  M_move := fun _ h => h
  M_lower := fun _ h => h
theorem under_C {α : Type} {S : World → Prop} {W : World} {d : Kd α} {A : Option Addr} {n : Nat} {xs : List α} (h : (under S d).C W A n xs) (hs : S W) : d.C W A n xs :=
  ReadsRow.imp_ (R := (under S d).K W) h (Below.refl _ _) (fun _ _ hp => hp.2.2 W hs)
theorem under_of {α : Type} {w W : World} {d : Kd α} {A : Option Addr} {n : Nat} {xs : List α} (h : d.C w A n xs) (hb : Below w.heap.size w W) : (under (fun W => Below w.heap.size w W) d).C W A n xs :=
  Kd.C_below (ReadsRow.imp_ (R := d.K w) (R' := (under (fun W => Below w.heap.size w W) d).K w) h (Below.refl _ _) (fun _ _ hp => ⟨d.K_len hp, d.K_one hp, fun _ hb => d.K_below hb hp⟩)) hb
theorem under_imp {α : Type} {S S' : World → Prop} {W : World} {d : Kd α} {e base : Nat} {ok : Nat → Prop} {v : Value} {xs : List α} (h : (under S d).R e W base ok v xs) (hs : ∀ W, S' W → S W) : (under S' d).R e W base ok v xs :=
  ⟨h.1, OwnRow.imp_ (R := (under S d).M W base _) (R' := (under S' d).M W base _) h.2 (fun _ _ hp => ⟨hp.1, hp.2.1, fun W hw => hp.2.2 W (hs W hw)⟩)⟩
abbrev kL : Kd (List Int) := Kd.slice 2 (Kd.int .i64)
theorem infoL23 : (Try.prog.info? 23).map (fun i => (i.zero, i.size, i.bytes)) = some (some (.slice none 0 0), 1, 24) := by kernel_rfl
theorem infoL2 : (Try.prog.info? 2).map (fun i => (i.zero, i.size, i.bytes)) = some (some (.int .i64 0), 1, 8) := by kernel_rfl
/-- append of one element to a row of the call's own, inside a fence -/
theorem R_appendI {F : Fence} {nF : Nat} {P : Program} {ops : Array Oper} {rest : List Oper} {o : Oper} {ac : Act} {Q : Exit → Act → World → Prop} {α : Type} (d : Kd α) {w0 W : World} (base : Nat) (hgd : o.guard = none) (s x : Operand) (t e : TypeId) (z : Value) (bytes : Nat)
    (ho : o.op = .call { callee := .builtin .append, args := #[s, x], argTypes := #[t, t] })
    (ht : P.underlying t = some (.slice e)) (hinfo : (P.info? e).map (fun i => (i.zero, i.size, i.bytes)) = some (some z, d.sz, bytes)) (hz : z.cells.size = d.sz) (hs0 : 0 < d.sz) (hb0 : 0 < bytes)
    (v : Value) (xs : List α) (p : α) (cs : List Value) (ok okp : Nat → Prop) (hs : ac.eval s = v) (hx : ac.eval x = .slice (some ⟨W.heap.size, 0, none⟩) 1 1) (hp : d.M W base okp p cs) (hokp : ∀ k, okp k → ok k ∧ some k ≠ v.ownBlock) (hfresh : ∀ k, W.heap.size ≤ k → ok k)
    (HO : d.R e W base ok v xs) (HB : Below base w0 W) (hbase : base ≤ W.heap.size) (hl : (xs.length + 1) * bytes ≤ 140737488355328)
    (h : ∀ v1 w1, Aside0 (d.R e w1 base ok v1 (xs ++ [p])) → Aside0 (Below base w0 w1) → Aside0 (W.grownBy w1 v.ownBlock) → wpListIn F nF P ops Q rest (ac.put o.dst v1) w1) :
    wpListIn F nF P ops Q (o :: rest) ac (W.alloc (.cells cs.toArray e)) := by
  obtain ⟨h0, inner, hown, hr⟩ := HO
  have hys := d.K_len (d.K_of_M hp)
  obtain ⟨i0, hi, hzz⟩ := Option.map_eq_some_iff.1 hinfo
  simp only [Prod.mk.injEq] at hzz
  obtain ⟨hz0, hz1, hz2⟩ := hzz
  have hlen : xs.length + 1 ≤ 140737488355328 := Nat.le_trans (Nat.le_mul_of_pos_right _ hb0) hl
  refine wpListIn_append_own_at (w := W.alloc (.cells cs.toArray e)) hgd s x t ho base e i0 z d.sz bytes ht hi hz0 hz1 hz2 hz hs0 v xs.length inner hs (hown.alloc _) ⟨W.heap.size, 0, none⟩ 1 1 cs hx (by rw [hys]; simp)
    (by simpa using World.news_of_block (cs := cs.toArray) (t := e) (fr := (0, 0)) (heap_alloc_new W (.cells cs.toArray e))) (d.K_one (d.K_of_M hp)) (by simp only [maxLen]; omega) hl (by simp; omega) ?_
  intro v1 w1 hown1 hg _ hat
  have hg2 := World.grownBy.trans (World.grownBy_alloc W (.cells cs.toArray e) v.ownBlock) hg
  refine h v1 w1 ⟨Kd.R_appended h0 hr hp hokp hfresh hown1 hg2 ?_⟩ ⟨(HB.alloc hbase _).grown hg (by simp; omega) (own_base hown)⟩ ⟨hg2⟩
  rcases hat with hat | hat
  · exact .inl hat
  · exact .inr ⟨_, hat, by simp⟩
def S0 (w W : World) : Prop := Below w.heap.size w W
/-- the state of the first loop -/
structure ShA (w0 w1 : World) (B : Nat) (va vb : Value) (xs : List (List Int)) (ys : List Int) (W : World) : Prop where
  bel : Below B w1 W
  ra : (under (S0 w0) kL).R 23 W B (fun _ => True) va xs
  rb : (Kd.int .i64).R 2 W B (fun _ => True) vb ys
namespace ShA
variable {w0 w1 W W' : World} {B : Nat} {va vb v' : Value} {xs : List (List Int)} {ys : List Int} {x : List Int} {y : Int}
theorem appA (h : ShA w0 w1 B va vb xs ys W) (hr : (under (S0 w0) kL).R 23 W' B (fun _ => True) v' (xs ++ [x])) (hb : Below B w1 W') (hg : W.grownBy W' va.ownBlock) : ShA w0 w1 B v' vb (xs ++ [x]) ys W' :=
  ⟨hb, hr, Kd.R_over' (v := va) (e' := 23) h.rb (fun k hk => by obtain ⟨inner, ho⟩ := Kd.R_own h.ra; exact own_typed ho k hk) (by simp [Kd.int, Kd.scalar]) hg⟩
theorem appB (h : ShA w0 w1 B va vb xs ys W) (hr : (Kd.int .i64).R 2 W' B (fun _ => True) v' (ys ++ [y])) (hb : Below B w1 W') (hg : W.grownBy W' vb.ownBlock) : ShA w0 w1 B va v' xs (ys ++ [y]) W' :=
  ⟨hb, Kd.R_over' (v := vb) (e' := 2) h.ra (fun k hk => by obtain ⟨inner, ho⟩ := Kd.R_own h.rb; exact own_typed ho k hk) (by simp [under]) hg, hr⟩
end ShA
/-- the state when row is made: it lies in block g -/
structure ShB (w0 w1 : World) (B g : Nat) (va vb : Value) (xs : List (List Int)) (ys row : List Int) (W : World) : Prop where
  bel : Below B w1 W
  ra : (under (S0 w0) kL).R 23 W B (fun _ => True) va xs
  rb : (Kd.int .i64).R 2 W B (fun k => k ≠ g) vb ys
  rg : W.heap[g]? = some (.cells (nums .i64 row).toArray 2 (0, 0))
  hg : B ≤ g
namespace ShB
variable {w0 w1 W W' : World} {B g : Nat} {va vb v' : Value} {xs : List (List Int)} {ys row : List Int} {x : List Int} {y : Int}
theorem start (h : ShA w0 w1 B va vb xs ys W) (hB : B ≤ W.heap.size) : ShB w0 w1 B W.heap.size va vb xs ys row (W.alloc (.cells (nums .i64 row).toArray 2)) :=
  ⟨h.bel.alloc hB _, Kd.R_below h.ra (below_alloc (Below.refl _ _) _), Kd.R_below (Kd.R_mono (Kd.R_elderB h.rb W.heap.size (Nat.le_refl _)) (fun k hk => hk.2)) (below_alloc (Below.refl _ _) _), blk_new W _, hB⟩
theorem set (h : ShB w0 w1 B g va vb xs ys row W) (j : Nat) (v : Int) : ShB w0 w1 B g va vb xs ys (row.set j v) (W.setCell ⟨g, j, none⟩ (.int .i64 v)) :=
  ⟨h.bel.setCell h.hg _, Kd.R_set h.ra h.rg (by simp [under]) j _, Kd.R_far h.rb (p := ⟨g, j, none⟩) (fun k hk => hk) _, nums_set h.rg j v, h.hg⟩
end ShB
def S1 (w : World) (g : Nat) (row : List Int) (W : World) : Prop := S0 w W ∧ W.heap[g]? = some (.cells (nums .i64 row).toArray 2 (0, 0))
/-- the state when row has gone to a -/
structure ShD (w0 w1 : World) (B g : Nat) (va vb : Value) (xs : List (List Int)) (ys row : List Int) (W : World) : Prop where
  bel : Below B w1 W
  ra : (under (S1 w0 g row) kL).R 23 W B (fun _ => True) va xs
  rb : (Kd.int .i64).R 2 W B (fun k => k ≠ g) vb ys
  rg : W.heap[g]? = some (.cells (nums .i64 row).toArray 2 (0, 0))
namespace ShD
variable {w0 w1 W W' : World} {B g : Nat} {va vb v' : Value} {xs : List (List Int)} {ys row : List Int} {x : List Int} {y : Int}
theorem of (h : ShB w0 w1 B g va vb xs ys row W) (hr : (under (S1 w0 g row) kL).R 23 W' B (fun _ => True) v' (xs ++ [row])) (hb : Below B w1 W') (hg : W.grownBy W' va.ownBlock) : ShD w0 w1 B g v' vb (xs ++ [row]) ys row W' :=
  ⟨hb, hr, Kd.R_over' (v := va) (e' := 23) h.rb (fun k hk => by obtain ⟨inner, ho⟩ := Kd.R_own h.ra; exact own_typed ho k hk) (by simp [Kd.int, Kd.scalar]) hg,
    (hg.block g (blk_lt h.rg) (Kd.R_ne h.ra h.rg (by decide))).trans h.rg⟩
theorem appB (h : ShD w0 w1 B g va vb xs ys row W) (hr : (Kd.int .i64).R 2 W' B (fun k => k ≠ g) v' (ys ++ [y])) (hb : Below B w1 W') (hg : W.grownBy W' vb.ownBlock) : ShD w0 w1 B g va v' xs (ys ++ [y]) row W' :=
  ⟨hb, Kd.R_over' (v := vb) (e' := 2) h.ra (fun k hk => by obtain ⟨inner, ho⟩ := Kd.R_own h.rb; exact own_typed ho k hk) (by simp [under]) hg, hr,
    (hg.block g (blk_lt h.rg) (fun e => h.rb.1 g e.symm rfl)).trans h.rg⟩
end ShD
theorem row_K {W : World} {g : Nat} {row : List Int} (h : W.heap[g]? = some (.cells (nums .i64 row).toArray 2 (0, 0))) (hm : row.length ≤ 9223372036854775807) : kL.K W row [.slice (some ⟨g, 0, none⟩) row.length row.length] :=
  ⟨_, _, rfl, Nat.le_refl _, (Kd.R_reads' (row_fresh (B := g) (Nat.le_refl _) h hm)).2.2⟩
theorem row_M {w W : World} {g base : Nat} {okp : Nat → Prop} {row : List Int} (hm : row.length ≤ 9223372036854775807) : (under (S1 w g row) kL).M W base okp row [.slice (some ⟨g, 0, none⟩) row.length row.length] :=
  ⟨rfl, by simp [Value.oneCell'], fun _ hs => row_K hs.2 hm⟩
/-! what the law makes of a problem -/
def badZ (z b0 : Int) : Bool := decide (5000 < z) || (decide (z < -5000) || (decide (5000 < b0) || decide (b0 < -5000)))
def facL (l : List Int) (b0 : Int) : Int := if l.any (fun z => badZ z b0) then 1 else 2
theorem facL_snoc (l : List Int) (z b0 : Int) : facL (l ++ [z]) b0 = if badZ z b0 then 1 else facL l b0 := by
  unfold facL
  by_cases h : badZ z b0 = true <;> simp [List.any_append, h]
def facZ (a : List (List Int)) (b : List Int) : Int := facL (a.getD 0 []) (b.getD 0 0)
def rowZ (a : List (List Int)) (b : List Int) : List Int := (a.getD 0 []).map (facZ a b * ·)
def rowP (a : List (List Int)) (b : List Int) (j : Nat) : List Int := (rowZ a b).take j ++ List.replicate ((rowZ a b).length - j) 0
theorem rowP_len (a : List (List Int)) (b : List Int) (j : Nat) : (rowP a b j).length = (a.getD 0 []).length := by simp [rowP, rowZ]; omega
theorem rowP_zero (a : List (List Int)) (b : List Int) : rowP a b 0 = List.replicate (a.getD 0 []).length 0 := by simp [rowP, rowZ]
theorem rowP_all (a : List (List Int)) (b : List Int) : rowP a b (a.getD 0 []).length = rowZ a b := by
  unfold rowP
  have : (rowZ a b).length = (a.getD 0 []).length := by simp [rowZ]
  rw [this, Nat.sub_self, List.take_of_length_le (by omega)]; simp
theorem getD_lt {l : List Int} {j : Nat} (h : j < l.length) : l.getD j 0 = l[j] := by rw [List.getD_eq_getElem?_getD, List.getElem?_eq_getElem h]; rfl
theorem rowP_set (a : List (List Int)) (b : List Int) (j : Nat) (hj : j < (a.getD 0 []).length) : (rowP a b j).set j (facZ a b * (a.getD 0 []).getD j 0) = rowP a b (j + 1) := by
  have hl : (rowZ a b).length = (a.getD 0 []).length := by simp [rowZ]
  unfold rowP
  rw [List.set_append_right _ _ (by simp; omega), List.length_take_of_le (by omega), Nat.sub_self, List.take_succ_eq_append_getElem (by omega), show (rowZ a b).length - j = ((rowZ a b).length - (j + 1)) + 1 by omega, List.replicate_succ, List.set_cons_zero, List.append_assoc]
  congr 1
  rw [List.singleton_append]
  congr 1
  simp only [rowZ, List.getElem_map]
  rw [getD_lt hj]
def moreZ (u : List Int) : List Int := u.set 0 (if u.getD 0 0 + 1 < 1000 then u.getD 0 0 + 1 else 1000)
theorem bx {w w1 W : World} {v0 v1 v2 : Value} (hlt : w.heap.size < w1.heap.size) (hb0 : w1.heap[w.heap.size]? = some (.cells #[v0, v1, v2] 25 (0, 0))) (h : Below (w.heap.size + 1) w1 W) :
    W.cell? ⟨w.heap.size, 0, none⟩ = some v0 ∧ W.cell? ⟨w.heap.size, 1, none⟩ = some v1 ∧ W.cell? ⟨w.heap.size, 2, none⟩ = some v2 := by
  have hb := (h.block w.heap.size (by omega)).trans hb0
  exact ⟨(blk_cell hb 0).trans rfl, (blk_cell hb 1).trans rfl, (blk_cell hb 2).trans rfl⟩
set_option maxRecDepth 100000 in
set_option maxHeartbeats 8000000 in
theorem shifts_main (k : Nat) (A0 : Option Addr) (c0 : Nat) (a : List (List Int)) (A1 : Option Addr) (c1 : Nat) (b : List Int) (A2 : Option Addr) (c2 : Nat) (u : List Int) (w : World) (hr0 : Kd.C (Kd.slice 2 (Kd.int .i64)) w A0 a.length a) (hc0 : a.length ≤ c0) (hr1 : Kd.C (Kd.int .i64) w A1 b.length b) (hc1 : b.length ≤ c1) (hr2 : Kd.C (Kd.int .i64) w A2 u.length u) (hc2 : u.length ≤ c2)
    (hf : petrinetlaw35_few.f k a b u = some true) (hck : petrinetref35_Check.f k a b u = some 0) (h1 : 1 ≤ a.length) (h60 : a.length ≤ 60) (hok : okN a b u) (n m e3 : Int) (hn : natural_Count.f k a b u = some (n, 0)) (hm : natural_Count.f k (a ++ [rowZ a b]) (b ++ [facZ a b * b.getD 0 0]) u = some (n, 0)) (hmo : natural_Count.f k a b (moreZ u) = some (m, e3)) (hme : e3 ≠ 0 ∨ n ≤ m) (hal : petrinetlaw35_alive.f k = some true) :
    CallsIn Fence.wide 0 Try.prog 6 #[.agg #[.slice A0 a.length c0, .slice A1 b.length c1, .slice A2 u.length c2]] w fun e w' => e = .returned (.bool true) ∧ Below w.heap.size w w' := by
  have hab1 : a.length ≤ b.length := Nat.le_of_eq hok.1.2.2.1
  have hab2 : b.length ≤ a.length := Nat.le_of_eq hok.1.2.2.1.symm
  have H0 := (Held.refl w).push (.cells #[.slice A0 a.length c0, .slice A1 b.length c1, .slice A2 u.length c2] 25)
  have hfew := Aside0.mk (callsIn_wide (n := 0).2 (petrinetlaw35_few.calls k A0 c0 a A1 c1 b A2 c2 u true _ (Kd.C_below hr0 H0.bel) hc0 (Kd.C_below hr1 H0.bel) hc1 (Kd.C_below hr2 H0.bel) hc2 hf))
  have d1 : ((a.length : Int) == (0 : Int)) = false := beq_eq_false_iff_ne.mpr (by omega)
  have d2 : decide ((60 : Int) < (a.length : Int)) = false := by simp; omega
  have g0 := H0.cell 0 0 rfl rfl
  have g1 := H0.cell 0 1 rfl rfl
  have g2 := H0.cell 0 2 rfl rfl
  have f0 := H0.free 0 0 rfl
  replace H0 := Aside0.mk H0
  refine callsIn_of_wp_marks Try.func6 rfl trivial ?_ rfl
  simp only [Try.ntmps6, List.size_toArray, List.length_cons, List.length_nil, Nat.reduceAdd, Nat.reduceSub, Array.replicate_succ, Array.replicate_zero, List.push_toArray, List.append_toArray, List.nil_append, List.cons_append]
  gi_wp2
  refine ⟨trivial, rfl, hfew.out.mono ?_⟩
  rintro e W2 ⟨rfl, hb2⟩
  replace H0 := H0.out.below hb2
  have hchk := Aside0.mk (callsIn_wide (n := 0).2 (petrinetref35_Check.calls k A0 c0 a A1 c1 b A2 c2 u 0 W2 (Kd.C_below hr0 H0.bel) hc0 (Kd.C_below hr1 H0.bel) hc1 (Kd.C_below hr2 H0.bel) hc2 hck))
  have g0 := H0.cell 0 0 rfl rfl
  have g1 := H0.cell 0 1 rfl rfl
  have g2 := H0.cell 0 2 rfl rfl
  clear hfew hb2
  replace H0 := Aside0.mk H0
  gi_wp2
  refine ⟨trivial, rfl, hchk.out.mono ?_⟩
  rintro e W3 ⟨rfl, hd3⟩
  replace H0 := H0.out.below hd3.below
  have hcnt := Aside0.mk (callsIn_wide (n := 0).2 (natural_Count.calls k A0 c0 a A1 c1 b A2 c2 u n 0 W3 (Kd.C_below hr0 H0.bel) hc0 (Kd.C_below hr1 H0.bel) hc1 (Kd.C_below hr2 H0.bel) hc2 hn))
  have g0 := H0.cell 0 0 rfl rfl
  have g1 := H0.cell 0 1 rfl rfl
  have g2 := H0.cell 0 2 rfl rfl
  clear hchk hd3
  replace H0 := Aside0.mk H0
  gi_wp2
  refine ⟨trivial, rfl, hcnt.out.mono ?_⟩
  rintro e W1 ⟨rfl, hb1⟩
  replace H0 := H0.out.below hb1
  have hlt : w.heap.size < W1.heap.size := H0.lt _ (Held.mem (i := 0) rfl)
  have hbel0 := Aside0.mk H0.bel
  have hbx0 := Aside0.mk (H0.blk 0 rfl)
  have g0 := H0.cell 0 0 rfl rfl
  have g1 := H0.cell 0 1 rfl rfl
  have g2 := H0.cell 0 2 rfl rfl
  clear hcnt hb1
  have hs0 : ShA w W1 (w.heap.size + 1) (.slice none 0 0) (.slice none 0 0) [] [] W1 := ⟨Below.refl _ _, Kd.R_nil _ _ _ _ _, Kd.R_nil _ _ _ _ _⟩
  replace hs0 := Aside0.mk hs0
  gi_wp2
  gi_loopw [5, 6, 7] (fun va vb i wr => ∃ j : Nat, i = .int .i64 j ∧ j ≤ a.length ∧ Aside0 (ShA w W1 (w.heap.size + 1) va vb (a.take j) (b.take j) wr)) (fun _ _ i _ => a.length - (intOf i).toNat)
  case atStart => exact ⟨0, rfl, Nat.zero_le _, hs0⟩
  case round =>
    obtain ⟨j, rfl, hj, hS⟩ := hrel
    have hB := hS.out.bel
    have hBw := hbel0.out.trans (hB.mono (by omega))
    obtain ⟨g0, g1, g2⟩ := bx hlt hbx0.out hB
    have hsz := hB.size
    by_cases hlt2 : j < a.length
    · obtain ⟨ad, ce, hA0, hcl, hk, hcs⟩ := ReadsRow.get_ (under_of hr0 hBw) ([] : List Int) (j : Int) (by omega) (by omega)
      have hk0 := hk.2.2 wr hBw
      obtain ⟨Ai, ci, hce, hci, hki⟩ := hk0
      subst hA0 hce
      simp only [Int.toNat_natCast] at hk hcs
      have ga : wr.cell? (ad.add j) = some (.slice Ai (a.getD j []).length ci) := by simpa [Kd.slice, under] using hcs 0 _ rfl
      obtain ⟨bd, hA1, gb⟩ := int_at (Kd.C_below hr1 hBw) j (by omega)
      subst hA1
      obtain ⟨x, hx⟩ : ∃ x, a.getD j [] = x := ⟨_, rfl⟩
      obtain ⟨y, hy⟩ : ∃ y, b.getD j 0 = y := ⟨_, rfl⟩
      rw [hx] at hk ga
      rw [hy] at gb
      replace hk := Aside0.mk hk
      clear hcs hki hcl
      have hta : Aside0 (a.take (j + 1) = a.take j ++ [x]) := ⟨by rw [← hx, List.take_succ_eq_append_getElem hlt2, List.getD_eq_getElem?_getD, List.getElem?_eq_getElem hlt2]; rfl⟩
      have htb : Aside0 (b.take (j + 1) = b.take j ++ [y]) := ⟨by rw [← hy, List.take_succ_eq_append_getElem (show j < b.length by omega), List.getD_eq_getElem?_getD, List.getElem?_eq_getElem (show j < b.length by omega)]; rfl⟩
      have hla : Aside0 ((a.take j).length ≤ 60) := ⟨by rw [List.length_take]; omega⟩
      have hlb : Aside0 ((b.take j).length ≤ 60) := ⟨by rw [List.length_take]; omega⟩
      replace hy := Aside0.mk hy
      clear hx
      gi_wp2_with (first | (gi_at_builtin; refine R_appendI (under (S0 w) kL) (w0 := W1) (w.heap.size + 1) rfl (.tmp 61) (.tmp 67) 22 23 (.slice none 0 0) 24 rfl Try.underlying22 infoL23 rfl (Nat.zero_lt_one) (by decide) u5 (a.take j) x [.slice Ai x.length ci] (fun _ => True) (fun _ => False) rfl rfl hk.out (fun _ h => h.elim) (fun _ _ => trivial) hS.out.ra hB (by omega) (by have := hla.out; omega) ?_; intro va' wa hra hba hga; have hSa := Aside0.mk (hS.out.appA hra.out hba.out hga.out); obtain ⟨ga0, ga1, ga2⟩ := bx hlt hbx0.out hba.out; obtain ⟨bd2, e2, gb2⟩ := int_at (Kd.C_below hr1 (hbel0.out.trans (hba.out.mono (by omega)))) j (by omega); cases e2; rw [hy.out] at gb2; have hsa := hba.out.size; clear hra hba hga hk) | (gi_at_builtin; refine R_appendI (Kd.int .i64) (w0 := W1) (w.heap.size + 1) rfl (.tmp 69) (.tmp 75) 23 2 (.int .i64 0) 8 rfl Try.underlying23 infoL2 rfl (Nat.zero_lt_one) (by decide) u6 (b.take j) y [.int .i64 y] (fun _ => True) (fun _ => False) rfl rfl rfl (fun _ h => h.elim) (fun _ _ => trivial) hSa.out.rb hSa.out.bel (by omega) (by have := hlb.out; omega) ?_; intro vb' wb hrb hbb hgb; have hSb := Aside0.mk (hSa.out.appB hrb.out hbb.out hgb.out); have hsb := hbb.out.size; clear hrb hbb hgb))
      have hSc : Aside0 (ShA w W1 (w.heap.size + 1) va' vb' (a.take (j + 1)) (b.take (j + 1)) wb) := ⟨by rw [hta.out, htb.out]; exact hSb.out⟩
      have hj1 := Aside0.mk (show j + 1 ≤ a.length by omega)
      go_roundw
      case rel => exact ⟨j + 1, by go_num, hj1.out, hSc⟩
      case measure => have := hj1.out; simp [intOf]; omega
    · obtain rfl : j = a.length := by omega
      have hSA : ShA w W1 (w.heap.size + 1) u5 u6 a b wr := by
        have := hS.out
        rwa [List.take_of_length_le (Nat.le_refl _), List.take_of_length_le hab2] at this
      have hu1 : 1 ≤ u.length := hok.1.1
      have hu2 : u.length ≤ 64 := hok.1.2.1
      have hr0l : Aside0 ((a.getD 0 []).length = u.length) := ⟨hok.2.1 _ (by rw [List.getD_eq_getElem?_getD, List.getElem?_eq_getElem (show 0 < a.length by omega)]; exact List.getElem_mem _)⟩
      have hmk := print_make (P := Try.prog) 23 2 .i64 8 Try.underlying23 infoL2 (by decide) u.length (by omega)
      have hSB : ShB w W1 (w.heap.size + 1) wr.heap.size u5 u6 a b (rowP a b 0) (wr.alloc (.cells (madeCells #[.int .i64 0] u.length) 2)) := by
        have := ShB.start (row := rowP a b 0) hSA (by omega)
        rw [made_nums, ← hr0l.out, ← rowP_zero a b]
        exact this
      replace hSB := Aside0.mk hSB
      obtain ⟨wo, hwo⟩ : ∃ wo, wo = wr := ⟨_, rfl⟩
      subst hwo
      obtain ⟨g, hg⟩ : ∃ g, wo.heap.size = g := ⟨_, rfl⟩
      have hgs : w.heap.size < g := by omega
      clear hSA hS hB hBw hsz
      gi_wp2
      rw [hg] at hSB
      obtain ⟨r0, hr0e⟩ : ∃ r0, a.getD 0 [] = r0 := ⟨_, rfl⟩
      obtain ⟨b0, hb0e⟩ : ∃ b0, b.getD 0 0 = b0 := ⟨_, rfl⟩
      rw [hr0e] at hr0l
      replace hr0e := Aside0.mk hr0e
      replace hb0e := Aside0.mk hb0e
      replace hg := Aside0.mk hg
      clear hmk g0 g1 g2
      gi_loopw [9, 10] (fun f i wr => ∃ j : Nat, i = .int .i64 j ∧ j ≤ u.length ∧ f = .int .i64 (facL (r0.take j) b0) ∧ Aside0 (ShB w W1 (w.heap.size + 1) g u5 u6 a b (rowP a b 0) wr)) (fun _ i _ => u.length - (intOf i).toNat)
      case atStart => exact ⟨0, rfl, Nat.zero_le _, rfl, hSB⟩
      case round =>
        clear hSB
        obtain ⟨j, rfl, hj2, rfl, hS⟩ := hrel
        have hB := hS.out.bel
        have hBw := hbel0.out.trans (hB.mono (by omega))
        obtain ⟨g0, g1, g2⟩ := bx hlt hbx0.out hB
        have hsz := hB.size
        by_cases hlt2 : j < u.length
        · obtain ⟨ad, Ai, ci, e1, ga, hCi⟩ := rows_at (Kd.C_below hr0 hBw) 0 (by omega)
          subst e1
          obtain ⟨bd, e1, gb⟩ := int_at (Kd.C_below hr1 hBw) 0 (by omega)
          subst e1
          rw [hr0e.out] at ga hCi
          rw [hb0e.out] at gb
          have ga' : wr.cell? ad = some (.slice Ai r0.length ci) := ga
          have gb' : wr.cell? bd = some (.int .i64 b0) := gb
          obtain ⟨rd0, e1, gr⟩ := int_at hCi j (by have := hr0l.out; omega)
          subst e1
          obtain ⟨z, hz⟩ : ∃ z, r0.getD j 0 = z := ⟨_, rfl⟩
          rw [hz] at gr
          have hfac : Aside0 (facL (r0.take (j + 1)) b0 = if badZ z b0 then 1 else facL (r0.take j) b0) := ⟨by
            rw [List.take_succ_eq_append_getElem (by have := hr0l.out; omega), ← getD_lt, hz, facL_snoc]⟩
          have hj3 := Aside0.mk (show j + 1 ≤ u.length by omega)
          have hlr := Aside0.mk (show j < r0.length by have := hr0l.out; omega)
          have i1 : (j : Int) < (r0.length : Int) := by have := hlr.out; omega
          clear hCi hz
          by_cases p1 : 5000 < z
          · have hb : Aside0 (badZ z b0 = true) := ⟨by unfold badZ; simp [p1]⟩
            gi_wp2
            go_roundw
            case rel => exact ⟨j + 1, by go_num, hj3.out, by rw [hfac.out, if_pos hb.out], hS⟩
            case measure => have := hj3.out; simp [intOf]; omega
          · have q1 : decide (5000 < z) = false := by simp [p1]
            by_cases p2 : z < -5000
            · have hb : Aside0 (badZ z b0 = true) := ⟨by unfold badZ; simp [p2]⟩
              gi_wp2
              go_roundw
              case rel => exact ⟨j + 1, by go_num, hj3.out, by rw [hfac.out, if_pos hb.out], hS⟩
              case measure => have := hj3.out; simp [intOf]; omega
            · have q2 : decide (z < -5000) = false := by simp [p2]
              by_cases p3 : 5000 < b0
              · have hb : Aside0 (badZ z b0 = true) := ⟨by unfold badZ; simp [p3]⟩
                gi_wp2
                go_roundw
                case rel => exact ⟨j + 1, by go_num, hj3.out, by rw [hfac.out, if_pos hb.out], hS⟩
                case measure => have := hj3.out; simp [intOf]; omega
              · have q3 : decide (5000 < b0) = false := by simp [p3]
                by_cases p4 : b0 < -5000
                · have hb : Aside0 (badZ z b0 = true) := ⟨by unfold badZ; simp [p4]⟩
                  gi_wp2
                  go_roundw
                  case rel => exact ⟨j + 1, by go_num, hj3.out, by rw [hfac.out, if_pos hb.out], hS⟩
                  case measure => have := hj3.out; simp [intOf]; omega
                · have hb : Aside0 (badZ z b0 = false) := ⟨by unfold badZ; simp [p1, p2, p3, p4]⟩
                  gi_wp2
                  go_roundw
                  case rel => exact ⟨j + 1, by go_num, hj3.out, by rw [hfac.out, if_neg (by rw [hb.out]; decide)], hS⟩
                  case measure => have := hj3.out; simp [intOf]; omega
        · obtain rfl : j = u.length := by omega
          have hF : facL (r0.take u.length) b0 = facZ a b := by
            rw [List.take_of_length_le (by have := hr0l.out; omega)]
            unfold facZ
            rw [hr0e.out, hb0e.out]
          have hF12 : facZ a b = 1 ∨ facZ a b = 2 := by
            unfold facZ facL
            split
            · exact .inl rfl
            · exact .inr rfl
          rw [hF]
          obtain ⟨F, hFe⟩ : ∃ F, facZ a b = F := ⟨_, rfl⟩
          rw [hFe] at hF12 ⊢
          replace hFe := Aside0.mk hFe
          replace hF12 := Aside0.mk hF12
          have hbb0 : -10000 ≤ b0 ∧ b0 ≤ 10000 := by
            rw [← hb0e.out]
            refine hok.2.2.2.1 _ ?_
            rw [getD_lt (show 0 < b.length by omega)]
            exact List.getElem_mem _
          have hzz : Aside0 (∀ z ∈ r0, -10000 ≤ z ∧ z ≤ 10000) := ⟨by
            rw [← hr0e.out]
            refine hok.2.2.1 _ ?_
            rw [List.getD_eq_getElem?_getD, List.getElem?_eq_getElem (show 0 < a.length by omega)]
            exact List.getElem_mem _⟩
          clear hF hj2
          gi_wp2
          gi_loopw [11] (fun i wr => ∃ j : Nat, i = .int .i64 j ∧ j ≤ u.length ∧ Aside0 (ShB w W1 (w.heap.size + 1) g u5 u6 a b (rowP a b j) wr)) (fun i _ => u.length - (intOf i).toNat)
          case atStart => exact ⟨0, rfl, Nat.zero_le _, hS⟩
          case round =>
            clear hS hB hBw hsz g0 g1 g2
            obtain ⟨j, rfl, hj3, hS⟩ := hrel
            have hB := hS.out.bel
            have hBw := hbel0.out.trans (hB.mono (by omega))
            obtain ⟨g0, g1, g2⟩ := bx hlt hbx0.out hB
            have hsz := hB.size
            by_cases hlt2 : j < u.length
            · obtain ⟨ad, Ai, ci, e1, ga, hCi⟩ := rows_at (Kd.C_below hr0 hBw) 0 (by omega)
              subst e1
              rw [hr0e.out] at ga hCi
              have ga' : wr.cell? ad = some (.slice Ai r0.length ci) := ga
              obtain ⟨rd0, e1, gr⟩ := int_at hCi j (by have := hr0l.out; omega)
              subst e1
              have hlr := Aside0.mk (show j < r0.length by have := hr0l.out; omega)
              have i1 : (j : Int) < (r0.length : Int) := by have := hlr.out; omega
              have hst : Aside0 (ShB w W1 (w.heap.size + 1) g u5 u6 a b (rowP a b (j + 1)) (wr.setCell ⟨g, j, none⟩ (.int .i64 (F * r0.getD j 0)))) := ⟨by
                have h := hS.out.set j (F * r0.getD j 0)
                have h2 := rowP_set a b j (by rw [hr0e.out]; exact hlr.out)
                rw [hFe.out, hr0e.out] at h2
                rwa [h2] at h⟩
              have gn := nums_cell hS.out.rg j (by rw [rowP_len, hr0e.out]; exact hlr.out)
              have fn := blk_frozen hS.out.rg j
              have hz2 : -10000 ≤ r0.getD j 0 ∧ r0.getD j 0 ≤ 10000 := hzz.out _ (by rw [getD_lt hlr.out]; exact List.getElem_mem _)
              obtain ⟨z, hz⟩ : ∃ z, r0.getD j 0 = z := ⟨_, rfl⟩
              rw [hz] at gr hst hz2
              have e2 : IntKind.i64.wrap (F * z) = F * z := IntWalk.i64_in _ (by rcases hF12.out with h | h <;> rw [h] <;> omega)
              have hj4 := Aside0.mk (show j + 1 ≤ u.length by omega)
              clear hz hCi hS
              gi_wp2
              go_roundw
              case rel => exact ⟨j + 1, by go_num, hj4.out, hst⟩
              case measure => have := hj4.out; simp [intOf]; omega
            · obtain rfl : j = u.length := by omega
              have hrz : rowP a b u.length = rowZ a b := by
                have := rowP_all a b
                rwa [hr0e.out, hr0l.out] at this
              rw [hrz] at hS
              have hrl : (rowZ a b).length = u.length := by rw [rowZ, List.length_map, hr0e.out, hr0l.out]
              have hM : Aside0 (∀ okp : Nat → Prop, (under (S1 w g (rowZ a b)) kL).M wr (w.heap.size + 1) okp (rowZ a b) [.slice (some ⟨g, 0, none⟩) u.length u.length]) := ⟨fun okp => by
                have := row_M (w := w) (W := wr) (g := g) (base := w.heap.size + 1) (okp := okp) (row := rowZ a b) (by omega)
                rwa [hrl] at this⟩
              obtain ⟨rz, hrze⟩ : ∃ rz, rowZ a b = rz := ⟨_, rfl⟩
              rw [hrze] at hS hM
              obtain ⟨a2, ha2⟩ : ∃ a2, a ++ [rz] = a2 := ⟨_, rfl⟩
              obtain ⟨b2, hb2⟩ : ∃ b2, b ++ [F * b0] = b2 := ⟨_, rfl⟩
              have hm2 : Aside0 (natural_Count.f k a2 b2 u = some (n, 0)) := ⟨by
                have := hm
                rwa [hFe.out, hrze, hb0e.out, ha2, hb2] at this⟩
              replace ha2 := Aside0.mk ha2
              replace hb2 := Aside0.mk hb2
              clear hrz hrl hrze hm
              obtain ⟨bd, e1, gb⟩ := int_at (Kd.C_below hr1 hBw) 0 (by omega)
              subst e1
              have e2 : IntKind.i64.wrap (F * b0) = F * b0 := IntWalk.i64_in _ (by rcases hF12.out with h | h <;> rw [h] <;> omega)
              gi_wp2_with (first | (gi_at_builtin; refine R_appendI (under (S1 w g rz) kL) (w0 := W1) (w.heap.size + 1) rfl (.tmp 137) (.tmp 139) 22 23 (.slice none 0 0) 24 rfl Try.underlying22 infoL23 rfl (Nat.zero_lt_one) (by decide) u5 a rz [.slice (some ⟨g, 0, none⟩) u.length u.length] (fun _ => True) (fun _ => False) rfl rfl (hM.out _) (fun _ h => h.elim) (fun _ _ => trivial) (under_imp hS.out.ra (fun _ h => h.1)) hS.out.bel (by omega) (by omega) ?_; intro va' wa hra hba hga; have hSa := Aside0.mk (ShD.of hS.out hra.out hba.out hga.out); obtain ⟨ga0, ga1, ga2⟩ := bx hlt hbx0.out hba.out; obtain ⟨bd2, e2, gb2⟩ := int_at (Kd.C_below hr1 (hbel0.out.trans (hba.out.mono (by omega)))) 0 (by omega); cases e2; rw [hb0e.out] at gb2; have gb3 : wa.cell? bd = some (.int .i64 b0) := gb2; have hsa := hba.out.size; clear hra hba hga hM) | (gi_at_builtin; refine R_appendI (Kd.int .i64) (w0 := W1) (w.heap.size + 1) rfl (.tmp 141) (.tmp 148) 23 2 (.int .i64 0) 8 rfl Try.underlying23 infoL2 rfl (Nat.zero_lt_one) (by decide) u6 b (F * b0) [.int .i64 (F * b0)] (fun k => k ≠ g) (fun _ => False) rfl rfl rfl (fun _ h => h.elim) (fun k hk => by have := blk_lt hSa.out.rg; omega) hSa.out.rb hSa.out.bel (by omega) (by omega) ?_; intro vb' wb hrb hbb hgb; have hSb := hSa.out.appB hrb.out hbb.out hgb.out; have hsb := hbb.out.size; obtain ⟨gb0, gb1, gb4⟩ := bx hlt hbx0.out hbb.out; rw [ha2.out, hb2.out] at hSb; obtain ⟨Aa, ca, hva, hca, hCa⟩ := Kd.R_reads hSb.ra; obtain ⟨Ab, cb, hvb, hcb, hCb⟩ := Kd.R_reads hSb.rb; subst hva hvb; replace hSb := Aside0.mk hSb; replace hCa := Aside0.mk hCa; replace hCb := Aside0.mk hCb; clear hrb hbb hgb))
              have hcnt2 := Aside0.mk (callsIn_wide (n := 0).2 (natural_Count.calls k Aa ca a2 Ab cb b2 A2 c2 u n 0 wb (under_C hCa.out ⟨hbel0.out.trans (hSb.out.bel.mono (by omega)), hSb.out.rg⟩) hca hCb.out hcb (Kd.C_below hr2 (hbel0.out.trans (hSb.out.bel.mono (by omega)))) hc2 hm2.out))
              have hbb := Aside0.mk hSb.out.bel
              have d3 : (n != n) = false := by simp
              clear hSb hCa hCb hSa hS hm2 ha2 hb2 hzz hF12 hFe hr0l hr0e hb0e
              refine ⟨trivial, rfl, hcnt2.out.mono ?_⟩
              rintro e W7 ⟨rfl, hb7⟩
              have hB7 : Below (w.heap.size + 1) W1 W7 := hbb.out.trans (hb7.mono (by have := hbb.out.size; omega))
              obtain ⟨h0, h1, h2⟩ := bx hlt hbx0.out hB7
              have hs7 := hB7.size
              replace hB7 := Aside0.mk hB7
              clear hb7 hcnt2 hbb
              have hs1 : Aside0 (Below (w.heap.size + 1) W1 W7 ∧ Kd.R (Kd.int .i64) 2 W7 (w.heap.size + 1) (fun _ => True) (.slice none 0 0) []) := ⟨hB7.out, Kd.R_nil _ _ _ _ _⟩
              gi_wp2
              gi_loopw [14, 15] (fun v i wr => ∃ j : Nat, i = .int .i64 j ∧ j ≤ u.length ∧ Aside0 (Below (w.heap.size + 1) W1 wr ∧ Kd.R (Kd.int .i64) 2 wr (w.heap.size + 1) (fun _ => True) v (u.take j))) (fun _ i _ => u.length - (intOf i).toNat)
              case atStart => exact ⟨0, rfl, Nat.zero_le _, hs1⟩
              case round =>
                clear hs1 hB7 hs7
                obtain ⟨j, rfl, hj5, hS⟩ := hrel
                have hB := hS.out.1
                have hBw := hbel0.out.trans (hB.mono (by omega))
                obtain ⟨g0, g1, g2⟩ := bx hlt hbx0.out hB
                have hsz := hB.size
                by_cases hlt3 : j < u.length
                · obtain ⟨ud, e1, gu⟩ := int_at (Kd.C_below hr2 hBw) j hlt3
                  subst e1
                  have htu : Aside0 (u.take (j + 1) = u.take j ++ [u.getD j 0]) := ⟨by rw [List.take_succ_eq_append_getElem hlt3, getD_lt hlt3]⟩
                  obtain ⟨z, hz⟩ : ∃ z, u.getD j 0 = z := ⟨_, rfl⟩
                  rw [hz] at gu htu
                  have hlu : Aside0 ((u.take j).length ≤ 64) := ⟨by rw [List.length_take]; omega⟩
                  clear hz
                  gi_wp2_with (gi_at_builtin; refine R_appendI (Kd.int .i64) (w0 := W1) (w.heap.size + 1) rfl (.tmp 172) (.tmp 178) 23 2 (.int .i64 0) 8 rfl Try.underlying23 infoL2 rfl (Nat.zero_lt_one) (by decide) u14 (u.take j) z [.int .i64 z] (fun _ => True) (fun _ => False) rfl rfl rfl (fun _ h => h.elim) (fun _ _ => trivial) hS.out.2 hS.out.1 (by omega) (by have := hlu.out; omega) ?_; intro vm wm hrm hbm hgm)
                  have hj6 := Aside0.mk (show j + 1 ≤ u.length by omega)
                  have hSm : Aside0 (Below (w.heap.size + 1) W1 wm ∧ Kd.R (Kd.int .i64) 2 wm (w.heap.size + 1) (fun _ => True) vm (u.take (j + 1))) := ⟨hbm.out, by rw [htu.out]; exact hrm.out⟩
                  clear hrm hbm hgm hS
                  go_roundw
                  case rel => exact ⟨j + 1, by go_num, hj6.out, hSm⟩
                  case measure => have := hj6.out; simp [intOf]; omega
                · obtain rfl : j = u.length := by omega
                  have hR := hS.out.2
                  rw [List.take_of_length_le (Nat.le_refl _)] at hR
                  obtain ⟨g3, cap, hv, hg3, hg4, _⟩ := Kd.R_form hR hu1
                  subst hv
                  have ho := Kd.own_of_R hR
                  obtain ⟨q1, q2⟩ := own_at (k := .i64) ho 0 (by omega) (by omega)
                  rw [show rd u (0 : Int) = u.getD 0 0 by simp [rd]] at q1
                  have hx2 : 0 ≤ u.getD 0 0 ∧ u.getD 0 0 ≤ 1000 := hok.2.2.2.2.1 _ (by rw [getD_lt (show 0 < u.length by omega)]; exact List.getElem_mem _)
                  obtain ⟨x, hx⟩ : ∃ x, u.getD 0 0 = x := ⟨_, rfl⟩
                  rw [hx] at q1 hx2
                  have q1' : wr.cell? ⟨g3, 0, none⟩ = some (.int .i64 x) := q1
                  have q2' : wr.frozen? ⟨g3, 0, none⟩ = false := q2
                  clear q1 q2
                  obtain ⟨y, hy⟩ : ∃ y, (if x + 1 < 1000 then x + 1 else 1000) = y := ⟨_, rfl⟩
                  have hst := own_store (k := .i64) ho 0 y
                  have hmz : moreZ u = u.set 0 y := by unfold moreZ; rw [hx, hy]
                  have hR2 : Kd.R (Kd.int .i64) 2 (wr.setCell ⟨g3, 0, none⟩ (.int .i64 y)) (w.heap.size + 1) (fun _ => True) (.slice (some ⟨g3, 0, none⟩) u.length cap) (moreZ u) := by
                    refine Kd.R_of_own ?_ (fun _ _ => trivial)
                    have hl : (moreZ u).length = u.length := by rw [hmz, List.length_set]
                    rw [hl, hmz]
                    exact hst.1
                  obtain ⟨hl1, hl2, hCm⟩ := Kd.R_reads' hR2
                  have hB9 : Below (w.heap.size + 1) W1 (wr.setCell ⟨g3, 0, none⟩ (.int .i64 y)) := hB.setCell hg3 _
                  have hBw9 := hbel0.out.trans (hB9.mono (by omega))
                  obtain ⟨k0, k1, k2⟩ := bx hlt hbx0.out hB9
                  have hcnt3 := natural_Count.calls k A0 c0 a (some bd) c1 b (some ⟨g3, 0, none⟩) cap (moreZ u) m e3 _ (Kd.C_below hr0 hBw9) hc0 (Kd.C_below hr1 hBw9) hc1 (hl1 ▸ hCm) (by omega) hmo
                  rw [← hl1] at hcnt3
                  replace hcnt3 := Aside0.mk (callsIn_wide (n := 0).2 hcnt3)
                  have hs9 := hB9.size
                  replace hB9 := Aside0.mk hB9
                  replace hg3 := Aside0.mk hg3
                  have hux : ((0 : Int) < (u.length : Int)) := by omega
                  replace hme := Aside0.mk hme
                  replace hy := Aside0.mk hy
                  clear hst hmz hR2 hl1 hl2 hCm hBw9 ho hR hS hx hmo
                  have hcut : CallsIn Fence.wide 0 Try.prog 16 #[.slice A0 a.length c0, .slice (some bd) b.length c1, .slice (some ⟨g3, 0, none⟩) u.length cap] (wr.setCell ⟨g3, 0, none⟩ (.int .i64 y)) (fun e w' => e = .returned (.tuple #[.int .i64 m, .int .i64 e3]) ∧ Below (wr.setCell ⟨g3, 0, none⟩ (.int .i64 y)).heap.size (wr.setCell ⟨g3, 0, none⟩ (.int .i64 y)) w') := hcnt3.out
                  replace hcut := Aside0.mk hcut
                  clear hcnt3
                  by_cases hp : x + 1 < 1000
                  · have hy2 : y = x + 1 := by rw [← hy.out, if_pos hp]
                    subst hy2
                    gi_wp2
                    refine ⟨trivial, rfl, hcut.out.mono ?_⟩
                    rintro e W9 ⟨rfl, hb9⟩
                    have hB10 : Below (w.heap.size + 1) W1 W9 := hB9.out.trans (hb9.mono (by have := hB9.out.size; omega))
                    have hal9 := Aside0.mk (callsIn_wide (n := 0).2 (petrinetlaw35_alive.calls k true W9 hal))
                    have hBw10 := Aside0.mk (hbel0.out.trans (hB10.mono (by omega)))
                    clear hb9 hcut hB9 hB10
                    by_cases he : e3 = 0
                    · have d5 : (e3 != (0 : Int)) = false := by simp [he]
                      have d6 : n ≤ m := by rcases hme.out with h | h; exact absurd he h; exact h
                      clear he
                      gi_wp2
                      refine ⟨trivial, rfl, hal9.out.mono ?_⟩
                      rintro e W10 ⟨rfl, hb10⟩
                      gi_wp2
                      exact ⟨_, results_tmp rfl _ _ _, rfl, hBw10.out.trans (hb10.mono hBw10.out.size)⟩
                    · have d5 : (e3 != (0 : Int)) = true := by simp [he]
                      clear he
                      gi_wp2
                      refine ⟨trivial, rfl, hal9.out.mono ?_⟩
                      rintro e W10 ⟨rfl, hb10⟩
                      gi_wp2
                      exact ⟨_, results_tmp rfl _ _ _, rfl, hBw10.out.trans (hb10.mono hBw10.out.size)⟩
                  · have hy2 : y = 1000 := by rw [← hy.out, if_neg hp]
                    subst hy2
                    gi_wp2
                    refine ⟨trivial, rfl, hcut.out.mono ?_⟩
                    rintro e W9 ⟨rfl, hb9⟩
                    have hB10 : Below (w.heap.size + 1) W1 W9 := hB9.out.trans (hb9.mono (by have := hB9.out.size; omega))
                    have hal9 := Aside0.mk (callsIn_wide (n := 0).2 (petrinetlaw35_alive.calls k true W9 hal))
                    have hBw10 := Aside0.mk (hbel0.out.trans (hB10.mono (by omega)))
                    clear hb9 hcut hB9 hB10
                    by_cases he : e3 = 0
                    · have d5 : (e3 != (0 : Int)) = false := by simp [he]
                      have d6 : n ≤ m := by rcases hme.out with h | h; exact absurd he h; exact h
                      clear he
                      gi_wp2
                      refine ⟨trivial, rfl, hal9.out.mono ?_⟩
                      rintro e W10 ⟨rfl, hb10⟩
                      gi_wp2
                      exact ⟨_, results_tmp rfl _ _ _, rfl, hBw10.out.trans (hb10.mono hBw10.out.size)⟩
                    · have d5 : (e3 != (0 : Int)) = true := by simp [he]
                      clear he
                      gi_wp2
                      refine ⟨trivial, rfl, hal9.out.mono ?_⟩
                      rintro e W10 ⟨rfl, hb10⟩
                      gi_wp2
                      exact ⟨_, results_tmp rfl _ _ _, rfl, hBw10.out.trans (hb10.mono hBw10.out.size)⟩
set_option maxRecDepth 100000 in
set_option maxHeartbeats 8000000 in
theorem shifts_few (k : Nat) (A0 : Option Addr) (c0 : Nat) (a : List (List Int)) (A1 : Option Addr) (c1 : Nat) (b : List Int) (A2 : Option Addr) (c2 : Nat) (u : List Int) (w : World) (hr0 : Kd.C (Kd.slice 2 (Kd.int .i64)) w A0 a.length a) (hc0 : a.length ≤ c0) (hr1 : Kd.C (Kd.int .i64) w A1 b.length b) (hc1 : b.length ≤ c1) (hr2 : Kd.C (Kd.int .i64) w A2 u.length u) (hc2 : u.length ≤ c2)
    (hf : petrinetlaw35_few.f k a b u = some false) (hal : petrinetlaw35_alive.f k = some true) :
    CallsIn Fence.wide 0 Try.prog 6 #[.agg #[.slice A0 a.length c0, .slice A1 b.length c1, .slice A2 u.length c2]] w fun e w' => e = .returned (.bool true) ∧ Below w.heap.size w w' := by
  have H0 := (Held.refl w).push (.cells #[.slice A0 a.length c0, .slice A1 b.length c1, .slice A2 u.length c2] 25)
  have hfew := Aside0.mk (callsIn_wide (n := 0).2 (petrinetlaw35_few.calls k A0 c0 a A1 c1 b A2 c2 u false _ (Kd.C_below hr0 H0.bel) hc0 (Kd.C_below hr1 H0.bel) hc1 (Kd.C_below hr2 H0.bel) hc2 hf))
  have g0 := H0.cell 0 0 rfl rfl
  have g1 := H0.cell 0 1 rfl rfl
  have g2 := H0.cell 0 2 rfl rfl
  have f0 := H0.free 0 0 rfl
  replace H0 := Aside0.mk H0
  refine callsIn_of_wp_marks Try.func6 rfl trivial ?_ rfl
  simp only [Try.ntmps6, List.size_toArray, List.length_cons, List.length_nil, Nat.reduceAdd, Nat.reduceSub, Array.replicate_succ, Array.replicate_zero, List.push_toArray, List.append_toArray, List.nil_append, List.cons_append]
  gi_wp2
  refine ⟨trivial, rfl, hfew.out.mono ?_⟩
  rintro e W2 ⟨rfl, hb2⟩
  replace H0 := H0.out.below hb2
  clear hfew hb2
  have hal3 := Aside0.mk (callsIn_wide (n := 0).2 (petrinetlaw35_alive.calls k true W2 hal))
  replace H0 := Aside0.mk H0
  gi_wp2
  gi_wp2
  refine ⟨trivial, ?_⟩
  gi_wp2
  refine ⟨trivial, rfl, hal3.out.mono ?_⟩
  rintro e W10 ⟨rfl, hb10⟩
  gi_wp2
  exact ⟨_, results_tmp rfl _ _ _, rfl, H0.out.bel.trans (hb10.mono H0.out.bel.size)⟩
set_option maxRecDepth 100000 in
set_option maxHeartbeats 8000000 in
theorem shifts_short (k : Nat) (A0 : Option Addr) (c0 : Nat) (a : List (List Int)) (A1 : Option Addr) (c1 : Nat) (b : List Int) (A2 : Option Addr) (c2 : Nat) (u : List Int) (w : World) (hr0 : Kd.C (Kd.slice 2 (Kd.int .i64)) w A0 a.length a) (hc0 : a.length ≤ c0) (hr1 : Kd.C (Kd.int .i64) w A1 b.length b) (hc1 : b.length ≤ c1) (hr2 : Kd.C (Kd.int .i64) w A2 u.length u) (hc2 : u.length ≤ c2)
    (c : Int) (hf : petrinetlaw35_few.f k a b u = some true) (hck : petrinetref35_Check.f k a b u = some c) (hs : c ≠ 0 ∨ (c = 0 ∧ a.length = 0) ∨ (c = 0 ∧ 60 < a.length)) (hal : petrinetlaw35_alive.f k = some true) :
    CallsIn Fence.wide 0 Try.prog 6 #[.agg #[.slice A0 a.length c0, .slice A1 b.length c1, .slice A2 u.length c2]] w fun e w' => e = .returned (.bool true) ∧ Below w.heap.size w w' := by
  have hs2 : ((c != (0 : Int)) = true) ∨ ((c != (0 : Int)) = false ∧ ((a.length : Int) == (0 : Int)) = true) ∨ ((c != (0 : Int)) = false ∧ ((a.length : Int) == (0 : Int)) = false ∧ decide ((60 : Int) < (a.length : Int)) = true) := by
    rcases hs with h | ⟨h, h2⟩ | ⟨h, h2⟩
    · exact .inl (by simp [h])
    · exact .inr (.inl ⟨by simp [h], by rw [h2]; rfl⟩)
    · exact .inr (.inr ⟨by simp [h], beq_eq_false_iff_ne.mpr (by omega), by simp; omega⟩)
  replace hs2 := Aside0.mk hs2
  clear hs
  have H0 := (Held.refl w).push (.cells #[.slice A0 a.length c0, .slice A1 b.length c1, .slice A2 u.length c2] 25)
  have hfew := Aside0.mk (callsIn_wide (n := 0).2 (petrinetlaw35_few.calls k A0 c0 a A1 c1 b A2 c2 u true _ (Kd.C_below hr0 H0.bel) hc0 (Kd.C_below hr1 H0.bel) hc1 (Kd.C_below hr2 H0.bel) hc2 hf))
  have g0 := H0.cell 0 0 rfl rfl
  have g1 := H0.cell 0 1 rfl rfl
  have g2 := H0.cell 0 2 rfl rfl
  have f0 := H0.free 0 0 rfl
  replace H0 := Aside0.mk H0
  refine callsIn_of_wp_marks Try.func6 rfl trivial ?_ rfl
  simp only [Try.ntmps6, List.size_toArray, List.length_cons, List.length_nil, Nat.reduceAdd, Nat.reduceSub, Array.replicate_succ, Array.replicate_zero, List.push_toArray, List.append_toArray, List.nil_append, List.cons_append]
  gi_wp2
  refine ⟨trivial, rfl, hfew.out.mono ?_⟩
  rintro e W2 ⟨rfl, hb2⟩
  replace H0 := H0.out.below hb2
  have hchk := Aside0.mk (callsIn_wide (n := 0).2 (petrinetref35_Check.calls k A0 c0 a A1 c1 b A2 c2 u c W2 (Kd.C_below hr0 H0.bel) hc0 (Kd.C_below hr1 H0.bel) hc1 (Kd.C_below hr2 H0.bel) hc2 hck))
  have g0 := H0.cell 0 0 rfl rfl
  have g1 := H0.cell 0 1 rfl rfl
  have g2 := H0.cell 0 2 rfl rfl
  clear hfew hb2
  replace H0 := Aside0.mk H0
  gi_wp2
  refine ⟨trivial, rfl, hchk.out.mono ?_⟩
  rintro e W3 ⟨rfl, hd3⟩
  replace H0 := H0.out.below hd3.below
  have g0 := H0.cell 0 0 rfl rfl
  clear hchk hd3
  rcases hs2.out with d1 | ⟨d1, d2⟩ | ⟨d1, d2, d3⟩
  · have hal3 := Aside0.mk (callsIn_wide (n := 0).2 (petrinetlaw35_alive.calls k true W3 hal))
    replace H0 := Aside0.mk H0
    gi_wp2
    refine ⟨trivial, rfl, hal3.out.mono ?_⟩
    rintro e W10 ⟨rfl, hb10⟩
    gi_wp2
    exact ⟨_, results_tmp rfl _ _ _, rfl, H0.out.bel.trans (hb10.mono H0.out.bel.size)⟩
  · have hal3 := Aside0.mk (callsIn_wide (n := 0).2 (petrinetlaw35_alive.calls k true W3 hal))
    replace H0 := Aside0.mk H0
    gi_wp2
    refine ⟨trivial, rfl, hal3.out.mono ?_⟩
    rintro e W10 ⟨rfl, hb10⟩
    gi_wp2
    exact ⟨_, results_tmp rfl _ _ _, rfl, H0.out.bel.trans (hb10.mono H0.out.bel.size)⟩
  · have hal3 := Aside0.mk (callsIn_wide (n := 0).2 (petrinetlaw35_alive.calls k true W3 hal))
    replace H0 := Aside0.mk H0
    gi_wp2
    refine ⟨trivial, rfl, hal3.out.mono ?_⟩
    rintro e W10 ⟨rfl, hb10⟩
    gi_wp2
    exact ⟨_, results_tmp rfl _ _ _, rfl, H0.out.bel.trans (hb10.mono H0.out.bel.size)⟩
/-- what is asked of a problem for the law's walk -/
def ShiftsAt (k : Nat) (a : List (List Int)) (b u : List Int) : Prop :=
  petrinetlaw35_alive.f k = some true ∧ (petrinetlaw35_few.f k a b u = some false ∨ petrinetlaw35_few.f k a b u = some true ∧ ∃ c, petrinetref35_Check.f k a b u = some c ∧
    ((c ≠ 0 ∨ (c = 0 ∧ a.length = 0) ∨ (c = 0 ∧ 60 < a.length)) ∨ (c = 0 ∧ 1 ≤ a.length ∧ a.length ≤ 60 ∧ okN a b u ∧ ∃ n m e : Int, natural_Count.f k a b u = some (n, 0) ∧ natural_Count.f k (a ++ [rowZ a b]) (b ++ [facZ a b * b.getD 0 0]) u = some (n, 0) ∧ natural_Count.f k a b (moreZ u) = some (m, e) ∧ (e ≠ 0 ∨ n ≤ m))))
theorem petrinetlaw35_NaturalShifts.calls (k : Nat) (A0 : Option Addr) (c0 : Nat) (a : List (List Int)) (A1 : Option Addr) (c1 : Nat) (b : List Int) (A2 : Option Addr) (c2 : Nat) (u : List Int) (r : Bool) (w : World) (hr0 : Kd.C (Kd.slice 2 (Kd.int .i64)) w A0 a.length a) (hc0 : a.length ≤ c0) (hr1 : Kd.C (Kd.int .i64) w A1 b.length b) (hc1 : b.length ≤ c1) (hr2 : Kd.C (Kd.int .i64) w A2 u.length u) (hc2 : u.length ≤ c2) (h : r = true ∧ ShiftsAt k a b u) :
    Calls Try.prog 6 #[.agg #[.slice A0 a.length c0, .slice A1 b.length c1, .slice A2 u.length c2]] w fun e w' => e = .returned (.bool r) ∧ Below w.heap.size w w' := by
  obtain ⟨rfl, hal, h⟩ := h
  refine callsIn_wide (n := 0).1 ?_
  rcases h with hf | ⟨hf, c, hc, hs | ⟨rfl, h1, h60, hok, n, m, e, hn, hm, hmo, hme⟩⟩
  · exact shifts_few k A0 c0 a A1 c1 b A2 c2 u w hr0 hc0 hr1 hc1 hr2 hc2 hf hal
  · exact shifts_short k A0 c0 a A1 c1 b A2 c2 u w hr0 hc0 hr1 hc1 hr2 hc2 c hf hc hs hal
  · exact shifts_main k A0 c0 a A1 c1 b A2 c2 u w hr0 hc0 hr1 hc1 hr2 hc2 hf hc h1 h60 hok n m e hn hm hmo hme hal

end Go.Proofs.Ytlckejjmkjgknab.Hy
