/- By hand (sim_refmanyh): a part of this seat's proofs. -/
import Derived.Test.YteaimaafahpamaaXRefMany
import Derived.Test.YteaimaafahpamaaM3
namespace Go.Proofs.Yteaimaafahpamaa.Hy
open Go.RowKit Go.Shelf Go.Proofs.YteaimaafahpamaaW.PrintWords Go.Proofs.YteaimaafahpamaaW.PrintLast Go.Proofs.YteaimaafahpamaaW.PrintMore
set_option linter.unusedVariables false
set_option linter.unusedSimpArgs false
attribute [local go_sem] Oper.semAt_some
/-! ### petrinetref53.Many: what region 6 leaves, in each of its orders -/
theorem rows2_at {W : World} {A : Option Addr} {n : Nat} {xs : List (List Int)} (h : (Kd.slice 3 (Kd.int .i64)).C W A n xs) (i : Nat) (hi : i < n) :
    ∃ ad Ai ci, A = some ad ∧ W.cell? (ad.add i) = some (.slice Ai (xs.getD i []).length ci) ∧ (xs.getD i []).length ≤ ci ∧ (Kd.int .i64).C W Ai (xs.getD i []).length (xs.getD i []) := by
  obtain ⟨ad, c, e, hl, ⟨Ai, ci, rfl, hci, hk⟩, hc⟩ := ReadsRow.get_ h ([] : List Int) (i : Int) (by omega) (by omega)
  have := hc 0 _ rfl
  simp only [Int.toNat_natCast] at this hk hci
  exact ⟨ad, Ai, ci, e, by simpa [Kd.slice] using this, hci, hk⟩
theorem Held.addblk {w W : World} {L : List (Nat × Obj)} (h : Held w L W) {g : Nat} {o : Obj} (hg : W.heap[g]? = some o) (hlo : w.heap.size ≤ g) (hne : ∀ p ∈ L, p.1 ≠ g) : Held w ((g, o) :: L) W := by
  refine ⟨h.bel, fun p hp => ?_, fun p hp => ?_, ?_⟩
  · rcases List.mem_cons.1 hp with rfl | hp
    · exact hg
    · exact h.at_ p hp
  · rcases List.mem_cons.1 hp with rfl | hp
    · exact hlo
    · exact h.lo p hp
  · rw [List.map_cons, List.nodup_cons]
    refine ⟨fun hm => ?_, h.nd⟩
    obtain ⟨p, hp, he⟩ := List.mem_map.1 hm
    exact hne p hp he
theorem Held.swap {w W : World} {L : List (Nat × Obj)} {p q : Nat × Obj} (h : Held w (p :: q :: L) W) : Held w (q :: p :: L) W := by
  refine ⟨h.bel, fun x hx => h.at_ x ?_, fun x hx => h.lo x ?_, ?_⟩
  · simp only [List.mem_cons] at hx ⊢; rcases hx with h | h | h <;> simp [h]
  · simp only [List.mem_cons] at hx ⊢; rcases hx with h | h | h <;> simp [h]
  · have := h.nd
    simp only [List.map_cons, List.nodup_cons, List.mem_cons, not_or] at this ⊢
    exact ⟨⟨fun e => this.1.1 e.symm, this.2.1⟩, this.1.2, this.2.2⟩
abbrev StO (gF n : Nat) (d : Int) (v : Value) : Obj := .cells #[.slice (some ⟨gF, 0, none⟩) n n, .int .i64 d, v] 58 (0, 0)
abbrev RwO (F : List Int) : Obj := .cells (nums .i64 F).toArray 3 (0, 0)
abbrev MQk (bo gF : Nat) (L : List (Nat × Obj)) : Nat → Prop := fun k => k ≠ gF ∧ k ≠ bo ∧ ∀ p ∈ L, k ≠ p.1
def MP (w : World) (L : List (Nat × Obj)) (n : Nat) (v : Value) (m : List Int) (bo gF : Nat) (W : World) : Prop :=
  Held w ((gF, RwO (List.replicate n 0)) :: (bo, StO gF n 0 v) :: L) W ∧ Kd.R (Kd.int .i64) 3 W w.heap.size (MQk bo gF L) v m
section
variable {w w1 w2 W0 : World} {L : List (Nat × Obj)} {n : Nat} {v : Value} {m : List Int}
theorem mqk_of {bo gF B : Nat} (hL : ∀ p ∈ L, p.1 < B) (h1 : gF < B ∨ w2.heap.size ≤ gF) (h2 : bo < B ∨ w2.heap.size ≤ bo) : ∀ k, (B ≤ k ∧ k < w2.heap.size) → MQk bo gF L k :=
  fun k hk => ⟨by omega, by omega, fun p hp e => by have := hL p hp; omega⟩
theorem bnd_of {B : Nat} (h : Kd.R (Kd.int .i64) 3 w2 B (fun _ => True) v m) : Kd.R (Kd.int .i64) 3 w2 B (fun k => B ≤ k ∧ k < w2.heap.size) v m :=
  Kd.R_mono (Kd.R_bound h) (fun k hk => ⟨hk.2.1, hk.2.2.1⟩)
theorem set3_R {bo : Nat} {W : World} {S : Nat → Prop} {B : Nat} {x y z : Value} (h : Kd.R (Kd.int .i64) 3 W B S v m) (hne : ∀ k, S k → k ≠ bo) : Kd.R (Kd.int .i64) 3 (((W.setCell ⟨bo, 0, none⟩ x).setCell ⟨bo, 1, none⟩ y).setCell ⟨bo, 2, none⟩ z) B S v m :=
  Kd.R_far (Kd.R_far (Kd.R_far h (p := ⟨bo, 0, none⟩) hne x) (p := ⟨bo, 1, none⟩) hne y) (p := ⟨bo, 2, none⟩) hne z
theorem set3_held {bo : Nat} {W : World} {x y z a b c : Value} (H : Held w ((bo, .cells #[a, b, c] 58 (0, 0)) :: L) W) : Held w ((bo, .cells #[x, y, z] 58 (0, 0)) :: L) (((W.setCell ⟨bo, 0, none⟩ x).setCell ⟨bo, 1, none⟩ y).setCell ⟨bo, 2, none⟩ z) :=
  ((H.set 0 0 rfl x).set 0 1 rfl y).set 0 2 rfl z
/-- make, call, alloc -/
theorem mp1 (H : Held w L w2) (hlt : ∀ p ∈ L, p.1 < w1.heap.size) (hs : w.heap.size ≤ w1.heap.size) (hk : w2.heap[w1.heap.size]? = some (.cells (madeCells #[.int .i64 0] n) 3)) (hR : Kd.R (Kd.int .i64) 3 w2 (w1.alloc (.cells (madeCells #[.int .i64 0] n) 3)).drew.heap.size (fun _ => True) v m) :
    MP w L n v m w2.heap.size w1.heap.size (w2.alloc (.cells #[.slice (some ⟨w1.heap.size, 0, none⟩) n n, .int .i64 0, v] 58)) := by
  simp only [made_nums] at hk hR
  have hl := (Array.getElem?_eq_some_iff.1 hk).1
  have hz : ((w1.alloc (.cells (nums .i64 (List.replicate n 0)).toArray 3)).drew).heap.size = w1.heap.size + 1 := by simp [World.drew]
  rw [hz] at hR
  have H2 := H.addblk hk hs (fun p hp e => by have := hlt p hp; omega)
  exact ⟨(H2.push _).swap, Kd.R_lower (Kd.R_mono (Kd.R_alloc (bnd_of hR) _) (mqk_of (w2 := w2) (B := w1.heap.size + 1) (fun p hp => by have := hlt p hp; omega) (by omega) (by omega))) (by omega)⟩
/-- make, alloc, call -/
theorem mp2 (H : Held w L w2) (hlt : ∀ p ∈ L, p.1 < w1.heap.size) (hs : w.heap.size ≤ w1.heap.size) {a b c : Value} (hk : w2.heap[w1.heap.size]? = some (.cells (madeCells #[.int .i64 0] n) 3)) (hk2 : w2.heap[w1.heap.size + 1]? = some (.cells #[a, b, c] 58)) (hR : Kd.R (Kd.int .i64) 3 w2 W0.heap.size (fun _ => True) v m) (hz : W0.heap.size = w1.heap.size + 1 + 1) :
    MP w L n v m (w1.heap.size + 1) w1.heap.size (((w2.setCell ⟨w1.heap.size + 1, 0, none⟩ (.slice (some ⟨w1.heap.size, 0, none⟩) n n)).setCell ⟨w1.heap.size + 1, 1, none⟩ (.int .i64 0)).setCell ⟨w1.heap.size + 1, 2, none⟩ v) := by
  simp only [made_nums] at hk
  rw [hz] at hR
  have H2 := H.addblk hk hs (fun p hp e => by have := hlt p hp; omega)
  have H3 := H2.addblk hk2 (by omega) (fun p hp e => by
    rcases List.mem_cons.1 hp with rfl | hp
    · simp at e
    · have := hlt p hp; omega)
  exact ⟨(set3_held H3).swap, Kd.R_lower (Kd.R_mono (set3_R (bnd_of hR) (fun k hk => by omega)) (mqk_of (w2 := w2) (B := w1.heap.size + 1 + 1) (fun p hp => by have := hlt p hp; omega) (by omega) (by omega))) (by omega)⟩
/-- call, make, alloc -/
theorem mp3 (H : Held w L w2) (hlt : ∀ p ∈ L, p.1 < w1.heap.size) (hs : w.heap.size ≤ w1.heap.size) (hR : Kd.R (Kd.int .i64) 3 w2 W0.heap.size (fun _ => True) v m) (hz : W0.heap.size = w1.heap.size) :
    MP w L n v m (w2.heap.size + 1) w2.heap.size ((w2.alloc (.cells (madeCells #[.int .i64 0] n) 3)).alloc (.cells #[.slice (some ⟨w2.heap.size, 0, none⟩) n n, .int .i64 0, v] 58)) := by
  rw [made_nums]
  rw [hz] at hR
  have H2 := H.push (.cells (nums .i64 (List.replicate n 0)).toArray 3)
  have H3 := H2.push (.cells #[.slice (some ⟨w2.heap.size, 0, none⟩) n n, .int .i64 0, v] 58)
  simp only [World.size_alloc] at H3
  exact ⟨H3.swap, Kd.R_lower (Kd.R_mono (Kd.R_alloc (Kd.R_alloc (bnd_of hR) _) _) (mqk_of (w2 := w2) (B := w1.heap.size) hlt (by omega) (by omega))) (by omega)⟩
/-- call, alloc, make -/
theorem mp4 (H : Held w L w2) (hlt : ∀ p ∈ L, p.1 < w1.heap.size) (hs : w.heap.size ≤ w1.heap.size) (hR : Kd.R (Kd.int .i64) 3 w2 W0.heap.size (fun _ => True) v m) (hz : W0.heap.size = w1.heap.size) :
    MP w L n v m w2.heap.size (w2.heap.size + 1) ((w2.alloc (.cells #[.slice (some ⟨w2.heap.size + 1, 0, none⟩) n n, .int .i64 0, v] 58)).alloc (.cells (madeCells #[.int .i64 0] n) 3)) := by
  rw [made_nums]
  rw [hz] at hR
  have H2 := H.push (.cells #[.slice (some ⟨w2.heap.size + 1, 0, none⟩) n n, .int .i64 0, v] 58)
  have H3 := H2.push (.cells (nums .i64 (List.replicate n 0)).toArray 3)
  simp only [World.size_alloc] at H3
  exact ⟨H3, Kd.R_lower (Kd.R_mono (Kd.R_alloc (Kd.R_alloc (bnd_of hR) _) _) (mqk_of (w2 := w2) (B := w1.heap.size) hlt (by omega) (by omega))) (by omega)⟩
/-- alloc, make, call -/
theorem mp5 (H : Held w L w2) (hlt : ∀ p ∈ L, p.1 < w1.heap.size) (hs : w.heap.size ≤ w1.heap.size) {a b c : Value} (hk2 : w2.heap[w1.heap.size]? = some (.cells #[a, b, c] 58)) (hk : w2.heap[w1.heap.size + 1]? = some (.cells (madeCells #[.int .i64 0] n) 3)) (hR : Kd.R (Kd.int .i64) 3 w2 W0.heap.size (fun _ => True) v m) (hz : W0.heap.size = w1.heap.size + 1 + 1) :
    MP w L n v m w1.heap.size (w1.heap.size + 1) (((w2.setCell ⟨w1.heap.size, 0, none⟩ (.slice (some ⟨w1.heap.size + 1, 0, none⟩) n n)).setCell ⟨w1.heap.size, 1, none⟩ (.int .i64 0)).setCell ⟨w1.heap.size, 2, none⟩ v) := by
  simp only [made_nums] at hk
  rw [hz] at hR
  have H2 := H.addblk hk (by omega) (fun p hp e => by have := hlt p hp; omega)
  have H3 := H2.addblk hk2 hs (fun p hp e => by
    rcases List.mem_cons.1 hp with rfl | hp
    · simp at e
    · have := hlt p hp; omega)
  exact ⟨(set3_held H3).swap, Kd.R_lower (Kd.R_mono (set3_R (bnd_of hR) (fun k hk => by omega)) (mqk_of (w2 := w2) (B := w1.heap.size + 1 + 1) (fun p hp => by have := hlt p hp; omega) (by omega) (by omega))) (by omega)⟩
/-- alloc, call, make -/
theorem mp6 (H : Held w L w2) (hlt : ∀ p ∈ L, p.1 < w1.heap.size) (hs : w.heap.size ≤ w1.heap.size) {a b c : Value} (hk2 : w2.heap[w1.heap.size]? = some (.cells #[a, b, c] 58)) (hR : Kd.R (Kd.int .i64) 3 w2 W0.heap.size (fun _ => True) v m) (hz : W0.heap.size = w1.heap.size + 1) :
    MP w L n v m w1.heap.size w2.heap.size ((((w2.alloc (.cells (madeCells #[.int .i64 0] n) 3)).setCell ⟨w1.heap.size, 0, none⟩ (.slice (some ⟨w2.heap.size, 0, none⟩) n n)).setCell ⟨w1.heap.size, 1, none⟩ (.int .i64 0)).setCell ⟨w1.heap.size, 2, none⟩ v) := by
  rw [made_nums]
  rw [hz] at hR
  have hl := (Array.getElem?_eq_some_iff.1 hk2).1
  have H2 := H.addblk hk2 hs (fun p hp e => by have := hlt p hp; omega)
  have H3 := H2.push (.cells (nums .i64 (List.replicate n 0)).toArray 3)
  exact ⟨(set3_held H3.swap).swap, Kd.R_lower (Kd.R_mono (set3_R (Kd.R_alloc (bnd_of hR) _) (fun k hk => by omega)) (mqk_of (w2 := w2) (B := w1.heap.size + 1) (fun p hp => by have := hlt p hp; omega) (by omega) (by omega))) (by omega)⟩
end
theorem MP.ex {w W : World} {L : List (Nat × Obj)} {n bo gF : Nat} {v : Value} {m : List Int} (h : MP w L n v m bo gF W) : ∃ W' bo' gF', W' = W ∧ bo' = bo ∧ gF' = gF ∧ MP w L n v m bo' gF' W' := ⟨_, _, _, rfl, rfl, rfl, h⟩

end Go.Proofs.Yteaimaafahpamaa.Hy
