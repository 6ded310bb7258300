/- By hand (nat_env): a part of this seat's proofs. -/
import Derived.Test.YtlckejjmkjgknabXIter
import Derived.Test.YtlckejjmkjgknabProg
import Derived.RegionTactic
import Derived.BigRegion
import Derived.Outline
import Derived.Handy
import Derived.Laws.CopyOwn
namespace Go.Proofs.Ytlckejjmkjgknab.Hy
open Go.RowKit Go.Shelf Go.Proofs.YtlckejjmkjgknabW.PrintWords Go.Proofs.YtlckejjmkjgknabW.PrintLast Go.Proofs.YtlckejjmkjgknabW.PrintMore
set_option linter.unusedVariables false
set_option linter.unusedSimpArgs false
/-! ### what the closures of natural.solutions hold -/
theorem rows_at {W : World} {A : Option Addr} {n : Nat} {xs : List (List Int)} (h : (Kd.slice 2 (Kd.int .i64)).C W A n xs) (i : Nat) (hi : i < n) :
    ∃ ad Ai ci, A = some ad ∧ W.cell? (ad.add i) = some (.slice Ai (xs.getD i []).length ci) ∧ (Kd.int .i64).C W Ai (xs.getD i []).length (xs.getD i []) := by
  obtain ⟨ad, c, e, hl, ⟨Ai, ci, rfl, _, hk⟩, hc⟩ := ReadsRow.get_ h ([] : List Int) (i : Int) (by omega) (by omega)
  have := hc 0 _ rfl
  simp only [Int.toNat_natCast] at this hk
  exact ⟨ad, Ai, ci, e, by simpa [Kd.slice] using this, hk⟩
theorem int_at {W : World} {A : Option Addr} {n : Nat} {xs : List Int} (h : (Kd.int .i64).C W A n xs) (i : Nat) (hi : i < n) :
    ∃ ad, A = some ad ∧ W.cell? (ad.add i) = some (.int .i64 (xs.getD i 0)) := by
  obtain ⟨ad, c, e, hl, hk, hc⟩ := ReadsRow.get_ h (0 : Int) (i : Int) (by omega) (by omega)
  have hk' : c = [.int .i64 (xs.getD i 0)] := by simpa [Kd.int, Kd.scalar] using hk
  subst hk'
  have := hc 0 _ rfl
  simp only [Int.toNat_natCast] at this
  exact ⟨ad, e, by simpa [Kd.int, Kd.scalar] using this⟩
/-- what stays the same through an iteration -/
structure Env where
  w0 : World
  s : Nat
  Ba : Nat
  Bb : Nat
  Bu : Nat
  l : Nat
  Aa : Option Addr
  ca : Nat
  Ab : Option Addr
  cb : Nat
  Au : Option Addr
  cu : Nat
  a : List (List Int)
  b : List Int
  u : List Int
/-- the problem is as Check lets it in -/
structure Env.Ok (E : Env) : Prop where
  u1 : 1 ≤ E.u.length
  u2 : E.u.length ≤ 64
  ab : E.a.length = E.b.length
  a1 : E.a.length ≤ 64
  rows : ∀ r ∈ E.a, r.length = E.u.length
  ra : ∀ r ∈ E.a, ∀ z ∈ r, -10000 ≤ z ∧ z ≤ 10000
  rb : ∀ z ∈ E.b, -10000 ≤ z ∧ z ≤ 10000
  ru : ∀ z ∈ E.u, 0 ≤ z ∧ z ≤ 1000
  ha : (Kd.slice 2 (Kd.int .i64)).C E.w0 E.Aa E.a.length E.a
  hb : (Kd.int .i64).C E.w0 E.Ab E.b.length E.b
  hu : (Kd.int .i64).C E.w0 E.Au E.u.length E.u
  ws : E.w0.heap.size ≤ E.s
  sa : E.Ba < E.s
  sb : E.Bb < E.s
  su : E.Bu < E.s
def Env.priv (E : Env) (k : Nat) : Prop := E.s ≤ k ∧ k < E.s + 7
def Env.hold (E : Env) (k : Nat) : Prop := k < E.w0.heap.size ∨ k = E.Ba ∨ k = E.Bb ∨ k = E.Bu ∨ E.priv k
structure Inv (E : Env) (W : World) (x left : List Int) : Prop where
  b0 : Below E.w0.heap.size E.w0 W
  ba : W.heap[E.Ba]? = some (.cells #[.slice E.Aa E.a.length E.ca] 22 (0, 0))
  bb : W.heap[E.Bb]? = some (.cells #[.slice E.Ab E.b.length E.cb] 23 (0, 0))
  bu : W.heap[E.Bu]? = some (.cells #[.slice E.Au E.u.length E.cu] 23 (0, 0))
  y : W.heap[E.s]? = some (.cells #[.func (.yield E.l) #[] #[]] 51 (0, 0))
  xr : W.heap[E.s + 1]? = some (.cells (nums .i64 x).toArray 2 (0, 0))
  xb : W.heap[E.s + 2]? = some (.cells #[.slice (some ⟨E.s + 1, 0, none⟩) E.u.length E.u.length] 23 (0, 0))
  lr : W.heap[E.s + 3]? = some (.cells (nums .i64 left).toArray 2 (0, 0))
  lb : W.heap[E.s + 4]? = some (.cells #[.slice (some ⟨E.s + 3, 0, none⟩) E.a.length E.a.length] 23 (0, 0))
  fa : W.heap[E.s + 5]? = some (.cells #[.func (.func 26) #[] #[.pointer (some ⟨E.Ba, 0, none⟩), .pointer (some ⟨E.s + 4, 0, none⟩)]] 52 (0, 0))
  fs : W.heap[E.s + 6]? = some (.cells #[.func (.func 27) #[] #[.pointer (some ⟨E.s + 2, 0, none⟩), .pointer (some ⟨E.s + 4, 0, none⟩), .pointer (some ⟨E.s, 0, none⟩), .pointer (some ⟨E.s + 6, 0, none⟩), .pointer (some ⟨E.Bu, 0, none⟩), .pointer (some ⟨E.s + 5, 0, none⟩)]] 53 (0, 0))
  hx : x.length = E.u.length
  hl : left.length = E.a.length
namespace Inv
variable {E : Env} {W W' : World} {x left : List Int}
theorem chg (h : Inv E W x left) (hk : E.Ok) (hc : Chg (fun k => ¬ E.hold k) W W') : Inv E W' x left := by
  have st : ∀ {k : Nat} {o : Obj}, E.hold k → W.heap[k]? = some o → W'.heap[k]? = some o := fun hh h1 => (hc.block _ (Array.getElem?_eq_some_iff.1 h1).1 (fun hn => hn hh)).trans h1
  have p : ∀ j, j < 7 → E.hold (E.s + j) := fun j hj => .inr (.inr (.inr (.inr ⟨by omega, by omega⟩)))
  exact ⟨h.b0.trans ((hc.below (n := E.w0.heap.size) h.b0.size (fun k hk => by
      rcases Nat.lt_or_ge k E.w0.heap.size with h1 | h1
      · exact absurd (.inl h1) hk
      · exact h1))), st (.inr (.inl rfl)) h.ba, st (.inr (.inr (.inl rfl))) h.bb, st (.inr (.inr (.inr (.inl rfl)))) h.bu,
    st (p 0 (by omega)) h.y, st (p 1 (by omega)) h.xr, st (p 2 (by omega)) h.xb, st (p 3 (by omega)) h.lr, st (p 4 (by omega)) h.lb, st (p 5 (by omega)) h.fa, st (p 6 (by omega)) h.fs, h.hx, h.hl⟩
theorem of_below (h : Inv E W x left) (hk : E.Ok) (hc : Below W.heap.size W W') : Inv E W' x left := h.chg hk (Chg.of_below hc _)
theorem drew (h : Inv E W x left) : Inv E W.drew x left := ⟨h.b0.drew, h.ba, h.bb, h.bu, h.y, h.xr, h.xb, h.lr, h.lb, h.fa, h.fs, h.hx, h.hl⟩
theorem cast_ (h : Inv E W x left) {left' : List Int} (e : left = left') : Inv E W x left' := e ▸ h
theorem setx (h : Inv E W x left) (hk : E.Ok) (j : Nat) (v : Int) : Inv E (W.setCell ⟨E.s + 1, j, none⟩ (.int .i64 v)) (x.set j v) left := by
  have hs := hk.ws; have h1 := hk.sa; have h2 := hk.sb; have h3 := hk.su
  refine ⟨h.b0.setCell (by show _ ≤ E.s + 1; omega) _, blk_far h.ba (by show E.Ba ≠ E.s + 1; omega) _, blk_far h.bb (by show E.Bb ≠ E.s + 1; omega) _, blk_far h.bu (by show E.Bu ≠ E.s + 1; omega) _,
    blk_far h.y (by show E.s ≠ E.s + 1; omega) _, ?_, blk_far h.xb (by show E.s + 2 ≠ E.s + 1; omega) _, blk_far h.lr (by show E.s + 3 ≠ E.s + 1; omega) _, blk_far h.lb (by show E.s + 4 ≠ E.s + 1; omega) _,
    blk_far h.fa (by show E.s + 5 ≠ E.s + 1; omega) _, blk_far h.fs (by show E.s + 6 ≠ E.s + 1; omega) _, by simpa using h.hx, h.hl⟩
  refine blk_put h.xr j _ ?_
  simp [nums, List.map_set]
theorem setl (h : Inv E W x left) (hk : E.Ok) (j : Nat) (v : Int) : Inv E (W.setCell ⟨E.s + 3, j, none⟩ (.int .i64 v)) x (left.set j v) := by
  have hs := hk.ws; have h1 := hk.sa; have h2 := hk.sb; have h3 := hk.su
  refine ⟨h.b0.setCell (by show _ ≤ E.s + 3; omega) _, blk_far h.ba (by show E.Ba ≠ E.s + 3; omega) _, blk_far h.bb (by show E.Bb ≠ E.s + 3; omega) _, blk_far h.bu (by show E.Bu ≠ E.s + 3; omega) _,
    blk_far h.y (by show E.s ≠ E.s + 3; omega) _, blk_far h.xr (by show E.s + 1 ≠ E.s + 3; omega) _, blk_far h.xb (by show E.s + 2 ≠ E.s + 3; omega) _, ?_, blk_far h.lb (by show E.s + 4 ≠ E.s + 3; omega) _,
    blk_far h.fa (by show E.s + 5 ≠ E.s + 3; omega) _, blk_far h.fs (by show E.s + 6 ≠ E.s + 3; omega) _, h.hx, by simpa using h.hl⟩
  refine blk_put h.lr j _ ?_
  simp [nums, List.map_set]
theorem xcell (h : Inv E W x left) (j : Nat) (hj : j < E.u.length) : W.cell? ⟨E.s + 1, j, none⟩ = some (.int .i64 (x[j]?.getD 0)) := by
  rw [blk_cell h.xr]
  have := h.hx
  simp [nums, List.getElem?_eq_getElem (show j < x.length by omega)]
theorem lcell (h : Inv E W x left) (j : Nat) (hj : j < E.a.length) : W.cell? ⟨E.s + 3, j, none⟩ = some (.int .i64 (left[j]?.getD 0)) := by
  rw [blk_cell h.lr]
  have := h.hl
  simp [nums, List.getElem?_eq_getElem (show j < left.length by omega)]
end Inv
/-- what add does to left -/
def addL (a : List (List Int)) (left : List Int) (at_ : Nat) (k : Int) : List Int := List.zipWith (fun r d => d - k * (r[at_]?.getD 0)) a left
theorem addL_len (a : List (List Int)) (left : List Int) (at_ : Nat) (k : Int) (h : left.length = a.length) : (addL a left at_ k).length = a.length := by simp [addL, h]
/-- left behind i rounds of add -/
def addP (a : List (List Int)) (left : List Int) (at_ : Nat) (k : Int) (i : Nat) : List Int := (addL a left at_ k).take i ++ left.drop i
theorem addP_len (a : List (List Int)) (left : List Int) (at_ : Nat) (k : Int) (i : Nat) (h : left.length = a.length) (hi : i ≤ a.length) : (addP a left at_ k i).length = a.length := by
  simp [addP, addL_len a left at_ k h, h]; omega
theorem addP_at (a : List (List Int)) (left : List Int) (at_ : Nat) (k : Int) (i : Nat) (h : left.length = a.length) (hi : i < a.length) : (addP a left at_ k i)[i]?.getD 0 = left[i]?.getD 0 := by
  rw [addP, List.getElem?_append_right (by simp [addL_len a left at_ k h]; omega)]
  simp [addL_len a left at_ k h]
  congr 2
  omega
theorem addP_set (a : List (List Int)) (left : List Int) (at_ : Nat) (k : Int) (i : Nat) (h : left.length = a.length) (hi : i < a.length) :
    (addP a left at_ k i).set i (left[i]?.getD 0 - k * ((a[i]?.getD [])[at_]?.getD 0)) = addP a left at_ k (i + 1) := by
  have hL := addL_len a left at_ k h
  unfold addP
  rw [List.set_append_right _ _ (by simp [hL]; omega)]
  have e1 : (List.take i (addL a left at_ k)).length = i := by simp [hL]; omega
  rw [e1, Nat.sub_self, List.drop_eq_getElem_cons (show i < left.length by omega), List.set_cons_zero, List.take_succ_eq_append_getElem (show i < (addL a left at_ k).length by omega)]
  simp [addL, List.getElem?_eq_getElem (show i < left.length by omega), List.getElem?_eq_getElem hi]

end Go.Proofs.Ytlckejjmkjgknab.Hy
