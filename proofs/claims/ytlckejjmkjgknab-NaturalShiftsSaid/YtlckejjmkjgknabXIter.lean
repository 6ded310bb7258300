/- By hand (iter_law): a part of this seat's proofs. -/
import Derived.RangeFuncNested
import Derived.RangeFuncBound
import Derived.RangeFuncCalls
import Derived.RangeFuncLeaves
import Derived.Shelf.Abstract
import Derived.Shelf.RegionOpen
import Derived.WalkKit
import Derived.OwnWalkIn
import Derived.TacticsInMore
import Derived.LoopNIn
import Derived.LoopIn
import Derived.Test.YtlckejjmkjgknabWMore
import Derived.Test.YtlckejjmkjgknabWLast
namespace Go.Proofs.Ytlckejjmkjgknab.Hy
open Go.RowKit Go.Shelf Go.Proofs.YtlckejjmkjgknabW.PrintWords Go.Proofs.YtlckejjmkjgknabW.PrintLast Go.Proofs.YtlckejjmkjgknabW.PrintMore
set_option linter.unusedVariables false
set_option linter.unusedSimpArgs false
/-! ### a range over a function whose closure keeps memory of its own -/
/-- B is A but for blocks of S and new ones. -/
structure Chg (S : Nat → Prop) (A B : World) : Prop where
  os : B.os = A.os
  tape : B.tape = A.tape
  output : B.output = A.output
  size : A.heap.size ≤ B.heap.size
  block : ∀ k, k < A.heap.size → ¬ S k → B.heap[k]? = A.heap[k]?
namespace Chg
variable {S S' : Nat → Prop} {A B C : World}
theorem refl (S : Nat → Prop) (A : World) : Chg S A A := ⟨rfl, rfl, rfl, Nat.le_refl _, fun _ _ _ => rfl⟩
theorem trans (h : Chg S A B) (k : Chg S B C) : Chg S A C :=
  ⟨k.os.trans h.os, k.tape.trans h.tape, k.output.trans h.output, Nat.le_trans h.size k.size, fun i hi hs => (k.block i (Nat.lt_of_lt_of_le hi h.size) hs).trans (h.block i hi hs)⟩
theorem mono (h : Chg S A B) (hs : ∀ k, S k → S' k) : Chg S' A B := ⟨h.os, h.tape, h.output, h.size, fun i hi hn => h.block i hi (fun hk => hn (hs i hk))⟩
theorem of_below (h : Below A.heap.size A B) (S : Nat → Prop) : Chg S A B := ⟨h.os, h.tape, h.output, h.size, fun i hi _ => h.block i hi⟩
theorem of_grown {row : Option Nat} (h : A.grownBy B row) (hs : ∀ k, row = some k → S k) : Chg S A B :=
  ⟨h.os, h.tape, h.output, h.size, fun i hi hn => h.block i hi (fun e => hn (hs i e.symm))⟩
theorem alloc (h : Chg S A B) (o : Obj) : Chg S A (B.alloc o) := h.trans (of_below ((Below.refl _ B).alloc (Nat.le_refl _) o) S)
theorem drew (h : Chg S A B) : Chg S A B.drew := ⟨h.os, h.tape, h.output, h.size, h.block⟩
theorem drewN (h : Chg S A B) (n : Nat) : Chg S A (B.drewN n) := ⟨h.os, h.tape, h.output, h.size, h.block⟩
theorem setCell (h : Chg S A B) {p : Addr} (hp : S p.block) (u : Value) : Chg S A (B.setCell p u) := by
  refine h.trans ?_
  have hb : Below 0 B (B.setCell p u) := (Below.refl 0 B).setCell (Nat.zero_le _) u
  exact ⟨hb.os, hb.tape, hb.output, hb.size, fun i _ hn => Below.heap_setCell B p u i (fun e => hn (e ▸ hp))⟩
theorem putObj (h : Chg S A B) {r : Nat} (hr : S r) (o : Obj) : Chg S A (B.putObj r o) := by
  refine h.trans ⟨rfl, rfl, rfl, by simp, fun i _ hn => World.putObj_heap_other (fun e => hn (e ▸ hr))⟩
theorem below (h : Chg S A B) {n : Nat} (hn : n ≤ A.heap.size) (hs : ∀ k, S k → n ≤ k) : Below n A B :=
  ⟨h.os, h.tape, h.output, h.size, fun i hi => h.block i (Nat.lt_of_lt_of_le hi hn) (fun hk => by have := hs i hk; omega)⟩
end Chg
theorem roundIn_any {n m : Nat} {P : Program} {l : Nat} {f : FuncId} {tmps : Array Value} {assign body : Code} {w : World} {R : Ending → World → Prop}
    (h : RoundIn Fence.wide n P l f tmps assign body w R) : RoundIn Fence.wide m P l f tmps assign body w R :=
  ⟨h.1, fun c cs _ => h.2 c cs (room_wide _)⟩
theorem callsIn_any {n m : Nat} {P : Program} {f : FuncId} {args : Array Value} {w : World} {R : Ending → World → Prop}
    (h : CallsIn Fence.wide n P f args w R) : CallsIn Fence.wide m P f args w R := callsIn_wide.2 (callsIn_wide.1 h)
/-- An iterator's contract at one world: it hands over xs, one by one, and writes its own blocks (priv) alone; a round leaves what it holds (hold) as it was. Elt x vs A B: the arguments vs of yield are x, what they lead to having been made since A. -/
def IterC {α : Type} (P : Program) (gf : Nat) (lb : Array Value) (Elt : α → Array Value → World → World → Prop) (priv hold : Nat → Prop) (xs : List α) (l : Nat) (W1 : World) : Prop :=
  ∀ (J Jx : List α → World → Prop), (∀ pre A B, J pre A → Chg priv A B → J pre B) → (∀ pre A B, Jx pre A → Chg priv A B → Jx pre B) →
    (∀ pre x vs A B, J pre A → Chg priv A B → Elt x vs A B → (pre ++ [x]) <+: xs → ∀ m, YieldAt Fence.wide m P l vs B fun e C =>
      (e = .returned (.bool true) ∧ J (pre ++ [x]) C ∧ Chg (fun k => ¬ hold k) B C) ∨ (e = .returned (.bool false) ∧ Jx (pre ++ [x]) C)) →
    J [] W1 →
    CallsIn Fence.wide 0 P gf (#[.func (.yield l) #[] #[]] ++ lb) W1 fun e W' => (∃ v, e = .returned v) ∧ (J xs W' ∨ ∃ pre, pre <+: xs ∧ Jx pre W')
/-- how a round's body may be left -/
def itPost {α : Type} (I : List α → World → Prop) (Ix : Code → List α → World → Prop) (T : Nat → Prop) (xs : List α) (W : World) : Exit → Act → World → Prop
  | .normal, _, W' => I xs W' ∧ Chg T W W'
  | .ret, _, W' => Ix .ret xs W' ∧ Chg T W W'
  | .exit id, _, W' => Ix (.exit id) xs W' ∧ Chg T W W'
  | .goto t, _, W' => Ix (.goto t) xs W' ∧ Chg T W W'
  | .panic _, _, _ => False
  | .outgrown, _, _ => False
theorem rangeFunc_it {α : Type} {P : Program} {n : Nat} {g : Operand} {ps : Array Tmp} {assign body : Code} {Q : Exit → Act → World → Prop} {a : Act} {w : World}
    {gf : Nat} {lb : Array Value} (hg : a.eval g = .func (.func gf) #[] lb) (eg : ∀ args w, (callFunc gf args).run P w = .ok (.enter gf args) w)
    {Elt : α → Array Value → World → World → Prop} {priv hold : Nat → Prop} {xs : List α}
    (hpr : ∀ k, priv k → w.heap.size + 2 ≤ k) (hho : ¬ hold (w.heap.size + 1))
    (hsz : ∀ x vs A B, Elt x vs A B → vs.size = ps.size) (hElt : ∀ x vs A B C, w.heap.size + 2 ≤ A.heap.size → Elt x vs A B → Chg (fun k => k = w.heap.size + 1) B C → C.heap.size = B.heap.size → Elt x vs A C)
    (hit : ∀ r, IterC P gf lb Elt priv hold xs (w.heap.size + 1) ((w.alloc (.deferred (some []))).alloc (.loop r)))
    (I : List α → World → Prop) (Ix : Code → List α → World → Prop)
    (hI : ∀ pre A B, I pre A → Chg (fun k => priv k ∨ k = w.heap.size + 1) A B → I pre B) (hIx : ∀ c pre A B, Ix c pre A → Chg (fun k => priv k ∨ k = w.heap.size + 1) A B → Ix c pre B)
    (h0 : ∀ r, I [] ((w.alloc (.deferred (some []))).alloc (.loop r))) (a₁ : Array Value → Act)
    (hassign : ∀ (vs : Array Value) (W : World) (K : Act → World → Prop), vs.size = ps.size → K (a₁ vs) W →
      assign.wpIn (Fence.wide.inRound (w.heap.size + 1)) 0 P (Exit.then K (fun _ _ _ => False)) { tmps := (ps.zip vs).foldl (fun t (p, v) => t.setIfInBounds p v) a.tmps, defers := [] } W)
    (hbody : ∀ (pre : List α) (x : α) (vs : Array Value) (W0 W : World), I pre W0 → Chg (fun k => priv k ∨ k = w.heap.size + 1) W0 W → Elt x vs W0 W → (pre ++ [x]) <+: xs → w.heap.size + 2 ≤ W.heap.size →
      body.wpIn (Fence.wide.inRound (w.heap.size + 1)) 0 P (itPost I Ix (fun k => ¬ (hold k ∨ k = w.heap.size ∨ k = w.heap.size + 1)) (pre ++ [x]) W) (a₁ vs) W)
    (hdone : ∀ W, I xs W → W.heap[w.heap.size]? = some (.deferred (some [])) → Q .normal { a with defers := { target := .collected w.heap.size, args := #[] } :: a.defers } W)
    (hstop : ∀ (c : Code) (pre : List α) W, pre <+: xs → Ix c pre W → W.heap[w.heap.size]? = some (.deferred (some [])) → c.wpIn Fence.wide n P Q { a with defers := { target := .collected w.heap.size, args := #[] } :: a.defers } W) :
    (Code.rangeFunc g ps assign body).wpIn Fence.wide n P Q a w := by
  refine wpIn_rangeFunc ?_
  intro fn hfn
  obtain ⟨rec, hrec⟩ : ∃ rec : LoopState → Option Code → Loop, rec = fun st pe => { state := st, pending := pe, fn, tmps := a.tmps, params := ps, assign, body, defers := w.heap.size } := ⟨_, rfl⟩
  have hround : Fence.wide.round = none := rfl
  obtain ⟨W1, hW1⟩ : ∃ W1, (w.alloc (.deferred (some []))).alloc (.loop (rec .ready none)) = W1 := ⟨_, rfl⟩
  have hL1 : W1.heap[w.heap.size + 1]? = some (.loop (rec .ready none)) := by
    rw [← hW1]; have := World.alloc_heap_new (w.alloc (.deferred (some []))) (.loop (rec .ready none)); rwa [World.size_alloc] at this
  have hK1 : W1.heap[w.heap.size]? = some (.deferred (some [])) := by
    rw [← hW1]; exact (Below.heap_alloc _ _ _ (by simp)).trans (World.alloc_heap_new w _)
  have hI1 : I [] W1 := by rw [← hW1]; exact h0 _
  refine ⟨w.heap.size + 1, [{ target := .collected w.heap.size, args := #[] }], W1, { target := .fn (.func gf) lb, args := #[.func (.yield (w.heap.size + 1)) #[] #[]] }, W1, gf,
    #[.func (.yield (w.heap.size + 1)) #[] #[]] ++ lb, W1, ?_, ?_, ?_, ?_, (fun h => (by cases h)), ?_⟩
  · rw [hround, ← hW1, hrec]; exact run_enterLoop_outer _ _ _ _ _
  · simp only [resolve, hg]
    simp [go_sem]
  · intro f' _; trivial
  · simp [invoke, go_sem, eg]
  · have hkeep : ∀ {A B : World} {k : Nat} {o : Obj} {T : Nat → Prop}, Chg T A B → ¬ T k → A.heap[k]? = some o → B.heap[k]? = some o := fun hc hn hk => (hc.block _ (Array.getElem?_eq_some_iff.1 hk).1 hn).trans hk
    have hnp : ¬ priv (w.heap.size + 1) := fun h => by have := hpr _ h; omega
    have hnp0 : ¬ priv w.heap.size := fun h => by have := hpr _ h; omega
    have hit1 := hit (rec .ready none)
    rw [hW1] at hit1
    refine callsIn_any ((hit1
      (fun pre W => I pre W ∧ W.heap[w.heap.size + 1]? = some (.loop (rec .ready none)) ∧ W.heap[w.heap.size]? = some (.deferred (some [])))
      (fun pre W => ∃ c, Ix c pre W ∧ W.heap[w.heap.size + 1]? = some (.loop (rec .done (some c))) ∧ W.heap[w.heap.size]? = some (.deferred (some [])))
      (fun pre A B hj hc => ⟨hI pre A B hj.1 (hc.mono fun _ hk => .inl hk), hkeep hc hnp hj.2.1, hkeep hc hnp0 hj.2.2⟩)
      (fun pre A B hj hc => by
        obtain ⟨c, hx, hl, hd⟩ := hj
        exact ⟨c, hIx c pre A B hx (hc.mono fun _ hk => .inl hk), hkeep hc hnp hl, hkeep hc hnp0 hd⟩)
      ?_ ⟨hI1, hL1, hK1⟩).mono ?_)
    · rintro pre x vs A B ⟨hi, hl0, hd0⟩ hcAB he hpre m
      have hl := hkeep hcAB hnp hl0
      have hd := hkeep hcAB hnp0 hd0
      have hlt : w.heap.size + 1 < B.heap.size := (Array.getElem?_eq_some_iff.1 hl).1
      have hy := run_yield (P := P) (args := vs) hl (by rw [hrec]; exact hsz x vs A B he)
      rw [hrec] at hy
      obtain ⟨B2, hB2⟩ : ∃ B2, B.putObj (w.heap.size + 1) (.loop { rec .ready none with state := .busy }) = B2 := ⟨_, rfl⟩
      have hc2 : Chg (fun k => k = w.heap.size + 1) B B2 := by rw [← hB2]; exact (Chg.refl (fun k => k = w.heap.size + 1) B).putObj (r := w.heap.size + 1) rfl _
      have hl2 : B2.heap[w.heap.size + 1]? = some (.loop { rec .ready none with state := .busy }) := by rw [← hB2]; exact World.putObj_heap_same hlt
      have hd2 : B2.heap[w.heap.size]? = some (.deferred (some [])) := by rw [← hB2]; exact (World.putObj_heap_other (by omega)).trans hd
      have hs2 : B2.heap.size = B.heap.size := by rw [← hB2]; simp
      refine ⟨fn, _, assign, body, hy, roundIn_any (n := 0) (roundIn_of_wpIn trivial (hassign vs B _ (hsz x vs A B he) ⟨B2, by rw [← hB2]; exact run_beginRound hl (by rw [hrec]), ?_⟩))⟩
      refine wpIn_mono (hbody pre x vs A B2 hi ((hcAB.mono fun _ hk => .inl hk).trans (hc2.mono fun _ hk => .inr hk)) (hElt x vs A B B2 (by have := (Array.getElem?_eq_some_iff.1 hl0).1; omega) he hc2 hs2) hpre (by omega)) ?_
      have fin : ∀ (jump : Option Code) (W3 : World), Chg (fun k => ¬ (hold k ∨ k = w.heap.size ∨ k = w.heap.size + 1)) B2 W3 →
          (Instr.endRound (w.heap.size + 1) jump).run P W3 = .ok (.bool jump.isNone) (W3.putObj (w.heap.size + 1) (.loop (rec (if jump.isNone then .ready else .done) jump))) ∧
          (W3.putObj (w.heap.size + 1) (.loop (rec (if jump.isNone then .ready else .done) jump))).heap[w.heap.size + 1]? = some (.loop (rec (if jump.isNone then .ready else .done) jump)) ∧
          (W3.putObj (w.heap.size + 1) (.loop (rec (if jump.isNone then .ready else .done) jump))).heap[w.heap.size]? = some (.deferred (some [])) := fun jump W3 hk3 => by
        have hl3 := hkeep hk3 (fun h => h (.inr (.inr rfl))) hl2
        have hd3 := hkeep hk3 (fun h => h (.inr (.inl rfl))) hd2
        have := run_endRound (P := P) jump hl3
        rw [hrec] at this ⊢
        exact ⟨this, World.putObj_heap_same (Array.getElem?_eq_some_iff.1 hl3).1, (World.putObj_heap_other (by omega)).trans hd3⟩
      rintro e a3 W3 hp
      have step : ∀ o, Chg (fun k => priv k ∨ k = w.heap.size + 1) W3 (W3.putObj (w.heap.size + 1) o) := fun o => (Chg.refl _ W3).putObj (.inr rfl) o
      cases e with
      | normal =>
        obtain ⟨hi3, hk3⟩ := hp
        obtain ⟨hr, hl4, hk4⟩ := fin none W3 hk3
        refine ⟨_, _, hr, .inl ⟨rfl, ⟨hI _ _ _ hi3 (step _), hl4, hk4⟩, ?_⟩⟩
        refine ((hc2.mono (fun k hk => ?_)).trans (hk3.mono (fun k hk hh => hk (.inl hh)))).trans ((Chg.refl _ W3).putObj hho _)
        rw [hk]; exact hho
      | ret =>
        obtain ⟨hi3, hk3⟩ := hp
        obtain ⟨hr, hl4, hk4⟩ := fin (some .ret) W3 hk3
        exact ⟨_, _, hr, .inr ⟨rfl, .ret, hIx _ _ _ _ hi3 (step _), hl4, hk4⟩⟩
      | exit id =>
        obtain ⟨hi3, hk3⟩ := hp
        obtain ⟨hr, hl4, hk4⟩ := fin (some (.exit id)) W3 hk3
        exact ⟨_, _, hr, .inr ⟨rfl, .exit id, hIx _ _ _ _ hi3 (step _), hl4, hk4⟩⟩
      | goto t =>
        obtain ⟨hi3, hk3⟩ := hp
        obtain ⟨hr, hl4, hk4⟩ := fin (some (.goto t)) W3 hk3
        exact ⟨_, _, hr, .inr ⟨rfl, .goto t, hIx _ _ _ _ hi3 (step _), hl4, hk4⟩⟩
      | panic ch => exact hp.elim
      | outgrown => exact hp.elim
    · rintro e W2 ⟨⟨v, rfl⟩, (⟨hi, hl, hk⟩ | ⟨pre, hpre, c, hi, hl, hk⟩)⟩
      · exact ⟨none, _, by have := run_endLoop (P := P) hl (by rw [hrec]; simp); rw [hrec] at this; exact this, hdone _ (hI _ _ _ hi ((Chg.refl _ W2).putObj (.inr rfl) _)) ((World.putObj_heap_other (by omega)).trans hk)⟩
      · exact ⟨some c, _, by have := run_endLoop (P := P) hl (by rw [hrec]; simp); rw [hrec] at this; exact this, hstop c pre _ hpre (hIx _ _ _ _ hi ((Chg.refl _ W2).putObj (.inr rfl) _)) ((World.putObj_heap_other (by omega)).trans hk)⟩

end Go.Proofs.Ytlckejjmkjgknab.Hy
