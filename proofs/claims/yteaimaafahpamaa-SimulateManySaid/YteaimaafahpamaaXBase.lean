/- By hand (iter_law, copy_in, util, held, appint): a part of this seat's proofs. -/
import Derived.RangeFuncNested
import Derived.RangeFuncBound
import Derived.RangeFuncCalls
import Derived.RangeFuncLeaves
import Derived.Shelf.Abstract
import Derived.Shelf.RegionOpen
import Derived.WalkKit
import Derived.OwnWalkIn
import Derived.TacticsInMore
import Derived.LoopNIn
import Derived.LoopIn
import Derived.LoopTactic
import Derived.RegionIn
import Derived.Laws.RangeString
import Derived.Laws.RangeAny
import Derived.RegionTactic
import Derived.BigRegion
import Derived.Outline
import Derived.Handy
import Derived.Laws.CopyOwn
import Derived.Sort.LoopGhostIn
import Derived.Stop.RegionWithIn
import Derived.Laws.EntriesVeiled
import Derived.Maps.AppendAt
import Derived.Test.YteaimaafahpamaaProg
import Derived.Test.YteaimaafahpamaaM0
namespace Go.Proofs.Yteaimaafahpamaa.Hy
open Go.RowKit Go.Shelf Go.Proofs.YteaimaafahpamaaW.PrintWords Go.Proofs.YteaimaafahpamaaW.PrintLast Go.Proofs.YteaimaafahpamaaW.PrintMore
set_option linter.unusedVariables false
set_option linter.unusedSimpArgs false
attribute [local go_sem] Oper.semAt_some
/-! ### a range over a function whose closure keeps memory of its own -/
/-- B is A but for blocks of S and new ones. -/
structure Chg (S : Nat → Prop) (A B : World) : Prop where
  os : B.os = A.os
  tape : B.tape = A.tape
  output : B.output = A.output
  size : A.heap.size ≤ B.heap.size
  block : ∀ k, k < A.heap.size → ¬ S k → B.heap[k]? = A.heap[k]?
namespace Chg
variable {S S' : Nat → Prop} {A B C : World}
theorem refl (S : Nat → Prop) (A : World) : Chg S A A := ⟨rfl, rfl, rfl, Nat.le_refl _, fun _ _ _ => rfl⟩
theorem trans (h : Chg S A B) (k : Chg S B C) : Chg S A C :=
  ⟨k.os.trans h.os, k.tape.trans h.tape, k.output.trans h.output, Nat.le_trans h.size k.size, fun i hi hs => (k.block i (Nat.lt_of_lt_of_le hi h.size) hs).trans (h.block i hi hs)⟩
theorem mono (h : Chg S A B) (hs : ∀ k, S k → S' k) : Chg S' A B := ⟨h.os, h.tape, h.output, h.size, fun i hi hn => h.block i hi (fun hk => hn (hs i hk))⟩
theorem of_below (h : Below A.heap.size A B) (S : Nat → Prop) : Chg S A B := ⟨h.os, h.tape, h.output, h.size, fun i hi _ => h.block i hi⟩
theorem of_grown {row : Option Nat} (h : A.grownBy B row) (hs : ∀ k, row = some k → S k) : Chg S A B :=
  ⟨h.os, h.tape, h.output, h.size, fun i hi hn => h.block i hi (fun e => hn (hs i e.symm))⟩
theorem alloc (h : Chg S A B) (o : Obj) : Chg S A (B.alloc o) := h.trans (of_below ((Below.refl _ B).alloc (Nat.le_refl _) o) S)
theorem drew (h : Chg S A B) : Chg S A B.drew := ⟨h.os, h.tape, h.output, h.size, h.block⟩
theorem drewN (h : Chg S A B) (n : Nat) : Chg S A (B.drewN n) := ⟨h.os, h.tape, h.output, h.size, h.block⟩
theorem setCell (h : Chg S A B) {p : Addr} (hp : S p.block) (u : Value) : Chg S A (B.setCell p u) := by
  refine h.trans ?_
  have hb : Below 0 B (B.setCell p u) := (Below.refl 0 B).setCell (Nat.zero_le _) u
  exact ⟨hb.os, hb.tape, hb.output, hb.size, fun i _ hn => Below.heap_setCell B p u i (fun e => hn (e ▸ hp))⟩
theorem putObj (h : Chg S A B) {r : Nat} (hr : S r) (o : Obj) : Chg S A (B.putObj r o) := by
  refine h.trans ⟨rfl, rfl, rfl, by simp, fun i _ hn => World.putObj_heap_other (fun e => hn (e ▸ hr))⟩
theorem below (h : Chg S A B) {n : Nat} (hn : n ≤ A.heap.size) (hs : ∀ k, S k → n ≤ k) : Below n A B :=
  ⟨h.os, h.tape, h.output, h.size, fun i hi => h.block i (Nat.lt_of_lt_of_le hi hn) (fun hk => by have := hs i hk; omega)⟩
end Chg
theorem roundIn_any {n m : Nat} {P : Program} {l : Nat} {f : FuncId} {tmps : Array Value} {assign body : Code} {w : World} {R : Ending → World → Prop}
    (h : RoundIn Fence.wide n P l f tmps assign body w R) : RoundIn Fence.wide m P l f tmps assign body w R :=
  ⟨h.1, fun c cs _ => h.2 c cs (room_wide _)⟩
theorem callsIn_any {n m : Nat} {P : Program} {f : FuncId} {args : Array Value} {w : World} {R : Ending → World → Prop}
    (h : CallsIn Fence.wide n P f args w R) : CallsIn Fence.wide m P f args w R := callsIn_wide.2 (callsIn_wide.1 h)
/-- An iterator's contract at one world: it hands over xs, one by one, and writes its own blocks (priv) alone; a round leaves what it holds (hold) as it was. Elt x vs A B: the arguments vs of yield are x, what they lead to having been made since A. -/
def IterC {α : Type} (P : Program) (gf : Nat) (lb : Array Value) (Elt : α → Array Value → World → World → Prop) (priv hold : Nat → Prop) (xs : List α) (l : Nat) (W1 : World) : Prop :=
  ∀ (J Jx : List α → World → Prop), (∀ pre A B, J pre A → Chg priv A B → J pre B) → (∀ pre A B, Jx pre A → Chg priv A B → Jx pre B) →
    (∀ pre x vs A B, J pre A → Chg priv A B → Elt x vs A B → (pre ++ [x]) <+: xs → ∀ m, YieldAt Fence.wide m P l vs B fun e C =>
      (e = .returned (.bool true) ∧ J (pre ++ [x]) C ∧ Chg (fun k => ¬ hold k) B C) ∨ (e = .returned (.bool false) ∧ Jx (pre ++ [x]) C)) →
    J [] W1 →
    CallsIn Fence.wide 0 P gf (#[.func (.yield l) #[] #[]] ++ lb) W1 fun e W' => (∃ v, e = .returned v) ∧ (J xs W' ∨ ∃ pre, pre <+: xs ∧ Jx pre W')
/-- how a round's body may be left -/
def itPost {α : Type} (I : List α → World → Prop) (Ix : Code → List α → World → Prop) (T : Nat → Prop) (xs : List α) (W : World) : Exit → Act → World → Prop
  | .normal, _, W' => I xs W' ∧ Chg T W W'
  | .ret, _, W' => Ix .ret xs W' ∧ Chg T W W'
  | .exit id, _, W' => Ix (.exit id) xs W' ∧ Chg T W W'
  | .goto t, _, W' => Ix (.goto t) xs W' ∧ Chg T W W'
  | .panic _, _, _ => False
  | .outgrown, _, _ => False
theorem rangeFunc_it {α : Type} {P : Program} {n : Nat} {g : Operand} {ps : Array Tmp} {assign body : Code} {Q : Exit → Act → World → Prop} {a : Act} {w : World}
    {gf : Nat} {lb : Array Value} (hg : a.eval g = .func (.func gf) #[] lb) (eg : ∀ args w, (callFunc gf args).run P w = .ok (.enter gf args) w)
    {Elt : α → Array Value → World → World → Prop} {priv hold : Nat → Prop} {xs : List α}
    (hpr : ∀ k, priv k → w.heap.size + 2 ≤ k) (hho : ¬ hold (w.heap.size + 1))
    (hsz : ∀ x vs A B, Elt x vs A B → vs.size = ps.size) (hElt : ∀ x vs A B C, w.heap.size + 2 ≤ A.heap.size → Elt x vs A B → Chg (fun k => k = w.heap.size + 1) B C → C.heap.size = B.heap.size → Elt x vs A C)
    (hit : ∀ r, IterC P gf lb Elt priv hold xs (w.heap.size + 1) ((w.alloc (.deferred (some []))).alloc (.loop r)))
    (I : List α → World → Prop) (Ix : Code → List α → World → Prop)
    (hI : ∀ pre A B, I pre A → Chg (fun k => priv k ∨ k = w.heap.size + 1) A B → I pre B) (hIx : ∀ c pre A B, Ix c pre A → Chg (fun k => priv k ∨ k = w.heap.size + 1) A B → Ix c pre B)
    (h0 : ∀ r, I [] ((w.alloc (.deferred (some []))).alloc (.loop r))) (a₁ : Array Value → Act)
    (hassign : ∀ (vs : Array Value) (W : World) (K : Act → World → Prop), vs.size = ps.size → K (a₁ vs) W →
      assign.wpIn (Fence.wide.inRound (w.heap.size + 1)) 0 P (Exit.then K (fun _ _ _ => False)) { tmps := (ps.zip vs).foldl (fun t (p, v) => t.setIfInBounds p v) a.tmps, defers := [] } W)
    (hbody : ∀ (pre : List α) (x : α) (vs : Array Value) (W0 W : World), I pre W0 → Chg (fun k => priv k ∨ k = w.heap.size + 1) W0 W → Elt x vs W0 W → (pre ++ [x]) <+: xs → w.heap.size + 2 ≤ W.heap.size →
      body.wpIn (Fence.wide.inRound (w.heap.size + 1)) 0 P (itPost I Ix (fun k => ¬ (hold k ∨ k = w.heap.size ∨ k = w.heap.size + 1)) (pre ++ [x]) W) (a₁ vs) W)
    (hdone : ∀ W, I xs W → W.heap[w.heap.size]? = some (.deferred (some [])) → Q .normal { a with defers := { target := .collected w.heap.size, args := #[] } :: a.defers } W)
    (hstop : ∀ (c : Code) (pre : List α) W, pre <+: xs → Ix c pre W → W.heap[w.heap.size]? = some (.deferred (some [])) → c.wpIn Fence.wide n P Q { a with defers := { target := .collected w.heap.size, args := #[] } :: a.defers } W) :
    (Code.rangeFunc g ps assign body).wpIn Fence.wide n P Q a w := by
  refine wpIn_rangeFunc ?_
  intro fn hfn
  obtain ⟨rec, hrec⟩ : ∃ rec : LoopState → Option Code → Loop, rec = fun st pe => { state := st, pending := pe, fn, tmps := a.tmps, params := ps, assign, body, defers := w.heap.size } := ⟨_, rfl⟩
  have hround : Fence.wide.round = none := rfl
  obtain ⟨W1, hW1⟩ : ∃ W1, (w.alloc (.deferred (some []))).alloc (.loop (rec .ready none)) = W1 := ⟨_, rfl⟩
  have hL1 : W1.heap[w.heap.size + 1]? = some (.loop (rec .ready none)) := by
    rw [← hW1]; have := World.alloc_heap_new (w.alloc (.deferred (some []))) (.loop (rec .ready none)); rwa [World.size_alloc] at this
  have hK1 : W1.heap[w.heap.size]? = some (.deferred (some [])) := by
    rw [← hW1]; exact (Below.heap_alloc _ _ _ (by simp)).trans (World.alloc_heap_new w _)
  have hI1 : I [] W1 := by rw [← hW1]; exact h0 _
  refine ⟨w.heap.size + 1, [{ target := .collected w.heap.size, args := #[] }], W1, { target := .fn (.func gf) lb, args := #[.func (.yield (w.heap.size + 1)) #[] #[]] }, W1, gf,
    #[.func (.yield (w.heap.size + 1)) #[] #[]] ++ lb, W1, ?_, ?_, ?_, ?_, (fun h => (by cases h)), ?_⟩
  · rw [hround, ← hW1, hrec]; exact run_enterLoop_outer _ _ _ _ _
  · simp only [resolve, hg]
    simp [go_sem]
  · intro f' _; trivial
  · simp [invoke, go_sem, eg]
  · have hkeep : ∀ {A B : World} {k : Nat} {o : Obj} {T : Nat → Prop}, Chg T A B → ¬ T k → A.heap[k]? = some o → B.heap[k]? = some o := fun hc hn hk => (hc.block _ (Array.getElem?_eq_some_iff.1 hk).1 hn).trans hk
    have hnp : ¬ priv (w.heap.size + 1) := fun h => by have := hpr _ h; omega
    have hnp0 : ¬ priv w.heap.size := fun h => by have := hpr _ h; omega
    have hit1 := hit (rec .ready none)
    rw [hW1] at hit1
    refine callsIn_any ((hit1
      (fun pre W => I pre W ∧ W.heap[w.heap.size + 1]? = some (.loop (rec .ready none)) ∧ W.heap[w.heap.size]? = some (.deferred (some [])))
      (fun pre W => ∃ c, Ix c pre W ∧ W.heap[w.heap.size + 1]? = some (.loop (rec .done (some c))) ∧ W.heap[w.heap.size]? = some (.deferred (some [])))
      (fun pre A B hj hc => ⟨hI pre A B hj.1 (hc.mono fun _ hk => .inl hk), hkeep hc hnp hj.2.1, hkeep hc hnp0 hj.2.2⟩)
      (fun pre A B hj hc => by
        obtain ⟨c, hx, hl, hd⟩ := hj
        exact ⟨c, hIx c pre A B hx (hc.mono fun _ hk => .inl hk), hkeep hc hnp hl, hkeep hc hnp0 hd⟩)
      ?_ ⟨hI1, hL1, hK1⟩).mono ?_)
    · rintro pre x vs A B ⟨hi, hl0, hd0⟩ hcAB he hpre m
      have hl := hkeep hcAB hnp hl0
      have hd := hkeep hcAB hnp0 hd0
      have hlt : w.heap.size + 1 < B.heap.size := (Array.getElem?_eq_some_iff.1 hl).1
      have hy := run_yield (P := P) (args := vs) hl (by rw [hrec]; exact hsz x vs A B he)
      rw [hrec] at hy
      obtain ⟨B2, hB2⟩ : ∃ B2, B.putObj (w.heap.size + 1) (.loop { rec .ready none with state := .busy }) = B2 := ⟨_, rfl⟩
      have hc2 : Chg (fun k => k = w.heap.size + 1) B B2 := by rw [← hB2]; exact (Chg.refl (fun k => k = w.heap.size + 1) B).putObj (r := w.heap.size + 1) rfl _
      have hl2 : B2.heap[w.heap.size + 1]? = some (.loop { rec .ready none with state := .busy }) := by rw [← hB2]; exact World.putObj_heap_same hlt
      have hd2 : B2.heap[w.heap.size]? = some (.deferred (some [])) := by rw [← hB2]; exact (World.putObj_heap_other (by omega)).trans hd
      have hs2 : B2.heap.size = B.heap.size := by rw [← hB2]; simp
      refine ⟨fn, _, assign, body, hy, roundIn_any (n := 0) (roundIn_of_wpIn trivial (hassign vs B _ (hsz x vs A B he) ⟨B2, by rw [← hB2]; exact run_beginRound hl (by rw [hrec]), ?_⟩))⟩
      refine wpIn_mono (hbody pre x vs A B2 hi ((hcAB.mono fun _ hk => .inl hk).trans (hc2.mono fun _ hk => .inr hk)) (hElt x vs A B B2 (by have := (Array.getElem?_eq_some_iff.1 hl0).1; omega) he hc2 hs2) hpre (by omega)) ?_
      have fin : ∀ (jump : Option Code) (W3 : World), Chg (fun k => ¬ (hold k ∨ k = w.heap.size ∨ k = w.heap.size + 1)) B2 W3 →
          (Instr.endRound (w.heap.size + 1) jump).run P W3 = .ok (.bool jump.isNone) (W3.putObj (w.heap.size + 1) (.loop (rec (if jump.isNone then .ready else .done) jump))) ∧
          (W3.putObj (w.heap.size + 1) (.loop (rec (if jump.isNone then .ready else .done) jump))).heap[w.heap.size + 1]? = some (.loop (rec (if jump.isNone then .ready else .done) jump)) ∧
          (W3.putObj (w.heap.size + 1) (.loop (rec (if jump.isNone then .ready else .done) jump))).heap[w.heap.size]? = some (.deferred (some [])) := fun jump W3 hk3 => by
        have hl3 := hkeep hk3 (fun h => h (.inr (.inr rfl))) hl2
        have hd3 := hkeep hk3 (fun h => h (.inr (.inl rfl))) hd2
        have := run_endRound (P := P) jump hl3
        rw [hrec] at this ⊢
        exact ⟨this, World.putObj_heap_same (Array.getElem?_eq_some_iff.1 hl3).1, (World.putObj_heap_other (by omega)).trans hd3⟩
      rintro e a3 W3 hp
      have step : ∀ o, Chg (fun k => priv k ∨ k = w.heap.size + 1) W3 (W3.putObj (w.heap.size + 1) o) := fun o => (Chg.refl _ W3).putObj (.inr rfl) o
      cases e with
      | normal =>
        obtain ⟨hi3, hk3⟩ := hp
        obtain ⟨hr, hl4, hk4⟩ := fin none W3 hk3
        refine ⟨_, _, hr, .inl ⟨rfl, ⟨hI _ _ _ hi3 (step _), hl4, hk4⟩, ?_⟩⟩
        refine ((hc2.mono (fun k hk => ?_)).trans (hk3.mono (fun k hk hh => hk (.inl hh)))).trans ((Chg.refl _ W3).putObj hho _)
        rw [hk]; exact hho
      | ret =>
        obtain ⟨hi3, hk3⟩ := hp
        obtain ⟨hr, hl4, hk4⟩ := fin (some .ret) W3 hk3
        exact ⟨_, _, hr, .inr ⟨rfl, .ret, hIx _ _ _ _ hi3 (step _), hl4, hk4⟩⟩
      | exit id =>
        obtain ⟨hi3, hk3⟩ := hp
        obtain ⟨hr, hl4, hk4⟩ := fin (some (.exit id)) W3 hk3
        exact ⟨_, _, hr, .inr ⟨rfl, .exit id, hIx _ _ _ _ hi3 (step _), hl4, hk4⟩⟩
      | goto t =>
        obtain ⟨hi3, hk3⟩ := hp
        obtain ⟨hr, hl4, hk4⟩ := fin (some (.goto t)) W3 hk3
        exact ⟨_, _, hr, .inr ⟨rfl, .goto t, hIx _ _ _ _ hi3 (step _), hl4, hk4⟩⟩
      | panic ch => exact hp.elim
      | outgrown => exact hp.elim
    · rintro e W2 ⟨⟨v, rfl⟩, (⟨hi, hl, hk⟩ | ⟨pre, hpre, c, hi, hl, hk⟩)⟩
      · exact ⟨none, _, by have := run_endLoop (P := P) hl (by rw [hrec]; simp); rw [hrec] at this; exact this, hdone _ (hI _ _ _ hi ((Chg.refl _ W2).putObj (.inr rfl) _)) ((World.putObj_heap_other (by omega)).trans hk)⟩
      · exact ⟨some c, _, by have := run_endLoop (P := P) hl (by rw [hrec]; simp); rw [hrec] at this; exact this, hstop c pre _ hpre (hIx _ _ _ _ hi ((Chg.refl _ W2).putObj (.inr rfl) _)) ((World.putObj_heap_other (by omega)).trans hk)⟩

/-! ### copy, inside a fence -/
theorem wpListIn_copy_splice {F : Fence} {n : Nat} {P : Program} {w : World} {ops : Array Oper} {rest : List Oper} {o : Oper} {a : Act} {Q : Exit → Act → World → Prop} (hgd : o.guard = none) (d s : Operand) (dT sT : TypeId)
    (ho : o.op = .call { callee := .builtin .copy, args := #[d, s], argTypes := #[dT, sT] }) (elem : TypeId) (hu : P.underlying dT = some (.slice elem)) (hsz : (P.info? elem).map (·.size) = some 1)
    (dp sp : Option Addr) (dLen dCap sLen sCap : Nat) (hd : a.eval d = .slice dp dLen dCap) (hs : a.eval s = .slice sp sLen sCap)
    (g off : Nat) (cur : List Value) (t : TypeId) (hg : w.heap[g]? = some (.cells cur.toArray t (0, 0))) (cs : List Value) (hn : cs.length = Nat.min sLen dLen)
    (hpos : 0 < cs.length → dp = some ⟨g, off, none⟩ ∧ ∃ ad, sp = some ad ∧ ∀ j v, cs[j]? = some v → w.cell? (ad.add j) = some v)
    (hfit : off + cs.length ≤ cur.length) (h1 : ∀ v ∈ cs, v.oneCell' = true) (B : Nat) (w0 : World) (hb : Below B w0 w) (hBg : B ≤ g)
    (h : ∀ w', Hid (w'.heap[g]? = some (.cells (splice cur off cs).toArray t (0, 0))) → Below B w0 w' → w.grownBy w' (some g) → w'.heap.size = w.heap.size → wpListIn F n P ops Q rest (a.put o.dst (goInt cs.length)) w') :
    wpListIn F n P ops Q (o :: rest) a w := by
  by_cases h0 : cs.length = 0
  · obtain rfl : cs = [] := List.eq_nil_of_length_eq_zero h0
    have hrun := run_copy_none (P := P) w dT sT o.type elem dp sp dLen dCap sLen sCap hu hsz (by simpa using hn.symm)
    refine wpListIn_plain hgd fun K hK => ?_
    unfold Oper.wpIn
    refine ⟨by simp [Oper.about, ho, resolve, Target.leads, Sem.run_pure], ?_⟩
    rw [Oper.semAt_plain F _ _ (by rw [ho]; intro c hc'; cases hc')]
    simp [execOp, ho, resolve, invoke, builtin, hd, hs, hrun, Result.andThen]
    exact hK _ _ (h w (show _ = _ by simpa [splice] using hg) hb (World.grownBy.refl w _) rfl)
  · obtain ⟨rfl, ad, rfl, hsrc⟩ := hpos (by omega)
    have hrun := run_copy_row (P := P) w dT sT o.type elem g off dLen dCap ad sLen sCap cur.toArray t cs hu hsz hg hn hsrc (by simpa using hfit) h1
    refine wpListIn_plain hgd fun K hK => ?_
    unfold Oper.wpIn
    refine ⟨by simp [Oper.about, ho, resolve, Target.leads, Sem.run_pure], ?_⟩
    rw [Oper.semAt_plain F _ _ (by rw [ho]; intro c hc'; cases hc')]
    simp [execOp, ho, resolve, invoke, builtin, hd, hs, hrun, Result.andThen]
    refine hK _ _ (h _ (show _ = _ by simpa [splice] using setRow_heap w g _ _ t _ hg) (below_setRow hb hBg _) ⟨rfl, rfl, rfl, by simp [World.setRow], fun k hk hne => setRow_other w g k _ (fun e => hne (by rw [e]))⟩ (by simp [World.setRow]))

/-! ### rows of whole numbers, and what stays -/
theorem int_at {W : World} {A : Option Addr} {n : Nat} {xs : List Int} (h : (Kd.int .i64).C W A n xs) (i : Nat) (hi : i < n) :
    ∃ ad, A = some ad ∧ W.cell? (ad.add i) = some (.int .i64 (xs.getD i 0)) := by
  obtain ⟨ad, h1, h2⟩ := Kd.at_int h (i : Int) (by omega) (by omega)
  exact ⟨ad, h1, by simpa [rd] using h2⟩
theorem made_nums (m : Nat) : madeCells #[Value.int .i64 0] m = (nums .i64 (List.replicate m 0)).toArray := by
  have hl : (madeCells #[Value.int .i64 0] m).toList = nums .i64 (List.replicate m 0) := by
    apply List.ext_getElem
    · simp [nums, madeCells]
    · intro i h1 h2
      simp [nums, madeCells, Nat.mod_one]
  rw [← hl]
theorem sizeInt : (Try.prog.info? 3).map (·.size) = some 1 := by kernel_rfl
theorem infoInt : (Try.prog.info? 3).map (fun i => (i.zero, i.size, i.bytes)) = some (some (.int .i64 0), 1, 8) := by kernel_rfl
theorem splice_all (xs ys : List Int) (h : ys.length = xs.length) : splice (nums .i64 xs) 0 (nums .i64 ys) = nums .i64 ys := by
  unfold splice
  rw [List.take_zero, List.nil_append, List.drop_of_length_le (by simp [nums, h]), List.append_nil]
theorem row_fresh {W : World} {B g : Nat} {x : List Int} (hb : B ≤ g) (hg : W.heap[g]? = some (.cells (nums .i64 x).toArray 3 (0, 0))) (hn : x.length ≤ 9223372036854775807) :
    Kd.R (Kd.int .i64) 3 W B (fun _ => True) (.slice (some ⟨g, 0, none⟩) x.length x.length) x := by
  refine Kd.R_of_own ?_ (fun _ _ => trivial)
  refine ⟨by simp [encs], .inr ⟨g, x.length, (nums .i64 x).toArray, rfl, hb, hg, Nat.le_refl _, by simp only [maxLen]; omega, by simp [nums], ?_⟩⟩
  simp only [nums, encs]
  rw [List.take_of_length_le (by simp)]
theorem nums_cell {W : World} {g t : Nat} {xs : List Int} (h : W.heap[g]? = some (.cells (nums .i64 xs).toArray t (0, 0))) (j : Nat) (hj : j < xs.length) : W.cell? ⟨g, j, none⟩ = some (.int .i64 (xs.getD j 0)) := by
  rw [blk_cell h]
  simp [nums, List.getD_eq_getElem?_getD, List.getElem?_eq_getElem hj]
theorem nums_set {W : World} {g t : Nat} {xs : List Int} (h : W.heap[g]? = some (.cells (nums .i64 xs).toArray t (0, 0))) (j : Nat) (v : Int) : (W.setCell ⟨g, j, none⟩ (.int .i64 v)).heap[g]? = some (.cells (nums .i64 (xs.set j v)).toArray t (0, 0)) := by
  rw [blk_set h]
  congr 2
  simp only [nums, List.map_set, List.setIfInBounds_toArray]
theorem Chg.keep {S : Nat → Prop} {A B : World} {k : Nat} {o : Obj} (hc : Chg S A B) (h : A.heap[k]? = some o) (hs : ¬ S k) : B.heap[k]? = some o := (hc.block k (Array.getElem?_eq_some_iff.1 h).1 hs).trans h
theorem Chg.belowOf {S : Nat → Prop} {n : Nat} {w A B : World} (hc : Chg S A B) (h : Below n w A) (hn : n ≤ A.heap.size) (hs : ∀ k, S k → n ≤ k) : Below n w B := h.trans (hc.below hn hs)
theorem put_keep {W : World} {k D : Nat} {cs : Array Value} {t : TypeId} {fr : Nat × Nat} {d : Option (List Deferred)} (h : W.heap[k]? = some (.cells cs t fr)) (hD : W.heap[D]? = some (.deferred d)) (o : Obj) : (W.putObj D o).heap[k]? = some (.cells cs t fr) := by
  have : k ≠ D := fun e => by subst e; rw [h] at hD; cases hD
  exact (World.putObj_heap_other this).trans h
theorem put_below {W w : World} {D n : Nat} (h : Below n w W) (hn : n ≤ D) (o : Obj) : Below n w (W.putObj D o) := h.trans ⟨rfl, rfl, rfl, by simp, fun k hk => World.putObj_heap_other (by omega)⟩
/-- copy(d, s), d a row of whole numbers of the call's own, as long as s -/
theorem copy_ints {F : Fence} {n : Nat} {w : World} {ops : Array Oper} {rest : List Oper} {o : Oper} {a : Act} {Q : Exit → Act → World → Prop} (hgd : o.guard = none) (d s : Operand)
    (ho : o.op = .call { callee := .builtin .copy, args := #[d, s], argTypes := #[26, 26] }) (g : Nat) (xs ys : List Int) (A : Option Addr) (nd ns dc sc : Nat)
    (hd : a.eval d = .slice (some ⟨g, 0, none⟩) nd dc) (hs : a.eval s = .slice A ns sc) (hnd : nd = xs.length) (hns : ns = ys.length) (hl : ys.length = xs.length)
    (hg : w.heap[g]? = some (.cells (nums .i64 xs).toArray 3 (0, 0))) (hA : Kd.C (Kd.int .i64) w A ys.length ys)
    (h : ∀ w', Aside0 (w'.heap[g]? = some (.cells (nums .i64 ys).toArray 3 (0, 0))) → Aside0 (Chg (fun k => k = g) w w') → w'.heap.size = w.heap.size → wpListIn F n Try.prog ops Q rest (a.put o.dst (goInt ys.length)) w') :
    wpListIn F n Try.prog ops Q (o :: rest) a w := by
  subst hnd hns
  have hcs : (nums .i64 ys).length = ys.length := nums_length _ _
  refine wpListIn_copy_splice hgd d s 26 26 ho 3 Try.underlying26 sizeInt (some ⟨g, 0, none⟩) A xs.length dc ys.length sc hd hs g 0 (nums .i64 xs) 3 hg (nums .i64 ys) (by rw [hcs, ← hl]; exact (Nat.min_self _).symm) (fun hp => ?_) (by rw [hcs, nums_length]; omega) (fun v hv => by simp only [nums, List.mem_map] at hv; obtain ⟨x, _, rfl⟩ := hv; rfl) 0 w (Below.refl _ _) (Nat.zero_le _) (fun w' h1 h2 h3 h4 => ?_)
  · obtain ⟨ad, he, _⟩ := int_at hA 0 (by omega)
    refine ⟨rfl, ad, he, fun j v hv => ?_⟩
    have hj : j < ys.length := by have := (List.getElem?_eq_some_iff.1 hv).1; omega
    obtain ⟨ad', he', hc⟩ := int_at hA j hj
    rw [he] at he'
    cases he'
    rw [hc, ← hv]
    simp [nums, List.getD_eq_getElem?_getD, List.getElem?_eq_getElem hj]
  · rw [hcs]
    refine h w' ?_ ⟨⟨h2.os, h2.tape, h2.output, by omega, fun k hk hne => h3.block k hk (fun e => hne (Option.some.inj e))⟩⟩ h4
    have := h1.out
    rw [splice_all xs ys hl] at this
    exact ⟨this⟩
theorem three_ (W : World) (o1 o2 o3 : Obj) : (((W.alloc o1).alloc o2).alloc o3).heap[W.heap.size]? = some o1 ∧ (((W.alloc o1).alloc o2).alloc o3).heap[W.heap.size + 1]? = some o2 ∧ (((W.alloc o1).alloc o2).alloc o3).heap[W.heap.size + 1 + 1]? = some o3 ∧ (((W.alloc o1).alloc o2).alloc o3).heap.size = W.heap.size + 1 + 1 + 1 := by
  have n1 := blk_new W o1
  have n2 := blk_new (W.alloc o1) o2
  have n3 := blk_new ((W.alloc o1).alloc o2) o3
  simp only [World.size_alloc] at n1 n2 n3
  exact ⟨blk_alloc (blk_alloc n1 _) _, blk_alloc n2 _, n3, by simp only [World.size_alloc]⟩
theorem below_three {n : Nat} {w W : World} (h : Below n w W) (hn : n ≤ W.heap.size) (o1 o2 o3 : Obj) : Below n w (((W.alloc o1).alloc o2).alloc o3) := ((h.alloc hn _).alloc (by simp; omega) _).alloc (by simp; omega) _
theorem own_down {w : World} {base base' : Nat} {e : TypeId} {size : Nat} {v : Value} {n : Nat} {xs : List Value} (h : w.ownsRow base e size v n xs) (hb : base' ≤ base) : w.ownsRow base' e size v n xs := by
  obtain ⟨h1, h2⟩ := h
  refine ⟨h1, ?_⟩
  rcases h2 with h2 | ⟨g, cap, cur, he, hg, hr⟩
  · exact .inl h2
  · exact .inr ⟨g, cap, cur, he, Nat.le_trans hb hg, hr⟩

/-! ### what the call itself holds: a list of its blocks -/
structure Held (w : World) (L : List (Nat × Obj)) (W : World) : Prop where
  bel : Below w.heap.size w W
  at_ : ∀ p ∈ L, W.heap[p.1]? = some p.2
  lo : ∀ p ∈ L, w.heap.size ≤ p.1
  nd : (L.map (·.1)).Nodup
namespace Held
variable {w W W' : World} {L : List (Nat × Obj)} {g t : Nat} {cs : Array Value} {xs : List Int}
theorem refl (w : World) : Held w [] w := ⟨Below.refl _ _, by simp, by simp, by simp⟩
theorem of_below (h : Below w.heap.size w W) : Held w [] W := ⟨h, by simp, by simp, by simp⟩
theorem size (h : Held w L W) : w.heap.size ≤ W.heap.size := h.bel.size
theorem lt (h : Held w L W) : ∀ p ∈ L, p.1 < W.heap.size := fun p hp => (Array.getElem?_eq_some_iff.1 (h.at_ p hp)).1
theorem push (h : Held w L W) (o : Obj) : Held w ((W.heap.size, o) :: L) (W.alloc o) := by
  refine ⟨below_alloc h.bel o, ?_, ?_, ?_⟩
  · intro p hp
    rcases List.mem_cons.1 hp with rfl | hp
    · exact blk_new W o
    · exact blk_alloc (h.at_ p hp) o
  · intro p hp
    rcases List.mem_cons.1 hp with rfl | hp
    · exact h.size
    · exact h.lo p hp
  · rw [List.map_cons, List.nodup_cons]
    refine ⟨fun hm => ?_, h.nd⟩
    obtain ⟨p, hp, he⟩ := List.mem_map.1 hm
    have := h.lt p hp
    have he' : p.1 = W.heap.size := he
    omega
theorem below (h : Held w L W) (hb : Below W.heap.size W W') : Held w L W' :=
  ⟨h.bel.trans (hb.mono h.size), fun p hp => (hb.block p.1 (h.lt p hp)).trans (h.at_ p hp), h.lo, h.nd⟩
theorem alloc (h : Held w L W) (o : Obj) : Held w L (W.alloc o) := h.below (below_alloc (Below.refl _ _) o)
theorem drew (h : Held w L W) : Held w L W.drew := h.below (below_drew (Below.refl _ _))
theorem drewN (h : Held w L W) (n : Nat) : Held w L (W.drewN n) := h.below (pw_below_drewN (Below.refl _ _) n)
theorem chg (h : Held w L W) {S : Nat → Prop} (hc : Chg S W W') (hs : ∀ k, S k → w.heap.size ≤ k) (hL : ∀ p ∈ L, ¬ S p.1) : Held w L W' :=
  ⟨h.bel.trans (hc.below h.size hs), fun p hp => (hc.block p.1 (h.lt p hp) (hL p hp)).trans (h.at_ p hp), h.lo, h.nd⟩
theorem mem {p : Nat × Obj} {i : Nat} (hi : L[i]? = some p) : p ∈ L := List.mem_of_getElem? hi
/-- one block is changed -/
theorem upd (h : Held w L W) (i : Nat) {o o' : Obj} (hi : L[i]? = some (g, o)) (hg : W'.heap[g]? = some o') (hb : Chg (fun k => k = g) W W') : Held w (L.set i (g, o')) W' := by
  have hlt : i < L.length := (List.getElem?_eq_some_iff.1 hi).1
  have hgi : L[i] = (g, o) := (List.getElem?_eq_some_iff.1 hi).2
  have hlo := h.lo _ (mem hi)
  have hother : ∀ j (hj : j < L.length), j ≠ i → L[j].1 ≠ g := fun j hj hne he => by
    have h1 : (L.map (·.1))[j]'(by simpa using hj) = (L.map (·.1))[i]'(by simpa using hlt) := by simp [he, hgi]
    have hp := List.pairwise_iff_getElem.1 h.nd
    rcases Nat.lt_or_gt_of_ne hne with hlt2 | hlt2
    · exact hp j i (by simpa using hj) (by simpa using hlt) hlt2 h1
    · exact hp i j (by simpa using hlt) (by simpa using hj) hlt2 h1.symm
  have hmap : (L.set i (g, o')).map (·.1) = L.map (·.1) := by
    rw [List.map_set]
    apply List.ext_getElem (by simp)
    intro j h1 h2
    rw [List.getElem_set]
    split
    · subst_vars; simp [hgi]
    · rfl
  refine ⟨h.bel.trans (hb.below h.size (fun k hk => by rw [hk]; exact hlo)), ?_, ?_, by rw [hmap]; exact h.nd⟩
  · intro p hp
    obtain ⟨j, hj, rfl⟩ := List.getElem_of_mem hp
    rw [List.length_set] at hj
    rw [List.getElem_set]
    split
    · exact hg
    · rename_i hne
      have hp2 : L[j] ∈ L := List.getElem_mem hj
      exact (hb.block _ (h.lt _ hp2) (hother j hj (fun e => hne e.symm))).trans (h.at_ _ hp2)
  · intro p hp
    obtain ⟨j, hj, rfl⟩ := List.getElem_of_mem hp
    rw [List.length_set] at hj
    rw [List.getElem_set]
    split
    · exact hlo
    · exact h.lo _ (List.getElem_mem hj)
theorem set (h : Held w L W) (i j : Nat) (hi : L[i]? = some (g, .cells cs t (0, 0))) (u : Value) : Held w (L.set i (g, .cells (cs.setIfInBounds j u) t (0, 0))) (W.setCell ⟨g, j, none⟩ u) :=
  h.upd i hi (blk_set (h.at_ _ (mem hi)) j u) ((Chg.refl (fun k => k = g) W).setCell (p := ⟨g, j, none⟩) rfl u)
theorem setN (h : Held w L W) (i j : Nat) (hi : L[i]? = some (g, .cells (nums .i64 xs).toArray t (0, 0))) (v : Int) : Held w (L.set i (g, .cells (nums .i64 (xs.set j v)).toArray t (0, 0))) (W.setCell ⟨g, j, none⟩ (.int .i64 v)) :=
  h.upd i hi (nums_set (h.at_ _ (mem hi)) j v) ((Chg.refl (fun k => k = g) W).setCell (p := ⟨g, j, none⟩) rfl _)
theorem put (h : Held w L W) (i : Nat) {o : Obj} (hi : L[i]? = some (g, o)) (o' : Obj) : Held w (L.set i (g, o')) (W.putObj g o') :=
  h.upd i hi (World.putObj_heap_same (h.lt _ (mem hi))) ((Chg.refl (fun k => k = g) W).putObj (r := g) rfl o')
theorem cell (h : Held w L W) (i j : Nat) (hi : L[i]? = some (g, .cells cs t (0, 0))) {v : Value} (hj : cs[j]? = some v) : W.cell? ⟨g, j, none⟩ = some v := (blk_cell (h.at_ _ (mem hi)) j).trans hj
theorem free (h : Held w L W) (i j : Nat) (hi : L[i]? = some (g, .cells cs t (0, 0))) : W.frozen? ⟨g, j, none⟩ = false := blk_frozen (h.at_ _ (mem hi)) j
theorem num (h : Held w L W) (i j : Nat) (hi : L[i]? = some (g, .cells (nums .i64 xs).toArray t (0, 0))) (hj : j < xs.length) : W.cell? ⟨g, j, none⟩ = some (.int .i64 (xs.getD j 0)) := nums_cell (h.at_ _ (mem hi)) j hj
theorem tail {p : Nat × Obj} (h : Held w (p :: L) W) : Held w L W :=
  ⟨h.bel, fun q hq => h.at_ q (List.mem_cons_of_mem _ hq), fun q hq => h.lo q (List.mem_cons_of_mem _ hq), by have := h.nd; rw [List.map_cons, List.nodup_cons] at this; exact this.2⟩
theorem row (h : Held w L W) (i : Nat) (hi : L[i]? = some (g, .cells (nums .i64 xs).toArray 3 (0, 0))) (n : Nat) (hn : n = xs.length) (hm : xs.length ≤ 9223372036854775807) : Kd.R (Kd.int .i64) 3 W w.heap.size (fun _ => True) (.slice (some ⟨g, 0, none⟩) n n) xs := by
  subst hn
  exact row_fresh (h.lo _ (mem hi)) (h.at_ _ (mem hi)) hm
theorem blk (h : Held w L W) (i : Nat) {o : Obj} (hi : L[i]? = some (g, o)) : W.heap[g]? = some o := h.at_ _ (mem hi)
end Held

/-! ### append(s, y), s a row of whole numbers of the call's own -/
theorem infoI : ∃ i, Try.prog.info? 3 = some i ∧ i.zero = some (.int .i64 0) ∧ i.size = 1 ∧ i.bytes = 8 := by
  have h := infoInt
  cases hi : Try.prog.info? 3 with
  | none => rw [hi] at h; cases h
  | some i =>
    rw [hi] at h
    simp only [Option.map_some, Option.some.injEq, Prod.mk.injEq] at h
    exact ⟨i, rfl, h.1, h.2.1, h.2.2⟩
theorem Held.grown {w W W' : World} {L : List (Nat × Obj)} (h : Held w L W) {row : Option Nat} (hg : W.grownBy W' row) (hne : ∀ p ∈ L, some p.1 ≠ row) (hlo : ∀ k, row = some k → w.heap.size ≤ k) : Held w L W' :=
  ⟨pw_below_grown h.bel row h.size hg hlo, fun p hp => (hg.block p.1 (h.lt p hp) (hne p hp)).trans (h.at_ p hp), h.lo, h.nd⟩
theorem append_num1 {F : Fence} {n : Nat} {wr : World} {ops : Array Oper} {rest : List Oper} {o : Oper} {a : Act} {Q : Exit → Act → World → Prop} (hgd : o.guard = none) (s x : Operand)
    (hop : o.op = Op.call { callee := Callee.builtin Builtin.append, args := #[s, x], argTypes := #[26, 26] }) (base : Nat) (v : Value) (xs : List Int) (y : Int)
    (hown : wr.ownsRow base 3 1 v xs.length (nums .i64 xs)) (hs : a.eval s = v) (hx : a.eval x = .slice (some ⟨wr.heap.size, 0, none⟩) 1 1) (hl : xs.length < 1000000000) (hb : base ≤ wr.heap.size)
    (h : ∀ v' w', Aside0 (w'.ownsRow base 3 1 v' (xs ++ [y]).length (nums .i64 (xs ++ [y]))) → Aside0 (∀ w0 L, Held w0 L wr → (∀ p ∈ L, p.1 < base) → w0.heap.size ≤ base → Held w0 L w') → Aside0 (wr.heap.size ≤ w'.heap.size) → wpListIn F n Try.prog ops Q rest (a.put o.dst v') w') :
    wpListIn F n Try.prog ops Q (o :: rest) a (wr.alloc (.cells #[.int .i64 y] 3)) := by
  obtain ⟨i0, hi, hz0, hz1, hz2⟩ := infoI
  refine wpListIn_append_own _ hgd s x 26 hop base 3 i0 (.int .i64 0) 1 8 Try.underlying26 hi hz0 hz1 hz2 rfl (by decide) v xs.length _ hs (hown.alloc _) ⟨wr.heap.size, 0, none⟩ 1 1 [.int .i64 y] hx rfl (cell_one_new _ _ _) (by simp [Value.oneCell']) (by simp only [maxLen]; omega) (by omega) (by simp; omega) ?_
  intro v' w' hown' hgrow _
  have hbase : ∀ k, v.ownBlock = some k → base ≤ k := own_base hown
  refine h v' w' ⟨?_⟩ ⟨fun w0 L hH hL hw => ?_⟩ ⟨?_⟩
  · have e : (xs ++ [y]).length = xs.length + 1 := by simp
    rw [e, nums_append]; exact hown'
  · exact (hH.alloc _).grown hgrow (fun p hp e => by have := hbase _ e.symm; have := hL p hp; omega) (fun k hk => by have := hbase k hk; omega)
  · have := hgrow.size
    simp at this
    omega
theorem append_num1c {wr : World} {ops : Array Oper} {rest : List Oper} {o : Oper} {a : Act} {Q : Exit → Act → World → Prop} (hgd : o.guard = none) (s x : Operand)
    (hop : o.op = Op.call { callee := Callee.builtin Builtin.append, args := #[s, x], argTypes := #[26, 26] }) (base : Nat) (v : Value) (xs : List Int) (y : Int)
    (hown : wr.ownsRow base 3 1 v xs.length (nums .i64 xs)) (hs : a.eval s = v) (hx : a.eval x = .slice (some ⟨wr.heap.size, 0, none⟩) 1 1) (hl : xs.length < 1000000000) (hb : base ≤ wr.heap.size)
    (h : ∀ v' w', Aside0 (w'.ownsRow base 3 1 v' (xs ++ [y]).length (nums .i64 (xs ++ [y]))) → Aside0 (∀ w0 L, Held w0 L wr → (∀ p ∈ L, p.1 < base) → w0.heap.size ≤ base → Held w0 L w') → Aside0 (wr.heap.size ≤ w'.heap.size) → wpList Try.prog ops Q rest (a.put o.dst v') w') :
    wpList Try.prog ops Q (o :: rest) a (wr.alloc (.cells #[.int .i64 y] 3)) := by
  obtain ⟨i0, hi, hz0, hz1, hz2⟩ := infoI
  refine wpList_append_own _ hgd s x 26 hop base 3 i0 (.int .i64 0) 1 8 Try.underlying26 hi hz0 hz1 hz2 rfl (by decide) v xs.length _ hs (hown.alloc _) ⟨wr.heap.size, 0, none⟩ 1 1 [.int .i64 y] hx rfl (cell_one_new _ _ _) (by simp [Value.oneCell']) (by simp only [maxLen]; omega) (by omega) (by simp; omega) ?_
  intro v' w' hown' hgrow _
  have hbase : ∀ k, v.ownBlock = some k → base ≤ k := own_base hown
  refine h v' w' ⟨?_⟩ ⟨fun w0 L hH hL hw => ?_⟩ ⟨?_⟩
  · have e : (xs ++ [y]).length = xs.length + 1 := by simp
    rw [e, nums_append]; exact hown'
  · exact (hH.alloc _).grown hgrow (fun p hp e => by have := hbase _ e.symm; have := hL p hp; omega) (fun k hk => by have := hbase k hk; omega)
  · have := hgrow.size
    simp at this
    omega

end Go.Proofs.Yteaimaafahpamaa.Hy
