/- By hand (nat_guard): a part of this seat's proofs. -/
import Derived.Test.YtlckejjmkjgknabXNatSol
import Derived.Test.YtlckejjmkjgknabH5
import Derived.Sort.LoopGhostIn
import Derived.Stop.RegionWithIn
import Derived.Laws.EntriesVeiled
namespace Go.Proofs.Ytlckejjmkjgknab.Hy
open Go.RowKit Go.Shelf Go.Proofs.YtlckejjmkjgknabW.PrintWords Go.Proofs.YtlckejjmkjgknabW.PrintLast Go.Proofs.YtlckejjmkjgknabW.PrintMore
set_option linter.unusedVariables false
set_option linter.unusedSimpArgs false
attribute [local go_sem] Oper.semAt_some
/-! ### what is asked of a problem -/
def okN (a : List (List Int)) (b u : List Int) : Prop :=
  (1 ≤ u.length ∧ u.length ≤ 64 ∧ a.length = b.length ∧ a.length ≤ 64) ∧ (∀ r ∈ a, r.length = u.length) ∧ (∀ r ∈ a, ∀ z ∈ r, -10000 ≤ z ∧ z ≤ 10000) ∧ (∀ z ∈ b, -10000 ≤ z ∧ z ≤ 10000) ∧ (∀ z ∈ u, 0 ≤ z ∧ z ≤ 1000) ∧ (sols a b u []).length ≤ 100000
instance (a : List (List Int)) (b u : List Int) : Decidable (okN a b u) := by unfold okN; infer_instance
theorem okN.env {a : List (List Int)} {b u : List Int} (h : okN a b u) (E : Env) (ha : E.a = a) (hb : E.b = b) (hu : E.u = u)
    (ca : (Kd.slice 2 (Kd.int .i64)).C E.w0 E.Aa E.a.length E.a) (cb : (Kd.int .i64).C E.w0 E.Ab E.b.length E.b) (cu : (Kd.int .i64).C E.w0 E.Au E.u.length E.u)
    (ws : E.w0.heap.size ≤ E.s) (sa : E.Ba < E.s) (sb : E.Bb < E.s) (su : E.Bu < E.s) : E.Ok := by
  subst ha hb hu
  obtain ⟨⟨h1, h2, h3, h4⟩, h5, h6, h7, h8, _⟩ := h
  exact ⟨h1, h2, h3, h4, h5, h6, h7, h8, ca, cb, cu, ws, sa, sb, su⟩
theorem three_ (W : World) (o1 o2 o3 : Obj) : (((W.alloc o1).alloc o2).alloc o3).heap[W.heap.size]? = some o1 ∧ (((W.alloc o1).alloc o2).alloc o3).heap[W.heap.size + 1]? = some o2 ∧ (((W.alloc o1).alloc o2).alloc o3).heap[W.heap.size + 2]? = some o3 ∧ (((W.alloc o1).alloc o2).alloc o3).heap.size = W.heap.size + 3 := by
  have n1 := blk_new W o1
  have n2 := blk_new (W.alloc o1) o2
  have n3 := blk_new ((W.alloc o1).alloc o2) o3
  simp only [World.size_alloc] at n1 n2 n3
  exact ⟨blk_alloc (blk_alloc n1 _) _, blk_alloc n2 _, n3, by simp only [World.size_alloc]⟩
/-- natural.solutions: the three slices lie in boxes, the closure holds these. -/
theorem solutions_calls (A0 : Option Addr) (n0 c0 : Nat) (A1 : Option Addr) (n1 c1 : Nat) (A2 : Option Addr) (n2 c2 : Nat) (w : World) :
    CallsIn Fence.wide 0 Try.prog 23 #[.slice A0 n0 c0, .slice A1 n1 c1, .slice A2 n2 c2] w fun e w' =>
      e = .returned (.func (.func 25) #[] #[.pointer (some ⟨w.heap.size + 1 + 1, 0, none⟩), .pointer (some ⟨w.heap.size + 1, 0, none⟩), .pointer (some ⟨w.heap.size, 0, none⟩)]) ∧
      w' = ((w.alloc (.cells #[.slice A0 n0 c0] 22)).alloc (.cells #[.slice A1 n1 c1] 23)).alloc (.cells #[.slice A2 n2 c2] 23) := by
  refine callsIn_of_wp Try.func23 rfl trivial ?_ rfl
  simp only [Try.ntmps23, List.size_toArray, List.length_cons, List.length_nil, Nat.reduceAdd, Nat.reduceSub, Array.replicate_succ, Array.replicate_zero, List.push_toArray, List.append_toArray, List.nil_append, List.cons_append]
  gi_wp2
  go_ret
  exact ⟨rfl, rfl⟩
theorem elt_turn {m lo : Nat} (x : List Int) (vs : Array Value) (A B C : World) (hA : m + 2 ≤ A.heap.size) (h : EltN lo x vs A B) (hc : Chg (fun k => k = m + 1) B C) (hs : C.heap.size = B.heap.size) : EltN lo x vs A C := by
  obtain ⟨g, h0, h1, h2, h3, h4⟩ := h
  exact ⟨g, h0, h1, by omega, h3, (hc.block g h2 (by omega)).trans h4⟩
theorem elt_size {lo : Nat} (x : List Int) (vs : Array Value) (A B : World) (h : EltN lo x vs A B) : vs.size = 1 := by
  obtain ⟨g, _, _, _, rfl, _⟩ := h
  rfl
theorem pre_len {xs : List (List Int)} {pre : List (List Int)} {x : List Int} (h : (pre ++ [x]) <+: xs) (hl : xs.length ≤ 100000) : pre.length < 100000 := by
  have := h.length_le
  simp at this
  omega
/-- a range over natural.solutions: what the law asks -/
theorem it_setup (A0 : Option Addr) (c0 : Nat) (l0 : List (List Int)) (A1 : Option Addr) (c1 : Nat) (l1 : List Int) (A2 : Option Addr) (c2 : Nat) (l2 : List Int) (w w1 w2 : World) (hr0 : Kd.C (Kd.slice 2 (Kd.int .i64)) w A0 l0.length l0) (hr1 : Kd.C (Kd.int .i64) w A1 l1.length l1) (hr2 : Kd.C (Kd.int .i64) w A2 l2.length l2)
    (hok : okN l0 l1 l2) (hB1 : Below w.heap.size w w1) (hw2 : w2 = ((w1.alloc (.cells #[.slice A0 l0.length c0] 22)).alloc (.cells #[.slice A1 l1.length c1] 23)).alloc (.cells #[.slice A2 l2.length c2] 23)) :
    ∃ priv hold : Nat → Prop, (∀ k, priv k → w2.heap.size + 2 ≤ k ∧ k < w2.heap.size + 9) ∧ (∀ k, w.heap.size ≤ k → k < w1.heap.size ∨ (w1.heap.size + 3 ≤ k ∧ k < w2.heap.size + 2) ∨ w2.heap.size + 9 ≤ k → ¬ hold k) ∧
      (∀ r, IterC Try.prog 25 #[.pointer (some ⟨w1.heap.size + 1 + 1, 0, none⟩), .pointer (some ⟨w1.heap.size + 1, 0, none⟩), .pointer (some ⟨w1.heap.size, 0, none⟩)] (EltN (w2.heap.size + 9)) priv hold (sols l0 l1 l2 []) (w2.heap.size + 1) ((w2.alloc (.deferred (some []))).alloc (.loop r))) ∧
      w2.heap.size = w1.heap.size + 3 ∧ Below w.heap.size w w2 ∧ Below w1.heap.size w1 w2 := by
  have hw1s := hB1.size
  obtain ⟨t1, t2, t3, t4⟩ := three_ w1 (.cells #[.slice A0 l0.length c0] 22) (.cells #[.slice A1 l1.length c1] 23) (.cells #[.slice A2 l2.length c2] 23)
  rw [← hw2] at t1 t2 t3 t4
  have hB2 : Below w.heap.size w w2 := by rw [hw2]; exact ((hB1.alloc hw1s _).alloc (by simp; omega) _).alloc (by simp; omega) _
  have hB3 : Below w1.heap.size w1 w2 := by rw [hw2]; exact below_alloc (below_alloc (below_alloc (Below.refl _ _) _) _) _
  obtain ⟨E, hE⟩ : ∃ E : Env, E = { w0 := w, s := w2.heap.size + 2, Ba := w1.heap.size, Bb := w1.heap.size + 1, Bu := w1.heap.size + 1 + 1, l := w2.heap.size + 1, Aa := A0, ca := c0, Ab := A1, cb := c1, Au := A2, cu := c2, a := l0, b := l1, u := l2 } := ⟨_, rfl⟩
  have hEk : E.Ok := hok.env E (by rw [hE]) (by rw [hE]) (by rw [hE]) (by rw [hE]; exact hr0) (by rw [hE]; exact hr1) (by rw [hE]; exact hr2) (by rw [hE]; show w.heap.size ≤ w2.heap.size + 2; omega) (by rw [hE]; show w1.heap.size < w2.heap.size + 2; omega) (by rw [hE]; show w1.heap.size + 1 < w2.heap.size + 2; omega) (by rw [hE]; show w1.heap.size + 1 + 1 < w2.heap.size + 2; omega)
  refine ⟨E.priv, E.hold, fun k hk => ?_, fun k h1 h2 hk => ?_, fun r => ?_, t4, hB2, hB3⟩
  · rw [hE] at hk
    have h1 : w2.heap.size + 2 ≤ k := hk.1
    have h2 : k < w2.heap.size + 2 + 7 := hk.2
    omega
  · rw [hE] at hk
    rcases hk with hk | hk | hk | hk | hk
    · exact absurd hk (by show ¬ k < w.heap.size; omega)
    · have : k = w1.heap.size := hk
      omega
    · have : k = w1.heap.size + 1 := hk
      omega
    · have : k = w1.heap.size + 1 + 1 := hk
      omega
    · have h3 : w2.heap.size + 2 ≤ k := hk.1
      have h4 : k < w2.heap.size + 2 + 7 := hk.2
      omega
  · have := solutions_it E hEk ((w2.alloc (.deferred (some []))).alloc (.loop r)) (by rw [hE]; simp) (by rw [hE]; exact (hB2.alloc hB2.size _).alloc (by simp; have := hB2.size; omega) _) (by rw [hE]; exact blk_alloc (blk_alloc t1 _) _) (by rw [hE]; exact blk_alloc (blk_alloc t2 _) _) (by rw [hE]; exact blk_alloc (blk_alloc t3 _) _)
    have eBa : E.Ba = w1.heap.size := by rw [hE]
    have eBb : E.Bb = w1.heap.size + 1 := by rw [hE]
    have eBu : E.Bu = w1.heap.size + 1 + 1 := by rw [hE]
    have el : E.l = w2.heap.size + 1 := by rw [hE]
    have ea : E.a = l0 := by rw [hE]
    have eb : E.b = l1 := by rw [hE]
    have eu : E.u = l2 := by rw [hE]
    have es : E.s + 7 = w2.heap.size + 9 := by rw [hE]
    rw [eBa, eBb, eBu, el, ea, eb, eu, es] at this
    exact this

end Go.Proofs.Ytlckejjmkjgknab.Hy
