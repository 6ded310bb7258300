/- By hand (fir_arcs, fir_range, fir_range2, fir_change, fir_ready, fir_list): a part of this seat's proofs. -/
import Derived.Test.YteaimaafahpamaaXBase
import Derived.Test.YteaimaafahpamaaH0
namespace Go.Proofs.Yteaimaafahpamaa.Hy
open Go.RowKit Go.Shelf Go.Proofs.YteaimaafahpamaaW.PrintWords Go.Proofs.YteaimaafahpamaaW.PrintLast Go.Proofs.YteaimaafahpamaaW.PrintMore
set_option linter.unusedVariables false
set_option linter.unusedSimpArgs false
attribute [local go_sem] Oper.semAt_some
/-! ### firing.arcs: an iterator over a list of arcs -/
theorem arcs_call (A : Option Addr) (n c : Nat) (w : World) : CallsIn Fence.wide 0 Try.prog 68 #[.slice A n c] w fun e w' =>
    e = .returned (.func (.func 70) #[] #[.pointer (some ⟨w.heap.size, 0, none⟩)]) ∧ w' = w.alloc (.cells #[.slice A n c] 66) := by
  refine callsIn_of_wp Try.func68 rfl trivial ?_ rfl
  simp only [Try.ntmps68, List.size_toArray, List.length_cons, List.length_nil, Nat.reduceAdd, Nat.reduceSub, Array.replicate_succ, Array.replicate_zero, List.push_toArray, List.append_toArray, List.nil_append, List.cons_append]
  gi_wp2
  go_ret
  exact ⟨rfl, rfl⟩
def EltA (x : S70) (vs : Array Value) (_ _ : World) : Prop := vs = #[.int .i64 x.f0, .int .i64 x.f1]
theorem take_rdA {l : List S70} {j : Nat} (h : j < l.length) : l.take (j + 1) = l.take j ++ [rd_T70 l (j : Int)] := by
  rw [List.take_succ_eq_append_getElem h, rd_T70, Int.toNat_natCast, List.getD_eq_getElem?_getD, List.getElem?_eq_getElem h]; rfl
set_option maxRecDepth 100000 in
set_option maxHeartbeats 4000000 in
theorem arcs_it (A : Option Addr) (c : Nat) (l : List S70) (w W1 : World) (Bl lid : Nat) (hA : Kd.C k70 w A l.length l) (hb : Below w.heap.size w W1) (hB : W1.heap[Bl]? = some (.cells #[.slice A l.length c] 66 (0, 0))) :
    IterC Try.prog 70 #[.pointer (some ⟨Bl, 0, none⟩)] EltA (fun _ => False) (fun k => k < w.heap.size ∨ k = Bl) l lid W1 := by
  intro J Jx hJ hJx hY h0
  have cB := cell_of_one hB
  refine callsIn_of_wp Try.func70 rfl trivial ?_ rfl
  simp only [Try.ntmps70, List.size_toArray, List.length_cons, List.length_nil, Nat.reduceAdd, Nat.reduceSub, Array.replicate_succ, Array.replicate_zero, List.push_toArray, List.append_toArray, List.nil_append, List.cons_append]
  have hmx := Kd.C_max hA
  gi_wp2
  gi_loopw [7] (fun i wr => ∃ j : Nat, i = .int .i64 j ∧ j ≤ l.length ∧ Aside0 (J (l.take j) wr) ∧ Aside0 (Below w.heap.size w wr) ∧ Aside0 (wr.heap[Bl]? = some (.cells #[.slice A l.length c] 66 (0, 0)))) (fun i _ => l.length - (intOf i).toNat)
  case atStart => exact ⟨0, rfl, Nat.zero_le _, ⟨h0⟩, ⟨hb⟩, ⟨hB⟩⟩
  case round =>
    clear cB hb hB h0
    obtain ⟨j, rfl, hj, hJr, hbr, hBr⟩ := hrel
    by_cases hlt : j < l.length
    · obtain ⟨ad, hAd, q0, q1⟩ := at_T70 (Kd.C_below hA hbr.out) (j : Int) (by omega) (by omega)
      subst hAd
      simp only [Int.toNat_natCast] at q0 q1
      have htk := Aside0.mk (take_rdA hlt)
      have hpre : l.take j ++ [rd_T70 l (j : Int)] <+: l := by rw [← take_rdA hlt]; exact List.take_prefix _ _
      obtain ⟨x, hx⟩ : ∃ x, rd_T70 l (j : Int) = x := ⟨_, rfl⟩
      rw [hx] at q0 q1 htk hpre
      have hbn := below_alloc (Below.refl wr.heap.size wr) (.cells #[.int .i64 x.f0, .int .i64 x.f1] 70)
      have hsw := hbr.out.size
      obtain ⟨fn, tmps, assign, body, hy, hR⟩ := hY (l.take j) x #[.int .i64 x.f0, .int .i64 x.f1] wr (wr.alloc (.cells #[.int .i64 x.f0, .int .i64 x.f1] 70)) hJr.out (Chg.of_below hbn _) rfl hpre 0
      replace hR := Aside0.mk hR
      replace hpre := Aside0.mk hpre
      replace hbn := Aside0.mk hbn
      clear hY hx
      gi_wp2
      refine ⟨rfl, hR.out.mono ?_⟩
      clear hR hy q0 q1
      rintro e W3 (⟨rfl, hJ3, hk3⟩ | ⟨rfl, hJx3⟩)
      · replace hJ3 := Aside0.mk hJ3
        have hb3 := Aside0.mk ((hbr.out.trans (hbn.out.mono hbr.out.size)).trans (hk3.below (n := w.heap.size) (Nat.le_trans hsw hbn.out.size) (fun k hk => by
          rcases Nat.lt_or_ge k w.heap.size with h | h
          · exact absurd (.inl h) hk
          · exact h)))
        have hB3 := Aside0.mk ((hk3.block Bl (Nat.lt_of_lt_of_le (blk_lt hBr.out) hbn.out.size) (fun h => h (.inr rfl))).trans (blk_below hBr.out hbn.out))
        clear hk3 hbn
        gi_wp2
        go_roundw
        case rel => exact ⟨j + 1, by go_num, by omega, ⟨by rw [htk.out]; exact hJ3.out⟩, hb3, hB3⟩
        case measure => simp [intOf]; omega
      · gi_wp2
        exact bodyPost_ret (results_none rfl _ _ _) rfl ⟨⟨_, rfl⟩, .inr ⟨_, hpre.out, hJx3⟩⟩
    · obtain rfl : j = l.length := by omega
      have hJf := hJr.out
      rw [List.take_length] at hJf
      replace hJf := Aside0.mk hJf
      gi_wp2
      go_end0
      exact ⟨⟨_, rfl⟩, .inl hJf.out⟩

/-! ### a range over firing.arcs -/
theorem range_arcs {n : Nat} {g : Operand} {ps : Array Tmp} {assign body : Code} {Q : Exit → Act → World → Prop} {a : Act} {w : World} (Bl : Nat) (A : Option Addr) (c : Nat) (l : List S70) (w0 : World)
    (hg : a.eval g = .func (.func 70) #[] #[.pointer (some ⟨Bl, 0, none⟩)]) (hA : Kd.C k70 w0 A l.length l) (hb : Below w0.heap.size w0 w) (hB : w.heap[Bl]? = some (.cells #[.slice A l.length c] 66 (0, 0))) (hps : ps.size = 2)
    (I : List S70 → World → Prop) (Ix : Code → List S70 → World → Prop)
    (hI : ∀ pre A B, I pre A → Chg (fun k => k = w.heap.size + 1) A B → I pre B) (hIx : ∀ c pre A B, Ix c pre A → Chg (fun k => k = w.heap.size + 1) A B → Ix c pre B)
    (h0 : ∀ r, I [] ((w.alloc (.deferred (some []))).alloc (.loop r)))
    (hab : ∃ a₁ : Value → Value → Act,
      (∀ (x y : Value) (W : World) (K : Act → World → Prop), Aside0 (K (a₁ x y) W) → assign.wpIn (Fence.wide.inRound (w.heap.size + 1)) 0 Try.prog (Exit.then K (fun _ _ _ => False)) { tmps := (ps.zip #[x, y]).foldl (fun t (p, v) => t.setIfInBounds p v) a.tmps, defers := [] } W) ∧
      (∀ (pre : List S70) (x : S70) (W : World), I pre W → (pre ++ [x]) <+: l → w.heap.size + 2 ≤ W.heap.size →
        body.wpIn (Fence.wide.inRound (w.heap.size + 1)) 0 Try.prog (itPost I Ix (fun k => ¬ ((k < w0.heap.size ∨ k = Bl) ∨ k = w.heap.size ∨ k = w.heap.size + 1)) (pre ++ [x]) W) (a₁ (.int .i64 x.f0) (.int .i64 x.f1)) W))
    (hdone : ∀ W, I l W → W.heap[w.heap.size]? = some (.deferred (some [])) → Q .normal { a with defers := { target := .collected w.heap.size, args := #[] } :: a.defers } W)
    (hstop : ∀ (c : Code) (pre : List S70) W, pre <+: l → Ix c pre W → W.heap[w.heap.size]? = some (.deferred (some [])) → c.wpIn Fence.wide n Try.prog Q { a with defers := { target := .collected w.heap.size, args := #[] } :: a.defers } W) :
    (Code.rangeFunc g ps assign body).wpIn Fence.wide n Try.prog Q a w := by
  obtain ⟨a₁, hassign, hbody⟩ := hab
  have hlB := blk_lt hB
  have hsz := hb.size
  refine rangeFunc_it (xs := l) (Elt := EltA) (priv := fun _ => False) (hold := fun k => k < w0.heap.size ∨ k = Bl) hg (enters_of Try.func70 (by kernel_rfl) rfl) (fun k h => h.elim) (fun h => by omega) (fun x vs A B h => by rw [h, hps]; rfl) (fun x vs A B C _ h _ _ => h) (fun r => ?_) I Ix
    (fun pre A B h hc => hI pre A B h (hc.mono fun k hk => hk.elim False.elim id)) (fun c pre A B h hc => hIx c pre A B h (hc.mono fun k hk => hk.elim False.elim id)) h0 (fun vs => a₁ (vs.getD 0 undef) (vs.getD 1 undef)) ?_ ?_ hdone hstop
  · exact arcs_it A c l w0 _ Bl _ hA ((hb.alloc hsz _).alloc (by simp; omega) _) (blk_alloc (blk_alloc hB _) _)
  · intro vs W K hvs hK
    obtain ⟨x, y, rfl⟩ : ∃ x y, vs = #[x, y] := by
      rw [hps] at hvs
      match vs, hvs with
      | ⟨[x, y]⟩, _ => exact ⟨x, y, rfl⟩
    exact hassign x y W K ⟨hK⟩
  · rintro pre x vs W0 W hi hc rfl hpre hWs
    exact hbody pre x W (hI pre W0 W hi (hc.mono fun k hk => hk.elim False.elim id)) hpre hWs

/-- a range over firing.arcs, the body's memory told by Held -/
theorem range_arcs_held {n : Nat} {g : Operand} {ps : Array Tmp} {assign body : Code} {Q : Exit → Act → World → Prop} {a : Act} {w : World} (Bl : Nat) (A : Option Addr) (c : Nat) (l : List S70) (w0 : World)
    (L : List S70 → List (Nat × Obj)) (Lx : List (Nat × Obj)) (P : List S70 → Prop) (X : Prop)
    (hA : Kd.C k70 w0 A l.length l) (hH : Held w0 ((Bl, .cells #[.slice A l.length c] 66 (0, 0)) :: L []) w) (hg : a.eval g = .func (.func 70) #[] #[.pointer (some ⟨Bl, 0, none⟩)]) (hps : ps.size = 2)
    (hks : ∀ pre, (L pre).map (·.1) = (L []).map (·.1)) (hxs : Lx.map (·.1) = (L []).map (·.1)) (hP : P [])
    (hab : ∃ a₁ : Value → Value → Act,
      (∀ (x y : Value) (W : World) (K : Act → World → Prop), Aside0 (K (a₁ x y) W) → assign.wpIn (Fence.wide.inRound (w.heap.size + 1)) 0 Try.prog (Exit.then K (fun _ _ _ => False)) { tmps := (ps.zip #[x, y]).foldl (fun t (p, v) => t.setIfInBounds p v) a.tmps, defers := [] } W) ∧
      (∀ (pre : List S70) (x : S70) (W : World) (Po : Exit → World → Prop), Held w0 (L pre) W → P pre → (pre ++ [x]) <+: l →
        Aside0 (∀ W', Chg (fun k => k ∈ (L []).map (·.1)) W W' → Held w0 (L (pre ++ [x])) W' → P (pre ++ [x]) → Po .normal W') → Aside0 (∀ W', Chg (fun k => k ∈ (L []).map (·.1)) W W' → Held w0 Lx W' → X → Po .ret W') →
        body.wpIn (Fence.wide.inRound (w.heap.size + 1)) 0 Try.prog (fun e _ W' => Po e W') (a₁ (.int .i64 x.f0) (.int .i64 x.f1)) W))
    (hdone : ∀ W, Held w0 ((w.heap.size, .deferred (some [])) :: L l) W → P l → Q .normal { a with defers := { target := .collected w.heap.size, args := #[] } :: a.defers } W)
    (hstop : ∀ W, Held w0 ((w.heap.size, .deferred (some [])) :: Lx) W → X → Code.ret.wpIn Fence.wide n Try.prog Q { a with defers := { target := .collected w.heap.size, args := #[] } :: a.defers } W) :
    (Code.rangeFunc g ps assign body).wpIn Fence.wide n Try.prog Q a w := by
  obtain ⟨a₁, hassign, hbody⟩ := hab
  have hH0 := hH.tail
  have hB := hH.blk 0 rfl
  have hsz := hH.size
  have hnd := hH.nd
  rw [List.map_cons, List.nodup_cons] at hnd
  have hlt : ∀ M : List (Nat × Obj), M.map (·.1) = (L []).map (·.1) → ∀ p ∈ M, p.1 < w.heap.size ∧ w0.heap.size ≤ p.1 ∧ p.1 ≠ Bl := fun M hM p hp => by
    have : p.1 ∈ M.map (·.1) := List.mem_map.2 ⟨p, hp, rfl⟩
    rw [hM] at this
    obtain ⟨q, hq, he⟩ := List.mem_map.1 this
    have h1 := hH0.lt q hq
    have h2 := hH0.lo q hq
    have he' : q.1 = p.1 := he
    refine ⟨by omega, by omega, fun hb => hnd.1 ?_⟩
    rw [← hM]; exact List.mem_map.2 ⟨p, hp, hb⟩
  have hmem : ∀ k, k ∈ (L []).map (·.1) → w0.heap.size ≤ k ∧ k ≠ Bl ∧ k < w.heap.size := fun k hk => by
    obtain ⟨q, hq, rfl⟩ := List.mem_map.1 hk
    obtain ⟨h1, h2, h3⟩ := hlt _ rfl q hq
    exact ⟨h2, h3, h1⟩
  have hadd : ∀ (M : List (Nat × Obj)) (W : World), M.map (·.1) = (L []).map (·.1) → Held w0 M W → W.heap[w.heap.size]? = some (.deferred (some [])) → Held w0 ((w.heap.size, .deferred (some [])) :: M) W := fun M W hM h hd => by
    refine ⟨h.bel, ?_, ?_, ?_⟩
    · intro p hp
      rcases List.mem_cons.1 hp with rfl | hp
      · exact hd
      · exact h.at_ p hp
    · intro p hp
      rcases List.mem_cons.1 hp with rfl | hp
      · exact hsz
      · exact h.lo p hp
    · rw [List.map_cons, List.nodup_cons]
      refine ⟨fun hm => ?_, h.nd⟩
      rw [hM] at hm
      have := (hmem _ hm).2.2
      simp at this
  refine range_arcs Bl A c l w0 hg hA hH.bel hB hps (fun pre W => Held w0 (L pre) W ∧ P pre) (fun c pre W => c = .ret ∧ Held w0 Lx W ∧ X)
    (fun pre A B h hc => ⟨h.1.chg hc (fun k hk => by omega) (fun p hp => by have := (hlt _ (hks pre) p hp).1; omega), h.2⟩)
    (fun c pre A B h hc => ⟨h.1, h.2.1.chg hc (fun k hk => by omega) (fun p hp => by have := (hlt _ hxs p hp).1; omega), h.2.2⟩)
    (fun r => ⟨(hH0.alloc _).alloc _, hP⟩) ⟨a₁, hassign, fun pre x W hi hpre hW => ?_⟩ (fun W h hd => hdone W (hadd _ _ (hks l) h.1 hd) h.2) (fun c pre W hpre h hd => by
      obtain ⟨rfl, h1, h2⟩ := h
      exact hstop W (hadd _ _ hxs h1 hd) h2)
  have hcv : ∀ W2, Chg (fun k => k ∈ (L []).map (·.1)) W W2 → Chg (fun k => ¬ ((k < w0.heap.size ∨ k = Bl) ∨ k = w.heap.size ∨ k = w.heap.size + 1)) W W2 := fun W2 hc => hc.mono fun k hk => by
    obtain ⟨h1, h2, h3⟩ := hmem k hk
    omega
  refine wpIn_mono (hbody pre x W (fun e W' => ∀ a2, itPost (fun pre W => Held w0 (L pre) W ∧ P pre) (fun c pre W => c = .ret ∧ Held w0 Lx W ∧ X) (fun k => ¬ ((k < w0.heap.size ∨ k = Bl) ∨ k = w.heap.size ∨ k = w.heap.size + 1)) (pre ++ [x]) W e a2 W') hi.1 hi.2 hpre ⟨fun W' hc h1 h2 a2 => ⟨⟨h1, h2⟩, hcv W' hc⟩⟩ ⟨fun W' hc h1 h2 a2 => ⟨⟨rfl, h1, h2⟩, hcv W' hc⟩⟩) ?_
  intro e a2 W2 h
  exact h a2

/-! ### firing.change -/
def chgSub (l : List S70) (m : List Int) : List Int := l.foldl (fun o a => o.set a.f0.toNat (wrap64 (rd o a.f0 - a.f1))) m
def chgAdd (l : List S70) (m : List Int) : List Int := l.foldl (fun o a => o.set a.f0.toNat (wrap64 (rd o a.f0 + a.f1))) m
theorem chgSub_len (l : List S70) : ∀ m : List Int, (chgSub l m).length = m.length := by
  induction l with
  | nil => intro m; rfl
  | cons a l ih => intro m; show (chgSub l (m.set _ _)).length = _; rw [ih]; simp
theorem chgAdd_len (l : List S70) : ∀ m : List Int, (chgAdd l m).length = m.length := by
  induction l with
  | nil => intro m; rfl
  | cons a l ih => intro m; show (chgAdd l (m.set _ _)).length = _; rw [ih]; simp
theorem chgSub_snoc (l : List S70) (a : S70) (m : List Int) : chgSub (l ++ [a]) m = (chgSub l m).set a.f0.toNat (wrap64 (rd (chgSub l m) a.f0 - a.f1)) := by simp [chgSub, List.foldl_append]
theorem chgAdd_snoc (l : List S70) (a : S70) (m : List Int) : chgAdd (l ++ [a]) m = (chgAdd l m).set a.f0.toNat (wrap64 (rd (chgAdd l m) a.f0 + a.f1)) := by simp [chgAdd, List.foldl_append]
def arcsIn (l : List S70) (n : Nat) : Prop := ∀ a ∈ l, 0 ≤ a.f0 ∧ a.f0 < (n : Int)
instance (l : List S70) (n : Nat) : Decidable (arcsIn l n) := by unfold arcsIn; infer_instance
theorem arcsIn_pre {l pre : List S70} {x : S70} {n : Nat} (h : arcsIn l n) (hp : pre ++ [x] <+: l) : 0 ≤ x.f0 ∧ x.f0 < (n : Int) := by
  obtain ⟨t, rfl⟩ := hp
  exact h x (by simp)
set_option maxRecDepth 100000 in
set_option maxHeartbeats 4000000 in
theorem change_in (s : ByteArray) (A1 : Option Addr) (c1 : Nat) (l1 : List S70) (A2 : Option Addr) (c2 : Nat) (l2 : List S70) (A3 : Option Addr) (n3 c3 : Nat) (prio : Int) (Am : Option Addr) (cm : Nat) (m : List Int) (w : World)
    (h1 : Kd.C k70 w A1 l1.length l1) (h2 : Kd.C k70 w A2 l2.length l2) (hm : Kd.C (Kd.int .i64) w Am m.length m) (i1 : arcsIn l1 m.length) (i2 : arcsIn l2 m.length) (hl : m.length ≤ 1000) :
    CallsIn Fence.wide 0 Try.prog 58 #[.agg #[.string s, .slice A1 l1.length c1, .slice A2 l2.length c2, .slice A3 n3 c3, .int .i64 prio], .slice Am m.length cm] w fun e w' =>
      ∃ v, e = .returned v ∧ Kd.R (Kd.int .i64) 3 w' w.heap.size (fun _ => True) v (chgAdd l2 (chgSub l1 m)) ∧ Below w.heap.size w w' := by
  obtain ⟨g1, g2, g3, g4⟩ := three_ w (.cells #[.string s, .slice A1 l1.length c1, .slice A2 l2.length c2, .slice A3 n3 c3, .int .i64 prio] 68) (.cells (madeCells #[.int .i64 0] m.length) 3) (.cells #[.slice (some ⟨w.heap.size + 1, 0, none⟩) m.length m.length] 26)
  have hb0 := below_three (Below.refl w.heap.size w) (Nat.le_refl _) (.cells #[.string s, .slice A1 l1.length c1, .slice A2 l2.length c2, .slice A3 n3 c3, .int .i64 prio] 68) (.cells (madeCells #[.int .i64 0] m.length) 3) (.cells #[.slice (some ⟨w.heap.size + 1, 0, none⟩) m.length m.length] 26)
  replace g2 := g2.trans (show _ = some (Obj.cells (nums .i64 (List.replicate m.length 0)).toArray 3 (0, 0)) by rw [made_nums])
  have hm0 := Aside0.mk (Kd.C_below hm hb0)
  replace g1 := Aside0.mk g1
  replace g2 := Aside0.mk g2
  replace g3 := Aside0.mk g3
  replace g4 := Aside0.mk g4
  replace hb0 := Aside0.mk hb0
  have hmk := print_make (P := Try.prog) 26 3 .i64 8 Try.underlying26 infoInt (by decide) m.length (by omega)
  refine callsIn_of_wp_marks Try.func58 rfl trivial ?_ rfl
  simp only [Try.ntmps58, List.size_toArray, List.length_cons, List.length_nil, Nat.reduceAdd, Nat.reduceSub, Array.replicate_succ, Array.replicate_zero, List.push_toArray, List.append_toArray, List.nil_append, List.cons_append]
  gi_wp2_with ((with_reducible refine copy_ints rfl (.tmp 13) (.tmp 14) rfl (w.heap.size + 1) (List.replicate m.length 0) m Am m.length m.length m.length cm rfl rfl (List.length_replicate ..).symm rfl (List.length_replicate ..).symm g2.out hm0.out ?_); intro w2 hg2 hc2 hs2; have hb2 := Aside0.mk (hc2.out.belowOf hb0.out (by rw [g4.out]; omega) (by omega)); have b1 := hc2.out.keep g1.out (by omega); have b3 := hc2.out.keep g3.out (by omega); have x1 := blk_cell b1 1; have x2 := blk_cell b1 2; have x3 := blk_cell b3 0; rw [g4.out] at hs2; replace b1 := Aside0.mk b1; replace b3 := Aside0.mk b3; replace hs2 := Aside0.mk hs2; clear g1 g2 g3 g4 hb0 hc2 hm0 hmk)
  refine ⟨trivial, rfl, (arcs_call _ _ _ _).mono ?_⟩
  rintro e w3 ⟨rfl, rfl⟩
  have k1 := blk_new w2 (.cells #[.slice A1 l1.length c1] 66)
  have hb3 := below_alloc hb2.out (.cells #[.slice A1 l1.length c1] 66)
  have q1 := blk_alloc b1.out (.cells #[.slice A1 l1.length c1] 66)
  have q3 := blk_alloc b3.out (.cells #[.slice A1 l1.length c1] 66)
  have qg := blk_alloc hg2.out (.cells #[.slice A1 l1.length c1] 66)
  clear b1 b3 hg2 hb2 x1 x2 x3
  have z1 := blk_cell q1 1
  gi_wp2
  refine range_arcs w2.heap.size A1 c1 l1 w rfl h1 hb3 k1 rfl
    (fun pre W => Below w.heap.size w W ∧ W.heap[w.heap.size]? = some (.cells #[.string s, .slice A1 l1.length c1, .slice A2 l2.length c2, .slice A3 n3 c3, .int .i64 prio] 68 (0, 0)) ∧ W.heap[w.heap.size + 1]? = some (.cells (nums .i64 (chgSub pre m)).toArray 3 (0, 0)) ∧ W.heap[w.heap.size + 1 + 1]? = some (.cells #[.slice (some ⟨w.heap.size + 1, 0, none⟩) m.length m.length] 26 (0, 0)))
    (fun _ _ _ => False) ?hI (fun _ _ _ _ h _ => h.elim) ?h0 ?hab ?done (fun _ _ _ _ h _ => h.elim)
  case hI =>
    rintro pre X Y ⟨a1, a2, a3, a4⟩ hc
    simp only [World.size_alloc] at hc
    have := hs2.out
    exact ⟨hc.belowOf a1 a1.size (by omega), hc.keep a2 (by omega), hc.keep a3 (by omega), hc.keep a4 (by omega)⟩
  case h0 =>
    intro r
    exact ⟨below_alloc (below_alloc hb3 _) _, blk_alloc (blk_alloc q1 _) _, blk_alloc (blk_alloc qg _) _, blk_alloc (blk_alloc q3 _) _⟩
  case hab =>
   apply Exists.intro
   refine ⟨?assign, ?body⟩
   case assign =>
    intro x y W K hK
    gi_wp2
    exact hK.out
   case body =>
    rintro pre ⟨f0, f1⟩ W ⟨a1, a2, a3, a4⟩ hpre hWs
    obtain ⟨p0, p1⟩ := arcsIn_pre i1 hpre
    simp only at p0 p1
    obtain ⟨p, rfl⟩ := Int.eq_ofNat_of_zero_le p0
    have hp : p < (chgSub pre m).length := by rw [chgSub_len]; omega
    have hc := nums_cell a3 p hp
    have hf := blk_frozen a3 p
    have hx := blk_cell a4 0
    have hset := nums_set a3 p (wrap64 ((chgSub pre m).getD p 0 - f1))
    rw [show (chgSub pre m).getD p 0 = rd (chgSub pre m) (p : Int) by simp [rd]] at hc hset
    obtain ⟨y, hy⟩ : ∃ y, rd (chgSub pre m) (p : Int) = y := ⟨_, rfl⟩
    rw [hy] at hc hset
    have hp1 : (p : Int) < (m.length : Int) := p1
    have hp2 : p < m.length := by omega
    have hn : (Below w.heap.size w (W.setCell ⟨w.heap.size + 1, p, none⟩ (.int .i64 (wrap64 (y - f1)))) ∧ (W.setCell ⟨w.heap.size + 1, p, none⟩ (.int .i64 (wrap64 (y - f1)))).heap[w.heap.size]? = some (.cells #[.string s, .slice A1 l1.length c1, .slice A2 l2.length c2, .slice A3 n3 c3, .int .i64 prio] 68 (0, 0)) ∧ (W.setCell ⟨w.heap.size + 1, p, none⟩ (.int .i64 (wrap64 (y - f1)))).heap[w.heap.size + 1]? = some (.cells (nums .i64 (chgSub (pre ++ [⟨(p : Int), f1⟩]) m)).toArray 3 (0, 0)) ∧ (W.setCell ⟨w.heap.size + 1, p, none⟩ (.int .i64 (wrap64 (y - f1)))).heap[w.heap.size + 1 + 1]? = some (.cells #[.slice (some ⟨w.heap.size + 1, 0, none⟩) m.length m.length] 26 (0, 0))) := by
      refine ⟨a1.setCell (by show w.heap.size ≤ w.heap.size + 1; omega) _, blk_far a2 (by show w.heap.size ≠ w.heap.size + 1; omega) _, ?_, blk_far a4 (by show w.heap.size + 1 + 1 ≠ w.heap.size + 1; omega) _⟩
      rw [chgSub_snoc, hset, ← hy, Int.toNat_natCast]
    replace hn := Aside0.mk hn
    replace a1 := Aside0.mk a1
    replace a2 := Aside0.mk a2
    replace a3 := Aside0.mk a3
    replace a4 := Aside0.mk a4
    clear hset hy hp p0 p1
    gi_wp2
    refine ⟨hn.out, (Chg.refl _ W).setCell (p := ⟨w.heap.size + 1, p, none⟩) ?_ _⟩
    have := hs2.out
    simp only [World.size_alloc]
    omega
  case done =>
    rintro W ⟨a1, a2, a3, a4⟩ hK
    have hWl := Aside0.mk (blk_lt hK)
    simp only [World.size_alloc] at hK hWl
    have x2 := blk_cell a2 2
    replace a1 := Aside0.mk a1
    replace a2 := Aside0.mk a2
    replace a3 := Aside0.mk a3
    replace a4 := Aside0.mk a4
    replace hK := Aside0.mk hK
    clear hb3 k1 q1 q3 qg z1
    gi_wp2
    refine ⟨trivial, rfl, (arcs_call _ _ _ _).mono ?_⟩
    rintro e w3 ⟨rfl, rfl⟩
    have k1 := blk_new W (.cells #[.slice A2 l2.length c2] 66)
    have hb3 := below_alloc a1.out (.cells #[.slice A2 l2.length c2] 66)
    have q1 := blk_alloc a2.out (.cells #[.slice A2 l2.length c2] 66)
    have q3 := blk_alloc a4.out (.cells #[.slice A2 l2.length c2] 66)
    have qg := blk_alloc a3.out (.cells #[.slice A2 l2.length c2] 66)
    have qd := blk_alloc hK.out (.cells #[.slice A2 l2.length c2] 66)
    gi_wp2
    refine range_arcs W.heap.size A2 c2 l2 w rfl h2 hb3 k1 rfl
      (fun pre W => Below w.heap.size w W ∧ W.heap[w.heap.size]? = some (.cells #[.string s, .slice A1 l1.length c1, .slice A2 l2.length c2, .slice A3 n3 c3, .int .i64 prio] 68 (0, 0)) ∧ W.heap[w.heap.size + 1]? = some (.cells (nums .i64 (chgAdd pre (chgSub l1 m))).toArray 3 (0, 0)) ∧ W.heap[w.heap.size + 1 + 1]? = some (.cells #[.slice (some ⟨w.heap.size + 1, 0, none⟩) m.length m.length] 26 (0, 0)) ∧ W.heap[w2.heap.size + 1]? = some (.deferred (some [])))
      (fun _ _ _ => False) ?hI (fun _ _ _ _ h _ => h.elim) ?h0 ?hab ?done (fun _ _ _ _ h _ => h.elim)
    case hI =>
      rintro pre X Y ⟨a1, a2, a3, a4, a5⟩ hc
      simp only [World.size_alloc] at hc
      have := hs2.out
      have := hWl.out
      exact ⟨hc.belowOf a1 a1.size (by omega), hc.keep a2 (by omega), hc.keep a3 (by omega), hc.keep a4 (by omega), hc.keep a5 (by omega)⟩
    case h0 =>
      intro r
      exact ⟨below_alloc (below_alloc hb3 _) _, blk_alloc (blk_alloc q1 _) _, blk_alloc (blk_alloc qg _) _, blk_alloc (blk_alloc q3 _) _, blk_alloc (blk_alloc qd _) _⟩
    case hab =>
     clear a1 a2 a3 a4 hK x2 k1 hb3 q1 q3 qg qd
     apply Exists.intro
     refine ⟨?assign, ?body⟩
     case assign =>
      intro x y W K hK
      gi_wp2
      exact hK.out
     case body =>
      rintro pre ⟨f0, f1⟩ W ⟨a1, a2, a3, a4, a5⟩ hpre hWs
      obtain ⟨p0, p1⟩ := arcsIn_pre i2 hpre
      simp only at p0 p1
      obtain ⟨p, rfl⟩ := Int.eq_ofNat_of_zero_le p0
      have hp : p < (chgAdd pre (chgSub l1 m)).length := by rw [chgAdd_len, chgSub_len]; omega
      have hc := nums_cell a3 p hp
      have hf := blk_frozen a3 p
      have hx := blk_cell a4 0
      have hset := nums_set a3 p (wrap64 ((chgAdd pre (chgSub l1 m)).getD p 0 + f1))
      rw [show (chgAdd pre (chgSub l1 m)).getD p 0 = rd (chgAdd pre (chgSub l1 m)) (p : Int) by simp [rd]] at hc hset
      obtain ⟨y, hy⟩ : ∃ y, rd (chgAdd pre (chgSub l1 m)) (p : Int) = y := ⟨_, rfl⟩
      rw [hy] at hc hset
      have hp1 : (p : Int) < (m.length : Int) := p1
      have hp2 : p < m.length := by omega
      have hn : (Below w.heap.size w (W.setCell ⟨w.heap.size + 1, p, none⟩ (.int .i64 (wrap64 (y + f1)))) ∧ (W.setCell ⟨w.heap.size + 1, p, none⟩ (.int .i64 (wrap64 (y + f1)))).heap[w.heap.size]? = some (.cells #[.string s, .slice A1 l1.length c1, .slice A2 l2.length c2, .slice A3 n3 c3, .int .i64 prio] 68 (0, 0)) ∧ (W.setCell ⟨w.heap.size + 1, p, none⟩ (.int .i64 (wrap64 (y + f1)))).heap[w.heap.size + 1]? = some (.cells (nums .i64 (chgAdd (pre ++ [⟨(p : Int), f1⟩]) (chgSub l1 m))).toArray 3 (0, 0)) ∧ (W.setCell ⟨w.heap.size + 1, p, none⟩ (.int .i64 (wrap64 (y + f1)))).heap[w.heap.size + 1 + 1]? = some (.cells #[.slice (some ⟨w.heap.size + 1, 0, none⟩) m.length m.length] 26 (0, 0)) ∧ (W.setCell ⟨w.heap.size + 1, p, none⟩ (.int .i64 (wrap64 (y + f1)))).heap[w2.heap.size + 1]? = some (.deferred (some []))) := by
        refine ⟨a1.setCell (by show w.heap.size ≤ w.heap.size + 1; omega) _, blk_far a2 (by show w.heap.size ≠ w.heap.size + 1; omega) _, ?_, blk_far a4 (by show w.heap.size + 1 + 1 ≠ w.heap.size + 1; omega) _, (Below.heap_setCell _ _ _ _ (by have := hs2.out; show w2.heap.size + 1 ≠ w.heap.size + 1; omega)).trans a5⟩
        rw [chgAdd_snoc, hset, ← hy, Int.toNat_natCast]
      replace hn := Aside0.mk hn
      replace a1 := Aside0.mk a1
      replace a2 := Aside0.mk a2
      replace a3 := Aside0.mk a3
      replace a4 := Aside0.mk a4
      replace a5 := Aside0.mk a5
      clear hset hy hp p0 p1
      gi_wp2
      refine ⟨hn.out, (Chg.refl _ W).setCell (p := ⟨w.heap.size + 1, p, none⟩) ?_ _⟩
      have := hs2.out
      have := hWl.out
      simp only [World.size_alloc]
      omega
    case done =>
      clear a1 a2 a3 a4 hK x2 k1 hb3 q1 q3 qg qd
      rintro W3 ⟨a1, a2, a3, a4, a5⟩ hK
      have hWl2 := Aside0.mk (blk_lt hK)
      simp only [World.size_alloc] at hK hWl2
      have x4 := blk_cell a4 0
      replace a1 := Aside0.mk a1
      replace a2 := Aside0.mk a2
      replace a3 := Aside0.mk a3
      replace a4 := Aside0.mk a4
      replace a5 := Aside0.mk a5
      replace hK := Aside0.mk hK
      gi_wp2
      have hlen : (chgAdd l2 (chgSub l1 m)).length = m.length := by rw [chgAdd_len, chgSub_len]
      have e5 : w2.heap.size + 1 ≠ W.heap.size + 1 := by have := hWl.out; omega
      have hK2 : (W3.putObj (W.heap.size + 1) (.deferred none)).heap[w2.heap.size + 1]? = some (.deferred (some [])) := (World.putObj_heap_other e5).trans a5.out
      have g3 := put_keep (put_keep a3.out hK.out (.deferred none)) hK2 (.deferred none)
      have hrow := row_fresh (B := w.heap.size) (g := w.heap.size + 1) (by omega) g3 (by rw [hlen]; omega)
      rw [hlen] at hrow
      simp only [World.size_alloc]
      refine ⟨by simp, .inl ⟨_, _, rfl, run_takeDeferred hK.out, ⟨by simp, .inl ⟨_, _, rfl, run_takeDeferred hK2, ?_⟩⟩⟩⟩
      have hs := hs2.out
      have hs' := hWl.out
      exact ⟨_, results_tmp (t := 4) rfl _ _ _, _, rfl, hrow, put_below (put_below a1.out (by omega) _) (by omega) _⟩
def firing_change.f (a0_0 : ByteArray) (l0_1 : List (S70)) (l0_2 : List (S70)) (l0_3 : List (S70)) (a0_4 : Int) (l1 : List Int) : Option (List Int) :=
  if arcsIn l0_1 l1.length ∧ arcsIn l0_2 l1.length ∧ l1.length ≤ 1000 then some (chgAdd l0_2 (chgSub l0_1 l1)) else none
theorem firing_change.calls (a0_0 : ByteArray) (A0_1 : Option Addr) (c0_1 : Nat) (l0_1 : List (S70)) (A0_2 : Option Addr) (c0_2 : Nat) (l0_2 : List (S70)) (A0_3 : Option Addr) (c0_3 : Nat) (l0_3 : List (S70)) (a0_4 : Int) (A1 : Option Addr) (c1 : Nat) (l1 : List Int) (r : List Int) (w : World) (hr0_1 : Kd.C k70 w A0_1 l0_1.length l0_1) (hc0_1 : l0_1.length ≤ c0_1) (hr0_2 : Kd.C k70 w A0_2 l0_2.length l0_2) (hc0_2 : l0_2.length ≤ c0_2) (hr0_3 : Kd.C k70 w A0_3 l0_3.length l0_3) (hc0_3 : l0_3.length ≤ c0_3) (hr1 : Kd.C (Kd.int .i64) w A1 l1.length l1) (hc1 : l1.length ≤ c1) (h : firing_change.f a0_0 l0_1 l0_2 l0_3 a0_4 l1 = some r) :
    Calls Try.prog 58 #[.agg #[.string a0_0, .slice A0_1 l0_1.length c0_1, .slice A0_2 l0_2.length c0_2, .slice A0_3 l0_3.length c0_3, .int .i64 a0_4], .slice A1 l1.length c1] w fun e w' => ∃ v0_ : Value, e = .returned (v0_) ∧ Kd.R (Kd.int .i64) 3 w' w.heap.size (fun _ => True) v0_ r ∧ Below w.heap.size w w' := by
  rw [firing_change.f] at h
  by_cases hc : arcsIn l0_1 l1.length ∧ arcsIn l0_2 l1.length ∧ l1.length ≤ 1000
  · rw [if_pos hc] at h
    injection h with h
    subst h
    exact (callsIn_wide (n := 0)).1 (change_in a0_0 A0_1 c0_1 l0_1 A0_2 c0_2 l0_2 A0_3 _ c0_3 a0_4 A1 c1 l1 w hr0_1 hr0_2 hr1 hc.1 hc.2.1 hc.2.2)
  · rw [if_neg hc] at h; simp at h

/-! ### firing.ready -/
def rdyPre (m : List Int) (a : S70) : Bool := !decide (rd m a.f0 < a.f1)
def rdyInh (m : List Int) (a : S70) : Bool := !decide (rd m a.f0 ≥ a.f1)
def capOk (ps : List S65) (ks : List Int) (i : Nat) : Bool := !(decide ((rd_T65 ps (i : Int)).f2 ≠ 0) && decide (rd ks (i : Int) > (rd_T65 ps (i : Int)).f2))
def readyB (ps : List S65) (pre post inh : List S70) (m : List Int) : Bool :=
  pre.all (rdyPre m) && inh.all (rdyInh m) && (List.range m.length).all (capOk ps (chgAdd post (chgSub pre m)))
def rdH (b : Nat) (nm : ByteArray) (A1 : Option Addr) (n1 c1 : Nat) (A2 : Option Addr) (n2 c2 : Nat) (Am : Option Addr) (nm' cm : Nat) (s : ByteArray) (B1 : Option Addr) (p1 e1 : Nat) (B2 : Option Addr) (p2 e2 : Nat) (B3 : Option Addr) (p3 e3 : Nat) (prio : Int) : List (Nat × Obj) :=
  [(b + 1 + 1 + 1, .cells #[.bool false] 4 (0, 0)), (b + 1 + 1, .cells #[.string s, .slice B1 p1 e1, .slice B2 p2 e2, .slice B3 p3 e3, .int .i64 prio] 68 (0, 0)),
   (b + 1, .cells #[.slice Am nm' cm] 26 (0, 0)), (b, .cells #[.string nm, .slice A1 n1 c1, .slice A2 n2 c2] 25 (0, 0))]
set_option maxRecDepth 100000 in
set_option maxHeartbeats 4000000 in
theorem ready_in (nm : ByteArray) (A1 : Option Addr) (c1 : Nat) (ps : List S65) (A2 : Option Addr) (n2 c2 : Nat) (Am : Option Addr) (cm : Nat) (m : List Int) (s : ByteArray) (B1 : Option Addr) (e1 : Nat) (l1 : List S70) (B2 : Option Addr) (e2 : Nat) (l2 : List S70) (B3 : Option Addr) (e3 : Nat) (l3 : List S70) (prio : Int) (w : World)
    (hp : Kd.C k65 w A1 ps.length ps) (hm : Kd.C (Kd.int .i64) w Am m.length m) (hcm : m.length ≤ cm) (h1 : Kd.C k70 w B1 l1.length l1) (k1 : l1.length ≤ e1) (h2 : Kd.C k70 w B2 l2.length l2) (k2 : l2.length ≤ e2) (h3 : Kd.C k70 w B3 l3.length l3) (k3 : l3.length ≤ e3)
    (i1 : arcsIn l1 m.length) (i2 : arcsIn l2 m.length) (i3 : arcsIn l3 m.length) (hl : m.length ≤ 1000) (hps : m.length ≤ ps.length) :
    CallsIn Fence.wide 0 Try.prog 65 #[.agg #[.string nm, .slice A1 ps.length c1, .slice A2 n2 c2], .slice Am m.length cm, .agg #[.string s, .slice B1 l1.length e1, .slice B2 l2.length e2, .slice B3 l3.length e3, .int .i64 prio]] w fun e w' =>
      e = .returned (.bool (readyB ps l1 l2 l3 m)) ∧ Below w.heap.size w w' := by
  have H0 := ((((Held.refl w).push (.cells #[.string nm, .slice A1 ps.length c1, .slice A2 n2 c2] 25)).push (.cells #[.slice Am m.length cm] 26)).push (.cells #[.string s, .slice B1 l1.length e1, .slice B2 l2.length e2, .slice B3 l3.length e3, .int .i64 prio] 68)).push (.cells #[.bool false] 4)
  have H1 := H0.push (.cells #[.slice B1 l1.length e1] 66)
  have hz0 := H0.bel.size
  simp only [World.size_alloc] at H0 H1
  replace H0 := Aside0.mk H0
  replace H1 := Aside0.mk H1
  refine callsIn_of_wp_marks Try.func65 rfl trivial ?_ rfl
  simp only [Try.ntmps65, List.size_toArray, List.length_cons, List.length_nil, Nat.reduceAdd, Nat.reduceSub, Array.replicate_succ, Array.replicate_zero, List.push_toArray, List.append_toArray, List.nil_append, List.cons_append]
  gi_wp2
  refine ⟨trivial, rfl, (arcs_call _ _ _ _).mono ?_⟩
  rintro e w3 ⟨rfl, rfl⟩
  gi_wp2
  refine range_arcs_held (w.heap.size + 1 + 1 + 1 + 1) B1 e1 l1 w
    (fun _ => rdH w.heap.size nm A1 ps.length c1 A2 n2 c2 Am m.length cm s B1 l1.length e1 B2 l2.length e2 B3 l3.length e3 prio) (rdH w.heap.size nm A1 ps.length c1 A2 n2 c2 Am m.length cm s B1 l1.length e1 B2 l2.length e2 B3 l3.length e3 prio)
    (fun pre => pre.all (rdyPre m) = true) (l1.all (rdyPre m) = false) h1 H1.out rfl rfl (fun _ => rfl) rfl rfl ?hab ?done ?stop
  case hab =>
   apply Exists.intro
   refine ⟨?assign, ?body⟩
   case assign =>
    intro x y W K hK
    gi_wp2
    exact hK.out
   case body =>
    rintro pre ⟨f0, f1⟩ W Po hH hP hpre hn hx
    obtain ⟨p0, p1⟩ := arcsIn_pre i1 hpre
    simp only at p0 p1
    obtain ⟨p, rfl⟩ := Int.eq_ofNat_of_zero_le p0
    obtain ⟨ad, hAm, hc⟩ := int_at (Kd.C_below hm hH.bel) p (by omega)
    subst hAm
    rw [show m.getD p 0 = rd m (p : Int) by simp [rd]] at hc
    have x4 := hH.cell 2 0 rfl rfl
    have x6 := hH.cell 0 0 rfl rfl
    have f6 := hH.free 0 0 rfl
    have hset := Aside0.mk (hH.set 0 0 rfl (.bool false))
    have hsetC := Aside0.mk ((Chg.refl (fun k => k ∈ (rdH w.heap.size nm A1 ps.length c1 A2 n2 c2 (some ad) m.length cm s B1 l1.length e1 B2 l2.length e2 B3 l3.length e3 prio).map (·.1)) W).setCell (p := ⟨w.heap.size + 1 + 1 + 1, 0, none⟩) (by simp [rdH]) (.bool false))
    have hp1 : (p : Int) < (m.length : Int) := p1
    have hp2 : p < m.length := by omega
    obtain ⟨y, hy⟩ : ∃ y, rd m (p : Int) = y := ⟨_, rfl⟩
    rw [hy] at hc
    replace hH := Aside0.mk hH
    replace hP := Aside0.mk hP
    by_cases hlt : y < f1
    · have d1 : decide (y < f1) = true := decide_eq_true hlt
      gi_wp2
      refine hx.out _ hsetC.out hset.out ?_
      obtain ⟨t, rfl⟩ := hpre
      simp [List.all_append, rdyPre, hy, hlt]
    · have d1 : decide (y < f1) = false := decide_eq_false hlt
      gi_wp2
      refine hn.out _ (Chg.refl _ _) hH.out ?_
      rw [List.all_append, hP.out]
      simp [rdyPre, hy, hlt]
  case stop =>
    intro W hH hX
    have hr : readyB ps l1 l2 l3 m = false := by simp [readyB, hX]
    have hH' := Aside0.mk hH
    have hD := hH.blk 0 rfl
    simp only [World.size_alloc] at hD
    have H2 := hH.put 0 rfl (.deferred none)
    simp only [World.size_alloc] at H2
    have x6 := H2.cell 1 0 rfl rfl
    replace H2 := Aside0.mk H2
    replace hD := Aside0.mk hD
    clear hX hH
    gi_wp2
    simp only [World.size_alloc]
    refine ⟨by simp, .inl ⟨_, _, rfl, run_takeDeferred hD.out, ⟨.bool false, ?_, by rw [hr], H2.out.bel⟩⟩⟩
    simp [results, Try.f65, go_sem, x6]
  case done =>
    intro W hH hP1
    have H1 := hH.push (.cells #[.slice B3 l3.length e3] 66)
    simp only [World.size_alloc] at H1 hH
    have x3 := hH.cell 3 0 rfl rfl
    have x53 := hH.cell 2 3 rfl rfl
    replace H1 := Aside0.mk H1
    replace hH := Aside0.mk hH
    replace hP1 := Aside0.mk hP1
    clear H0
    gi_wp2
    refine ⟨trivial, rfl, (arcs_call _ _ _ _).mono ?_⟩
    rintro e w3 ⟨rfl, rfl⟩
    gi_wp2
    refine range_arcs_held W.heap.size B3 e3 l3 w
      (fun _ => (w.heap.size + 1 + 1 + 1 + 1 + 1, .deferred (some [])) :: rdH w.heap.size nm A1 ps.length c1 A2 n2 c2 Am m.length cm s B1 l1.length e1 B2 l2.length e2 B3 l3.length e3 prio) ((w.heap.size + 1 + 1 + 1 + 1 + 1, .deferred (some [])) :: rdH w.heap.size nm A1 ps.length c1 A2 n2 c2 Am m.length cm s B1 l1.length e1 B2 l2.length e2 B3 l3.length e3 prio)
      (fun pre => pre.all (rdyInh m) = true) (l3.all (rdyInh m) = false) h3 H1.out rfl rfl (fun _ => rfl) rfl rfl ?hab ?done ?stop
    case hab =>
     clear H1 hH x3 x53
     apply Exists.intro
     refine ⟨?assign, ?body⟩
     case assign =>
      intro x y W K hK
      gi_wp2
      exact hK.out
     case body =>
      rintro pre ⟨f0, f1⟩ W Po hH hP hpre hn hx
      obtain ⟨p0, p1⟩ := arcsIn_pre i3 hpre
      simp only at p0 p1
      obtain ⟨p, rfl⟩ := Int.eq_ofNat_of_zero_le p0
      obtain ⟨ad, hAm, hc⟩ := int_at (Kd.C_below hm hH.bel) p (by omega)
      subst hAm
      rw [show m.getD p 0 = rd m (p : Int) by simp [rd]] at hc
      have x4 := hH.cell 3 0 rfl rfl
      have x6 := hH.cell 1 0 rfl rfl
      have f6 := hH.free 1 0 rfl
      have hset := Aside0.mk (hH.set 1 0 rfl (.bool false))
      have hsetC := Aside0.mk ((Chg.refl (fun k => k ∈ ((w.heap.size + 1 + 1 + 1 + 1 + 1, Obj.deferred (some [])) :: rdH w.heap.size nm A1 ps.length c1 A2 n2 c2 (some ad) m.length cm s B1 l1.length e1 B2 l2.length e2 B3 l3.length e3 prio).map (·.1)) W).setCell (p := ⟨w.heap.size + 1 + 1 + 1, 0, none⟩) (by simp [rdH]) (.bool false))
      have hp1 : (p : Int) < (m.length : Int) := p1
      have hp2 : p < m.length := by omega
      obtain ⟨y, hy⟩ : ∃ y, rd m (p : Int) = y := ⟨_, rfl⟩
      rw [hy] at hc
      replace hH := Aside0.mk hH
      replace hP := Aside0.mk hP
      by_cases hlt : y ≥ f1
      · have d1 : decide (y ≥ f1) = true := decide_eq_true hlt
        have d2 : decide (f1 ≤ y) = true := decide_eq_true hlt
        gi_wp2
        refine hx.out _ hsetC.out hset.out ?_
        obtain ⟨t, rfl⟩ := hpre
        have : rdyInh m ⟨p, f1⟩ = false := by simp only [rdyInh, hy, d1]; rfl
        simp only [List.all_append, List.all_cons, this, Bool.false_and, Bool.and_false]
      · have d1 : decide (y ≥ f1) = false := decide_eq_false hlt
        have d2 : decide (f1 ≤ y) = false := decide_eq_false hlt
        gi_wp2
        refine hn.out _ (Chg.refl _ _) hH.out ?_
        have : rdyInh m ⟨p, f1⟩ = true := by simp only [rdyInh, hy, d1]; rfl
        rw [List.all_append, hP.out, List.all_cons, this]; rfl
    case stop =>
      intro W3 hH hX
      have hr : readyB ps l1 l2 l3 m = false := by simp [readyB, hX]
      have hD := hH.blk 0 rfl
      have H2 := hH.put 0 rfl (.deferred none)
      simp only [World.size_alloc] at hD H2
      have hD2 := H2.blk 1 rfl
      have H3 := H2.put 1 rfl (.deferred none)
      have x6 := H3.cell 2 0 rfl rfl
      replace H3 := Aside0.mk H3
      replace hD := Aside0.mk hD
      replace hD2 := Aside0.mk hD2
      clear hX hH H2
      gi_wp2
      simp only [World.size_alloc]
      refine ⟨by simp, .inl ⟨_, _, rfl, run_takeDeferred hD.out, ⟨by simp, .inl ⟨_, _, rfl, run_takeDeferred hD2.out, ⟨.bool false, ?_, by rw [hr], H3.out.bel⟩⟩⟩⟩⟩
      simp [results, Try.f65, go_sem, x6]
    case done =>
      intro W3 hH hP3
      simp only [World.size_alloc] at hH
      have t0 := hH.cell 3 0 rfl rfl
      have t1 := hH.cell 3 1 rfl rfl
      have t2 := hH.cell 3 2 rfl rfl
      have t3 := hH.cell 3 3 rfl rfl
      have t4 := hH.cell 3 4 rfl rfl
      have m0 := hH.cell 4 0 rfl rfl
      have hch := Aside0.mk (change_in s B1 e1 l1 B2 e2 l2 B3 l3.length e3 prio Am cm m W3 (Kd.C_below h1 hH.bel) (Kd.C_below h2 hH.bel) (Kd.C_below hm hH.bel) i1 i2 hl)
      replace hH := Aside0.mk hH
      replace hP3 := Aside0.mk hP3
      clear H1 x3 x53
      gi_wp2
      simp only [World.size_alloc]
      refine ⟨trivial, rfl, hch.out.mono ?_⟩
      rintro e W4 ⟨v, rfl, hR, hb4⟩
      have hlk : (chgAdd l2 (chgSub l1 m)).length = m.length := by rw [chgAdd_len, chgSub_len]
      obtain ⟨ks, hks⟩ : ∃ ks, chgAdd l2 (chgSub l1 m) = ks := ⟨_, rfl⟩
      rw [hks] at hR hlk
      obtain ⟨A4, c4, rfl, hc4, hC⟩ := Kd.Q_reads (Kd.Q_of_R hR)
      rw [hlk] at hC
      have H4 := hH.out.below hb4
      have y3 := H4.cell 5 1 rfl rfl
      have z6 := H4.cell 2 0 rfl rfl
      have g6 := H4.free 2 0 rfl
      have hpl := Kd.C_below hp H4.bel
      clear t0 t1 t2 t3 t4 m0 hch hb4 hR
      replace hks := Aside0.mk hks
      rw [hlk] at hc4 ⊢
      replace hlk := Aside0.mk hlk
      replace H4 := Aside0.mk H4
      replace hC := Aside0.mk hC
      replace hpl := Aside0.mk hpl
      gi_wp2
      gi_loopw [40] (fun i wr => ∃ j : Nat, wr = W4 ∧ j ≤ m.length ∧ i = .int .i64 j ∧ Aside0 (∀ t, t < j → capOk ps ks t = true)) (fun i _ => m.length - (intOf i).toNat)
      case atStart => exact ⟨0, rfl, Nat.zero_le _, rfl, ⟨fun t ht => by omega⟩⟩
      case round =>
        obtain ⟨j, rfl, hj, rfl, hno⟩ := hrel
        by_cases hlt : j < m.length
        · obtain ⟨ad, hA4, hc⟩ := int_at hC.out j hlt
          subst hA4
          obtain ⟨ap, hAp, q0, q1, q2⟩ := at_T65 hpl.out (j : Int) (by omega) (by omega)
          subst hAp
          simp only [Int.toNat_natCast] at q0 q1 q2
          have hcap : capOk ps ks j = !(decide ((rd_T65 ps (j : Int)).f2 ≠ 0) && decide (rd ks (j : Int) > (rd_T65 ps (j : Int)).f2)) := rfl
          rw [show ks.getD j 0 = rd ks (j : Int) by simp [rd]] at hc
          obtain ⟨k, hk⟩ : ∃ k, rd ks (j : Int) = k := ⟨_, rfl⟩
          obtain ⟨lim, hlim⟩ : ∃ lim, (rd_T65 ps (j : Int)).f2 = lim := ⟨_, rfl⟩
          rw [hk, hlim] at hcap
          rw [hk] at hc
          rw [hlim] at q2
          clear q0 q1 hk hlim
          have hjp : j < ps.length := by omega
          have stepx : Aside0 (capOk ps ks j = true → ∀ t, t < j + 1 → capOk ps ks t = true) := ⟨fun h t ht => by
            rcases Nat.lt_or_ge t j with h2 | h2
            · exact hno.out t h2
            · have : t = j := by omega
              rw [this]; exact h⟩
          replace hcap := Aside0.mk hcap
          by_cases hz : lim = 0
          · have b1 : (lim != (0 : Int)) = false := by simp [hz]
            have hok : capOk ps ks j = true := by rw [hcap.out]; simp [hz]
            replace hok := Aside0.mk hok
            clear hz
            gi_wp2
            go_roundw
            case rel => exact ⟨j + 1, by trivial, by omega, by go_num, ⟨stepx.out hok.out⟩⟩
            case measure => simp [intOf]; omega
          · have b1 : (lim != (0 : Int)) = true := by simp [hz]
            by_cases hg : k > lim
            · have d1 : decide (lim < k) = true := decide_eq_true hg
              have d2 : decide (k > lim) = true := decide_eq_true hg
              have hok : capOk ps ks j = false := by rw [hcap.out]; simp [hz, hg]
              have hr : readyB ps l1 l2 l3 m = false := by
                have : (List.range m.length).all (capOk ps ks) = false := by rw [List.all_eq_false]; exact ⟨j, by simpa using hlt, by simp [hok]⟩
                rw [readyB, hks.out, this]; simp
              have H5 := H4.out.set 2 0 rfl (.bool false)
              have hD := H5.blk 0 rfl
              have H6 := H5.put 0 rfl (.deferred none)
              try simp only [World.size_alloc] at hD H6
              have hD2 := H6.blk 1 rfl
              replace H6 := H6.put 1 rfl (.deferred none)
              have x6 := H6.cell 2 0 rfl rfl
              replace H6 := Aside0.mk H6
              replace hD := Aside0.mk hD
              replace hD2 := Aside0.mk hD2
              clear H5
              gi_wp2
              try simp only [World.size_alloc]
              refine ⟨by simp, .inl ⟨_, _, rfl, run_takeDeferred hD.out, ⟨by simp, .inl ⟨_, _, rfl, run_takeDeferred hD2.out, ⟨.bool false, ?_, by rw [hr], H6.out.bel⟩⟩⟩⟩⟩
              simp [results, Try.f65, go_sem, x6]
            · have d1 : decide (lim < k) = false := decide_eq_false hg
              have d2 : decide (k > lim) = false := decide_eq_false hg
              have hok : capOk ps ks j = true := by rw [hcap.out]; simp [hg]
              replace hok := Aside0.mk hok
              gi_wp2
              go_roundw
              case rel => exact ⟨j + 1, by trivial, by omega, by go_num, ⟨stepx.out hok.out⟩⟩
              case measure => simp [intOf]; omega
        · have hr : readyB ps l1 l2 l3 m = true := by
            have : (List.range m.length).all (capOk ps ks) = true := by
              rw [List.all_eq_true]; intro t ht; exact hno.out t (by have := List.mem_range.1 ht; omega)
            rw [readyB, hks.out, this, hP1.out, hP3.out]; rfl
          have H5 := H4.out.set 2 0 rfl (.bool true)
          have hD := H5.blk 0 rfl
          have H6 := H5.put 0 rfl (.deferred none)
          try simp only [World.size_alloc] at hD H6
          have hD2 := H6.blk 1 rfl
          replace H6 := H6.put 1 rfl (.deferred none)
          have x6 := H6.cell 2 0 rfl rfl
          replace H6 := Aside0.mk H6
          replace hD := Aside0.mk hD
          replace hD2 := Aside0.mk hD2
          clear H5
          gi_wp2
          try simp only [World.size_alloc]
          refine ⟨by simp, .inl ⟨_, _, rfl, run_takeDeferred hD.out, ⟨by simp, .inl ⟨_, _, rfl, run_takeDeferred hD2.out, ⟨.bool true, ?_, by rw [hr], H6.out.bel⟩⟩⟩⟩⟩
          simp [results, Try.f65, go_sem, x6]
def readyOk (ps : List S65) (pre post inh : List S70) (m : List Int) : Prop := arcsIn pre m.length ∧ arcsIn post m.length ∧ arcsIn inh m.length ∧ m.length ≤ 1000 ∧ m.length ≤ ps.length
instance (ps : List S65) (pre post inh : List S70) (m : List Int) : Decidable (readyOk ps pre post inh m) := by unfold readyOk; infer_instance
def firing_ready.f (a0_0 : ByteArray) (l0_1 : List (S65)) (l0_2 : List (S68)) (l1 : List Int) (a2_0 : ByteArray) (l2_1 : List (S70)) (l2_2 : List (S70)) (l2_3 : List (S70)) (a2_4 : Int) : Option (Bool) :=
  if readyOk l0_1 l2_1 l2_2 l2_3 l1 then some (readyB l0_1 l2_1 l2_2 l2_3 l1) else none
theorem firing_ready.calls (a0_0 : ByteArray) (A0_1 : Option Addr) (c0_1 : Nat) (l0_1 : List (S65)) (A0_2 : Option Addr) (c0_2 : Nat) (l0_2 : List (S68)) (A1 : Option Addr) (c1 : Nat) (l1 : List Int) (a2_0 : ByteArray) (A2_1 : Option Addr) (c2_1 : Nat) (l2_1 : List (S70)) (A2_2 : Option Addr) (c2_2 : Nat) (l2_2 : List (S70)) (A2_3 : Option Addr) (c2_3 : Nat) (l2_3 : List (S70)) (a2_4 : Int) (r : Bool) (w : World) (hr0_1 : Kd.C k65 w A0_1 l0_1.length l0_1) (hc0_1 : l0_1.length ≤ c0_1) (hr0_2 : Kd.C k68 w A0_2 l0_2.length l0_2) (hc0_2 : l0_2.length ≤ c0_2) (hr1 : Kd.C (Kd.int .i64) w A1 l1.length l1) (hc1 : l1.length ≤ c1) (hr2_1 : Kd.C k70 w A2_1 l2_1.length l2_1) (hc2_1 : l2_1.length ≤ c2_1) (hr2_2 : Kd.C k70 w A2_2 l2_2.length l2_2) (hc2_2 : l2_2.length ≤ c2_2) (hr2_3 : Kd.C k70 w A2_3 l2_3.length l2_3) (hc2_3 : l2_3.length ≤ c2_3) (h : firing_ready.f a0_0 l0_1 l0_2 l1 a2_0 l2_1 l2_2 l2_3 a2_4 = some r) :
    Calls Try.prog 65 #[.agg #[.string a0_0, .slice A0_1 l0_1.length c0_1, .slice A0_2 l0_2.length c0_2], .slice A1 l1.length c1, .agg #[.string a2_0, .slice A2_1 l2_1.length c2_1, .slice A2_2 l2_2.length c2_2, .slice A2_3 l2_3.length c2_3, .int .i64 a2_4]] w fun e w' => e = .returned (.bool r) ∧ Below w.heap.size w w' := by
  rw [firing_ready.f] at h
  by_cases hc : readyOk l0_1 l2_1 l2_2 l2_3 l1
  · rw [if_pos hc] at h
    injection h with h
    subst h
    obtain ⟨i1, i2, i3, i4, i5⟩ := hc
    exact (callsIn_wide (n := 0)).1 (ready_in a0_0 A0_1 c0_1 l0_1 A0_2 _ c0_2 A1 c1 l1 a2_0 A2_1 c2_1 l2_1 A2_2 c2_2 l2_2 A2_3 c2_3 l2_3 a2_4 w hr0_1 hr1 hc1 hr2_1 hc2_1 hr2_2 hc2_2 hr2_3 hc2_3 i1 i2 i3 i4 i5)
  · rw [if_neg hc] at h; simp at h

/-! ### firing.filter, firing.list -/
def idxP (kb : S68 → Bool) (ts : List S68) (n : Nat) : List Int := ((List.range n).filter (fun i : Nat => kb (rd_T68 ts (i : Int)))).map (fun i : Nat => (i : Int))
theorem idxP_succ (kb : S68 → Bool) (ts : List S68) (n : Nat) : idxP kb ts (n + 1) = if kb (rd_T68 ts (n : Int)) = true then idxP kb ts n ++ [(n : Int)] else idxP kb ts n := by
  unfold idxP
  rw [List.range_succ, List.filter_append]
  by_cases h : kb (rd_T68 ts (n : Int)) = true <;> simp [h]
theorem idxP_len (kb : S68 → Bool) (ts : List S68) (n : Nat) : (idxP kb ts n).length ≤ n := by
  unfold idxP
  have := List.length_filter_le (fun i : Nat => kb (rd_T68 ts (i : Int))) (List.range n)
  simp only [List.length_map]
  simpa using this
def trV (t : S68) (B1 : Option Addr) (e1 : Nat) (B2 : Option Addr) (e2 : Nat) (B3 : Option Addr) (e3 : Nat) : Value := .agg #[.string t.f0, .slice B1 t.f1.length e1, .slice B2 t.f2.length e2, .slice B3 t.f3.length e3, .int .i64 t.f4]
/-- a closure that answers kb t at each transition of ts -/
def Keeps (w : World) (f : Nat) (lb : Array Value) (ts : List S68) (kb : S68 → Bool) : Prop :=
  ∀ (W : World) (t : S68) (B1 : Option Addr) (e1 : Nat) (B2 : Option Addr) (e2 : Nat) (B3 : Option Addr) (e3 : Nat), t ∈ ts → Below w.heap.size w W → Kd.C k70 W B1 t.f1.length t.f1 → t.f1.length ≤ e1 → Kd.C k70 W B2 t.f2.length t.f2 → t.f2.length ≤ e2 → Kd.C k70 W B3 t.f3.length t.f3 → t.f3.length ≤ e3 →
    CallsIn Fence.wide 0 Try.prog f (#[trV t B1 e1 B2 e2 B3 e3] ++ lb) W fun e W' => e = .returned (.bool (kb t)) ∧ Below W.heap.size W W'
set_option maxRecDepth 100000 in
set_option maxHeartbeats 4000000 in
theorem filter_in (nm : ByteArray) (A1 : Option Addr) (n1 c1 : Nat) (A2 : Option Addr) (c2 : Nat) (ts : List S68) (f : Nat) (lb : Array Value) (kb : S68 → Bool) (w : World) (hts : Kd.C k68 w A2 ts.length ts) (hk : Keeps w f lb ts kb) (hl : ts.length ≤ 1000)
    (ef : ∀ args w, (callFunc f args).run Try.prog w = .ok (.enter f args) w) :
    CallsIn Fence.wide 0 Try.prog 66 #[.agg #[.string nm, .slice A1 n1 c1, .slice A2 ts.length c2], .func (.func f) #[] lb] w fun e w' =>
      ∃ v, e = .returned v ∧ Kd.R (Kd.int .i64) 3 w' w.heap.size (fun _ => True) v (idxP kb ts ts.length) ∧ Below w.heap.size w w' := by
  have H0 := (Held.refl w).push (.cells #[.string nm, .slice A1 n1 c1, .slice A2 ts.length c2] 25)
  replace H0 := Aside0.mk H0
  replace hk := Aside0.mk hk
  refine callsIn_of_wp_marks Try.func66 rfl trivial ?_ rfl
  simp only [Try.ntmps66, List.size_toArray, List.length_cons, List.length_nil, Nat.reduceAdd, Nat.reduceSub, Array.replicate_succ, Array.replicate_zero, List.push_toArray, List.append_toArray, List.nil_append, List.cons_append]
  gi_wp2
  gi_loopw [5, 11] (fun v i wr => ∃ j : Nat, i = .int .i64 j ∧ j ≤ ts.length ∧ Aside0 (Held w [(w.heap.size, .cells #[.string nm, .slice A1 n1 c1, .slice A2 ts.length c2] 25 (0, 0))] wr) ∧ Aside0 (wr.ownsRow (w.heap.size + 1) 3 1 v (idxP kb ts j).length (nums .i64 (idxP kb ts j))) ∧ Aside0 (w.heap.size + 1 ≤ wr.heap.size)) (fun _ i _ => ts.length - (intOf i).toNat)
  case atStart => exact ⟨0, rfl, Nat.zero_le _, H0, ⟨by simpa [idxP, nums] using own_nil _ _ _ _⟩, ⟨by simp⟩⟩
  case round =>
    clear H0
    obtain ⟨j, rfl, hj, hH, hown, hsz⟩ := hrel
    rename_i v _
    by_cases hlt : j < ts.length
    · obtain ⟨ad, B1, e1, B2, e2, B3, e3, hA, q0, q1, q2, q3, q4, n1', m1, n2', m2, n3', m3⟩ := at_T68 (Kd.C_below hts hH.out.bel) (j : Int) (by omega) (by omega)
      subst hA
      simp only [Int.toNat_natCast] at q0 q1 q2 q3 q4
      have htk := Aside0.mk (idxP_succ kb ts j)
      have hmem : rd_T68 ts (j : Int) ∈ ts := by
        rw [rd_T68, Int.toNat_natCast, List.getD_eq_getElem?_getD, List.getElem?_eq_getElem hlt]; exact List.getElem_mem hlt
      obtain ⟨x, hx⟩ : ∃ x, rd_T68 ts (j : Int) = x := ⟨_, rfl⟩
      rw [hx] at q0 q1 q2 q3 q4 n1' m1 n2' m2 n3' m3 htk hmem
      have hbn := below_alloc (Below.refl wr.heap.size wr) (.cells #[.string x.f0, .slice B1 x.f1.length e1, .slice B2 x.f2.length e2, .slice B3 x.f3.length e3, .int .i64 x.f4] 68)
      have hcall := Aside0.mk (hk.out (wr.alloc (.cells #[.string x.f0, .slice B1 x.f1.length e1, .slice B2 x.f2.length e2, .slice B3 x.f3.length e3, .int .i64 x.f4] 68)) x B1 e1 B2 e2 B3 e3 hmem (hH.out.bel.trans (hbn.mono hH.out.size)) (Kd.C_below m1 hbn) n1' (Kd.C_below m2 hbn) n2' (Kd.C_below m3 hbn) n3')
      have HA := Aside0.mk (hH.out.below hbn)
      have HO := Aside0.mk (hown.out.alloc (.cells #[.string x.f0, .slice B1 x.f1.length e1, .slice B2 x.f2.length e2, .slice B3 x.f3.length e3, .int .i64 x.f4] 68))
      clear hmem hx m1 m2 m3 hbn
      have hil := Aside0.mk (idxP_len kb ts j)
      have hs1 : wr.heap.size + 1 = (wr.alloc (.cells #[.string x.f0, .slice B1 x.f1.length e1, .slice B2 x.f2.length e2, .slice B3 x.f3.length e3, .int .i64 x.f4] 68)).heap.size := by simp
      replace hs1 := Aside0.mk hs1
      gi_wp2
      refine ⟨trivial, rfl, hcall.out.mono ?_⟩
      rintro e W2 ⟨rfl, hb2⟩
      have HA2 := Aside0.mk (HA.out.below hb2)
      have HO2 := Aside0.mk (pw_own_below HO.out hb2)
      have hs2 := Aside0.mk (show w.heap.size + 1 ≤ W2.heap.size by have := hb2.size; have := hs1.out; have := hsz.out; omega)
      clear hcall hb2 q0 q1 q2 q3 q4 HA HO hown hH hs1
      obtain ⟨b, hb⟩ : ∃ b, kb x = b := ⟨_, rfl⟩
      rw [hb] at htk ⊢
      cases b with
      | true =>
        gi_wp2_with (gi_at_builtin; refine append_num1 rfl _ _ rfl (w.heap.size + 1) _ _ (j : Int) HO2.out rfl rfl (by have := hil.out; omega) hs2.out ?_; intro v' w3 ho' hh' hs')
        go_roundw
        case rel => exact ⟨j + 1, by go_num, by omega, ⟨hh'.out _ _ HA2.out (by simp) (by omega)⟩, ⟨by rw [htk.out]; (first | rw [if_pos rfl] | rw [if_pos trivial]); exact ho'.out⟩, ⟨Nat.le_trans hs2.out hs'.out⟩⟩
        case measure => simp [intOf]; omega
      | false =>
        gi_wp2
        go_roundw
        case rel => exact ⟨j + 1, by go_num, by omega, HA2, ⟨by rw [htk.out]; (first | rw [if_neg (by simp)] | rw [if_neg not_false]); exact HO2.out⟩, hs2⟩
        case measure => simp [intOf]; omega
    · obtain rfl : j = ts.length := by omega
      gi_wp2
      refine ⟨_, results_tmp (t := 4) rfl _ _ _, _, rfl, Kd.R_of_own ?_ (fun _ _ => trivial), hH.out.bel⟩
      exact own_down hown.out (by omega)
set_option maxRecDepth 100000 in
set_option maxHeartbeats 4000000 in
theorem list_keep (nm : ByteArray) (A1 : Option Addr) (c1 : Nat) (ps : List S65) (A2 : Option Addr) (n2 c2 : Nat) (Am : Option Addr) (cm : Nat) (m : List Int) (most : Int) (b0 b1 b2 : Nat) (w0 w : World) (ts : List S68)
    (hp : Kd.C k65 w A1 ps.length ps) (hm : Kd.C (Kd.int .i64) w Am m.length m) (hcm : m.length ≤ cm) (hok : ∀ t ∈ ts, readyOk ps t.f1 t.f2 t.f3 m)
    (c0 : w.heap[b0]? = some (.cells #[.int .i64 most] 3 (0, 0))) (cn : w.heap[b1]? = some (.cells #[.string nm, .slice A1 ps.length c1, .slice A2 n2 c2] 25 (0, 0))) (cM : w.heap[b2]? = some (.cells #[.slice Am m.length cm] 26 (0, 0))) :
    Keeps w 67 #[.pointer (some ⟨b0, 0, none⟩), .pointer (some ⟨b1, 0, none⟩), .pointer (some ⟨b2, 0, none⟩)] ts (fun t => decide (t.f4 = most) && readyB ps t.f1 t.f2 t.f3 m) := by
  intro W t B1 e1 B2 e2 B3 e3 ht hb m1 n1 m2 n2' m3 n3
  have hbn := below_alloc (Below.refl W.heap.size W) (.cells #[.string t.f0, .slice B1 t.f1.length e1, .slice B2 t.f2.length e2, .slice B3 t.f3.length e3, .int .i64 t.f4] 68)
  have hb2 := hb.trans (hbn.mono hb.size)
  have x0 := cell_of_one (blk_below (blk_below c0 hb) hbn)
  have y0 := blk_cell (blk_below (blk_below cn hb) hbn) 0
  have y1 := blk_cell (blk_below (blk_below cn hb) hbn) 1
  have y2 := blk_cell (blk_below (blk_below cn hb) hbn) 2
  have z0 := cell_of_one (blk_below (blk_below cM hb) hbn)
  obtain ⟨i1, i2, i3, i4, i5⟩ := hok t ht
  have hrd := Aside0.mk (ready_in nm A1 c1 ps A2 n2 c2 Am cm m t.f0 B1 e1 t.f1 B2 e2 t.f2 B3 e3 t.f3 t.f4 _ (Kd.C_below hp hb2) (Kd.C_below hm hb2) hcm (Kd.C_below m1 hbn) n1 (Kd.C_below m2 hbn) n2' (Kd.C_below m3 hbn) n3 i1 i2 i3 i4 i5)
  replace hbn := Aside0.mk hbn
  clear hb hb2 c0 cn cM m1 m2 m3 hok
  refine callsIn_of_wp_marks Try.func67 rfl trivial ?_ rfl
  simp only [trV, Try.ntmps67, List.size_toArray, List.length_cons, List.length_nil, Nat.reduceAdd, Nat.reduceSub, Array.replicate_succ, Array.replicate_zero, List.push_toArray, List.append_toArray, List.nil_append, List.cons_append]
  by_cases hpr : t.f4 = most
  · have d1 : (t.f4 == most) = true := by simp [hpr]
    have e1 : decide (t.f4 = most) = true := by simp [hpr]
    replace e1 := Aside0.mk e1
    clear hpr
    gi_wp2
    refine ⟨trivial, rfl, hrd.out.mono ?_⟩
    rintro e W2 ⟨rfl, hb3⟩
    have hb4 := Aside0.mk (hbn.out.trans (hb3.mono hbn.out.size))
    clear hrd hb3
    gi_wp2
    refine ⟨_, results_tmp (t := 5) rfl _ _ _, ?_, hb4.out⟩
    rw [e1.out]; rfl
  · have d1 : (t.f4 == most) = false := by simp [hpr]
    have e1 : decide (t.f4 = most) = false := by simp [hpr]
    replace e1 := Aside0.mk e1
    clear hpr
    gi_wp2
    refine ⟨trivial, ?_⟩
    gi_wp2
    refine ⟨_, results_tmp (t := 5) rfl _ _ _, ?_, hbn.out⟩
    rw [e1.out]; rfl
def mostL (ps : List S65) (m : List Int) (ts : List S68) : Int := ts.foldl (fun most t => if most < t.f4 ∧ readyB ps t.f1 t.f2 t.f3 m = true then t.f4 else most) (-1)
theorem mostL_snoc (ps : List S65) (m : List Int) (ts : List S68) (t : S68) : mostL ps m (ts ++ [t]) = if mostL ps m ts < t.f4 ∧ readyB ps t.f1 t.f2 t.f3 m = true then t.f4 else mostL ps m ts := by unfold mostL; rw [List.foldl_append]; rfl
def mayL (ps : List S65) (m : List Int) (ts : List S68) : List Int := idxP (fun t => decide (t.f4 = mostL ps m ts) && readyB ps t.f1 t.f2 t.f3 m) ts ts.length
theorem take_rdT {l : List S68} {j : Nat} (h : j < l.length) : l.take (j + 1) = l.take j ++ [rd_T68 l (j : Int)] := by
  rw [List.take_succ_eq_append_getElem h, rd_T68, Int.toNat_natCast, List.getD_eq_getElem?_getD, List.getElem?_eq_getElem h]; rfl
set_option maxRecDepth 100000 in
set_option maxHeartbeats 4000000 in
theorem list_in (nm : ByteArray) (A1 : Option Addr) (c1 : Nat) (ps : List S65) (A2 : Option Addr) (c2 : Nat) (ts : List S68) (Am : Option Addr) (cm : Nat) (m : List Int) (w : World)
    (hp : Kd.C k65 w A1 ps.length ps) (hts : Kd.C k68 w A2 ts.length ts) (hm : Kd.C (Kd.int .i64) w Am m.length m) (hcm : m.length ≤ cm) (hok : ∀ t ∈ ts, readyOk ps t.f1 t.f2 t.f3 m) (hl : ts.length ≤ 1000) :
    CallsIn Fence.wide 0 Try.prog 57 #[.agg #[.string nm, .slice A1 ps.length c1, .slice A2 ts.length c2], .slice Am m.length cm] w fun e w' =>
      ∃ v, e = .returned v ∧ Kd.R (Kd.int .i64) 3 w' w.heap.size (fun _ => True) v (mayL ps m ts) ∧ Below w.heap.size w w' := by
  have H0 := (((Held.refl w).push (.cells #[.string nm, .slice A1 ps.length c1, .slice A2 ts.length c2] 25)).push (.cells #[.slice Am m.length cm] 26)).push (.cells #[.int .i64 (-1)] 3)
  simp only [World.size_alloc] at H0
  replace H0 := Aside0.mk H0
  replace hok := Aside0.mk hok
  refine callsIn_of_wp_marks Try.func57 rfl trivial ?_ rfl
  simp only [Try.ntmps57, List.size_toArray, List.length_cons, List.length_nil, Nat.reduceAdd, Nat.reduceSub, Array.replicate_succ, Array.replicate_zero, List.push_toArray, List.append_toArray, List.nil_append, List.cons_append]
  gi_wp2
  gi_loopw [11] (fun i wr => ∃ j : Nat, i = .int .i64 j ∧ j ≤ ts.length ∧ Aside0 (Held w [(w.heap.size + 1 + 1, .cells #[.int .i64 (mostL ps m (ts.take j))] 3 (0, 0)), (w.heap.size + 1, .cells #[.slice Am m.length cm] 26 (0, 0)), (w.heap.size, .cells #[.string nm, .slice A1 ps.length c1, .slice A2 ts.length c2] 25 (0, 0))] wr)) (fun i _ => ts.length - (intOf i).toNat)
  case atStart => exact ⟨0, rfl, Nat.zero_le _, H0⟩
  case round =>
    clear H0
    obtain ⟨j, rfl, hj, hH⟩ := hrel
    by_cases hlt : j < ts.length
    · obtain ⟨ad, B1, e1, B2, e2, B3, e3, hA, q0, q1, q2, q3, q4, n1', m1, n2', m2, n3', m3⟩ := at_T68 (Kd.C_below hts hH.out.bel) (j : Int) (by omega) (by omega)
      subst hA
      simp only [Int.toNat_natCast] at q0 q1 q2 q3 q4
      have htk := Aside0.mk (take_rdT hlt)
      have hmem : rd_T68 ts (j : Int) ∈ ts := by
        rw [rd_T68, Int.toNat_natCast, List.getD_eq_getElem?_getD, List.getElem?_eq_getElem hlt]; exact List.getElem_mem hlt
      obtain ⟨x, hx⟩ : ∃ x, rd_T68 ts (j : Int) = x := ⟨_, rfl⟩
      rw [hx] at q0 q1 q2 q3 q4 n1' m1 n2' m2 n3' m3 htk hmem
      have hbn := below_alloc (Below.refl wr.heap.size wr) (.cells #[.string x.f0, .slice B1 x.f1.length e1, .slice B2 x.f2.length e2, .slice B3 x.f3.length e3, .int .i64 x.f4] 68)
      have HA := hH.out.below hbn
      have r0 := HA.cell 0 0 rfl rfl
      have r1 := HA.cell 1 0 rfl rfl
      have r2 := HA.cell 2 0 rfl rfl
      have r3 := HA.cell 2 1 rfl rfl
      have r4 := HA.cell 2 2 rfl rfl
      have rf := HA.free 0 0 rfl
      obtain ⟨i1, i2, i3, i4, i5⟩ := hok.out x hmem
      have hrd := Aside0.mk (ready_in nm A1 c1 ps (some ad) ts.length c2 Am cm m x.f0 B1 e1 x.f1 B2 e2 x.f2 B3 e3 x.f3 x.f4 _ (Kd.C_below hp HA.bel) (Kd.C_below hm HA.bel) hcm (Kd.C_below m1 hbn) n1' (Kd.C_below m2 hbn) n2' (Kd.C_below m3 hbn) n3' i1 i2 i3 i4 i5)
      obtain ⟨mo, hmo⟩ : ∃ mo, mostL ps m (ts.take j) = mo := ⟨_, rfl⟩
      have hsn : mostL ps m (ts.take (j + 1)) = if mo < x.f4 ∧ readyB ps x.f1 x.f2 x.f3 m = true then x.f4 else mo := by rw [htk.out, mostL_snoc, hmo]
      rw [hmo] at r0 HA
      have bt := blk_new wr (.cells #[.string x.f0, .slice B1 x.f1.length e1, .slice B2 x.f2.length e2, .slice B3 x.f3.length e3, .int .i64 x.f4] 68)
      replace bt := Aside0.mk bt
      replace hsn := Aside0.mk hsn
      replace HA := Aside0.mk HA
      clear hmem hx m1 m2 m3 hbn hmo hH htk i1 i2 i3 i4 i5
      by_cases hpr : mo < x.f4
      · have d1 : decide (mo < x.f4) = true := decide_eq_true hpr
        gi_wp2
        refine ⟨trivial, rfl, hrd.out.mono ?_⟩
        rintro e W2 ⟨rfl, hb2⟩
        have HA2 := HA.out.below hb2
        have y0 := HA2.cell 0 0 rfl rfl
        have yf := HA2.free 0 0 rfl
        have y4 := blk_cell (blk_below bt.out hb2) 4
        have HS := Aside0.mk (HA2.set 0 0 rfl (.int .i64 x.f4))
        replace HA2 := Aside0.mk HA2
        clear hrd hb2 q0 q1 q2 q3 q4 HA bt r0 r1 r2 r3 r4 rf
        obtain ⟨b, hb⟩ : ∃ b, readyB ps x.f1 x.f2 x.f3 m = b := ⟨_, rfl⟩
        rw [hb] at hsn ⊢
        cases b with
        | true =>
          gi_wp2
          go_roundw
          case rel => exact ⟨j + 1, by go_num, by omega, ⟨by rw [hsn.out, if_pos (by simp [hpr])]; exact HS.out⟩⟩
          case measure => simp [intOf]; omega
        | false =>
          gi_wp2
          go_roundw
          case rel => exact ⟨j + 1, by go_num, by omega, ⟨by rw [hsn.out, if_neg (by simp)]; exact HA2.out⟩⟩
          case measure => simp [intOf]; omega
      · have d1 : decide (mo < x.f4) = false := decide_eq_false hpr
        gi_wp2
        refine ⟨trivial, ?_⟩
        gi_wp2
        go_roundw
        case rel => exact ⟨j + 1, by go_num, by omega, ⟨by rw [hsn.out, if_neg (fun h => by have := h.1; omega)]; exact HA.out⟩⟩
        case measure => simp [intOf]; omega
    · obtain rfl : j = ts.length := by omega
      have H1 := hH.out
      rw [List.take_length] at H1
      have r2 := H1.cell 2 0 rfl rfl
      have r3 := H1.cell 2 1 rfl rfl
      have r4 := H1.cell 2 2 rfl rfl
      have hkp := list_keep nm A1 c1 ps A2 ts.length c2 Am cm m (mostL ps m ts) (w.heap.size + 1 + 1) w.heap.size (w.heap.size + 1) w wr ts (Kd.C_below hp H1.bel) (Kd.C_below hm H1.bel) hcm hok.out (H1.blk 0 rfl) (H1.blk 2 rfl) (H1.blk 1 rfl)
      have hfl := Aside0.mk (filter_in nm A1 ps.length c1 A2 c2 ts _ _ _ wr (Kd.C_below hts H1.bel) hkp hl (enters_of Try.func67 (by kernel_rfl) rfl))
      replace H1 := Aside0.mk H1
      clear hkp
      gi_wp2
      refine ⟨trivial, rfl, hfl.out.mono ?_⟩
      rintro e W2 ⟨v, rfl, hR, hb2⟩
      have hB := Aside0.mk (H1.out.bel.trans (hb2.mono H1.out.size))
      replace hR := Aside0.mk (Kd.R_lower hR H1.out.size)
      clear hfl hb2
      gi_wp2
      exact ⟨_, results_tmp (t := 4) rfl _ _ _, _, rfl, hR.out, hB.out⟩
def firing_list.f (a0_0 : ByteArray) (l0_1 : List (S65)) (l0_2 : List (S68)) (l1 : List Int) : Option (List Int) :=
  if (∀ t ∈ l0_2, readyOk l0_1 t.f1 t.f2 t.f3 l1) ∧ l0_2.length ≤ 1000 then some (mayL l0_1 l1 l0_2) else none
theorem firing_list.calls (a0_0 : ByteArray) (A0_1 : Option Addr) (c0_1 : Nat) (l0_1 : List (S65)) (A0_2 : Option Addr) (c0_2 : Nat) (l0_2 : List (S68)) (A1 : Option Addr) (c1 : Nat) (l1 : List Int) (r : List Int) (w : World) (hr0_1 : Kd.C k65 w A0_1 l0_1.length l0_1) (hc0_1 : l0_1.length ≤ c0_1) (hr0_2 : Kd.C k68 w A0_2 l0_2.length l0_2) (hc0_2 : l0_2.length ≤ c0_2) (hr1 : Kd.C (Kd.int .i64) w A1 l1.length l1) (hc1 : l1.length ≤ c1) (h : firing_list.f a0_0 l0_1 l0_2 l1 = some r) :
    Calls Try.prog 57 #[.agg #[.string a0_0, .slice A0_1 l0_1.length c0_1, .slice A0_2 l0_2.length c0_2], .slice A1 l1.length c1] w fun e w' => ∃ v0_ : Value, e = .returned (v0_) ∧ Kd.R (Kd.int .i64) 3 w' w.heap.size (fun _ => True) v0_ r ∧ Below w.heap.size w w' := by
  rw [firing_list.f] at h
  by_cases hc : (∀ t ∈ l0_2, readyOk l0_1 t.f1 t.f2 t.f3 l1) ∧ l0_2.length ≤ 1000
  · rw [if_pos hc] at h
    injection h with h
    subst h
    exact (callsIn_wide (n := 0)).1 (list_in a0_0 A0_1 c0_1 l0_1 A0_2 c0_2 l0_2 A1 c1 l1 w hr0_1 hr0_2 hr1 hc1 hc.1 hc.2)
  · rw [if_neg hc] at h; simp at h

end Go.Proofs.Yteaimaafahpamaa.Hy
