/- By hand (copy_in, nat_leaf, nat_search): a part of this seat's proofs. -/
import Derived.Test.YtlckejjmkjgknabXNatAdd
import Derived.Sort.LoopGhostIn
import Derived.Stop.RegionWithIn
namespace Go.Proofs.Ytlckejjmkjgknab.Hy
open Go.RowKit Go.Shelf Go.Proofs.YtlckejjmkjgknabW.PrintWords Go.Proofs.YtlckejjmkjgknabW.PrintLast Go.Proofs.YtlckejjmkjgknabW.PrintMore
set_option linter.unusedVariables false
set_option linter.unusedSimpArgs false
attribute [local go_sem] Oper.semAt_some
/-! ### copy, inside a fence -/
theorem wpListIn_copy_splice {F : Fence} {n : Nat} {P : Program} {w : World} {ops : Array Oper} {rest : List Oper} {o : Oper} {a : Act} {Q : Exit → Act → World → Prop} (hgd : o.guard = none) (d s : Operand) (dT sT : TypeId)
    (ho : o.op = .call { callee := .builtin .copy, args := #[d, s], argTypes := #[dT, sT] }) (elem : TypeId) (hu : P.underlying dT = some (.slice elem)) (hsz : (P.info? elem).map (·.size) = some 1)
    (dp sp : Option Addr) (dLen dCap sLen sCap : Nat) (hd : a.eval d = .slice dp dLen dCap) (hs : a.eval s = .slice sp sLen sCap)
    (g off : Nat) (cur : List Value) (t : TypeId) (hg : w.heap[g]? = some (.cells cur.toArray t (0, 0))) (cs : List Value) (hn : cs.length = Nat.min sLen dLen)
    (hpos : 0 < cs.length → dp = some ⟨g, off, none⟩ ∧ ∃ ad, sp = some ad ∧ ∀ j v, cs[j]? = some v → w.cell? (ad.add j) = some v)
    (hfit : off + cs.length ≤ cur.length) (h1 : ∀ v ∈ cs, v.oneCell' = true) (B : Nat) (w0 : World) (hb : Below B w0 w) (hBg : B ≤ g)
    (h : ∀ w', Hid (w'.heap[g]? = some (.cells (splice cur off cs).toArray t (0, 0))) → Below B w0 w' → w.grownBy w' (some g) → w'.heap.size = w.heap.size → wpListIn F n P ops Q rest (a.put o.dst (goInt cs.length)) w') :
    wpListIn F n P ops Q (o :: rest) a w := by
  by_cases h0 : cs.length = 0
  · obtain rfl : cs = [] := List.eq_nil_of_length_eq_zero h0
    have hrun := run_copy_none (P := P) w dT sT o.type elem dp sp dLen dCap sLen sCap hu hsz (by simpa using hn.symm)
    refine wpListIn_plain hgd fun K hK => ?_
    unfold Oper.wpIn
    refine ⟨by simp [Oper.about, ho, resolve, Target.leads, Sem.run_pure], ?_⟩
    rw [Oper.semAt_plain F _ _ (by rw [ho]; intro c hc'; cases hc')]
    simp [execOp, ho, resolve, invoke, builtin, hd, hs, hrun, Result.andThen]
    exact hK _ _ (h w (show _ = _ by simpa [splice] using hg) hb (World.grownBy.refl w _) rfl)
  · obtain ⟨rfl, ad, rfl, hsrc⟩ := hpos (by omega)
    have hrun := run_copy_row (P := P) w dT sT o.type elem g off dLen dCap ad sLen sCap cur.toArray t cs hu hsz hg hn hsrc (by simpa using hfit) h1
    refine wpListIn_plain hgd fun K hK => ?_
    unfold Oper.wpIn
    refine ⟨by simp [Oper.about, ho, resolve, Target.leads, Sem.run_pure], ?_⟩
    rw [Oper.semAt_plain F _ _ (by rw [ho]; intro c hc'; cases hc')]
    simp [execOp, ho, resolve, invoke, builtin, hd, hs, hrun, Result.andThen]
    refine hK _ _ (h _ (show _ = _ by simpa [splice] using setRow_heap w g _ _ t _ hg) (below_setRow hb hBg _) ⟨rfl, rfl, rfl, by simp [World.setRow], fun k hk hne => setRow_other w g k _ (fun e => hne (by rw [e]))⟩ (by simp [World.setRow]))

def EltN (lo : Nat) (x : List Int) (vs : Array Value) (A B : World) : Prop :=
  ∃ g, lo ≤ g ∧ A.heap.size ≤ g ∧ g < B.heap.size ∧ vs = #[.slice (some ⟨g, 0, none⟩) x.length x.length] ∧ B.heap[g]? = some (.cells (nums .i64 x).toArray 2 (0, 0))
def Rounds (E : Env) (J Jx : List (List Int) → World → Prop) : Prop :=
  ∀ pre x vs A B, J pre A → Chg E.priv A B → EltN (E.s + 7) x vs A B → (pre ++ [x]) <+: sols E.a E.b E.u [] → ∀ m, YieldAt Fence.wide m Try.prog E.l vs B fun e C =>
    (e = .returned (.bool true) ∧ J (pre ++ [x]) C ∧ Chg (fun k => ¬ E.hold k) B C) ∨ (e = .returned (.bool false) ∧ Jx (pre ++ [x]) C)
def SPost (E : Env) (J Jx : List (List Int) → World → Prop) (p : List Int) (pre : List (List Int)) (us : List Int) (e : Ending) (W' : World) : Prop :=
  (e = .returned (.bool true) ∧ (∃ x', x'.take p.length = p ∧ Inv E W' x' (leftOf E.a E.b p)) ∧ J (pre ++ sols E.a E.b us p) W') ∨ (e = .returned (.bool false) ∧ ∃ q, q <+: sols E.a E.b E.u [] ∧ Jx q W')
theorem info2 : (Try.prog.info? 2).map (fun i => (i.zero, i.size, i.bytes)) = some (some (.int .i64 0), 1, 8) := by kernel_rfl
theorem size2 : (Try.prog.info? 2).map (·.size) = some 1 := by kernel_rfl
theorem made_nums (m : Nat) : madeCells #[Value.int .i64 0] m = (nums .i64 (List.replicate m 0)).toArray := by
  have hl : (madeCells #[Value.int .i64 0] m).toList = nums .i64 (List.replicate m 0) := by
    apply List.ext_getElem
    · simp [nums, madeCells]
    · intro i h1 h2
      simp [nums, madeCells, Nat.mod_one]
  rw [← hl]
theorem splice_all (n : Nat) (p : List Int) (h : p.length = n) : splice (nums .i64 (List.replicate n 0)) 0 (nums .i64 p) = nums .i64 p := by
  have : (nums .i64 p).length = n := by simp [nums, h]
  unfold splice
  rw [List.take_zero, List.nil_append, this, List.drop_of_length_le (by simp [nums]), List.append_nil]
theorem elt_of {p : List Int} {wr w2 : World} {lo : Nat} (hlo : lo ≤ wr.heap.size) (hg : w2.heap[wr.heap.size]? = some (.cells (splice (nums .i64 (List.replicate p.length 0)) 0 (nums .i64 p)).toArray 2 (0, 0))) (hb : Below wr.heap.size wr w2) :
    EltN lo p #[.slice (some ⟨wr.heap.size, 0, none⟩) p.length p.length] wr w2 := by
  rw [splice_all p.length p rfl] at hg
  exact ⟨wr.heap.size, hlo, Nat.le_refl _, blk_lt hg, rfl, hg⟩
theorem zstep {left : List Int} {j : Nat} (hz : ∀ t, t < j → left[t]?.getD 0 = 0) (h : left[j]?.getD 0 = 0) : ∀ t, t < j + 1 → left[t]?.getD 0 = 0 := by
  intro t ht
  rcases Nat.lt_or_ge t j with h1 | h1
  · exact hz t h1
  · obtain rfl : t = j := by omega
    exact h
set_option maxRecDepth 100000 in
set_option maxHeartbeats 4000000 in
theorem search_leaf (E : Env) (hE : E.Ok) (J Jx : List (List Int) → World → Prop) (hJ : ∀ pre A B, J pre A → Chg E.priv A B → J pre B) (hY : Rounds E J Jx)
    (p : List Int) (pre : List (List Int)) (W : World) (hp : p.length = E.u.length) (h : Inv E W p (leftOf E.a E.b p)) (hj : J pre W) (hpre : pre ++ sols E.a E.b [] p <+: sols E.a E.b E.u []) :
    CallsIn Fence.wide 0 Try.prog 27 #[.int .i64 p.length, .pointer (some ⟨E.s + 2, 0, none⟩), .pointer (some ⟨E.s + 4, 0, none⟩), .pointer (some ⟨E.s, 0, none⟩), .pointer (some ⟨E.s + 6, 0, none⟩), .pointer (some ⟨E.Bu, 0, none⟩), .pointer (some ⟨E.s + 5, 0, none⟩)] W
      (SPost E J Jx p pre []) := by
  have hn1 := hE.u1
  have hn2 := hE.u2
  have hm : E.a.length ≤ 64 := hE.a1
  have hll := leftOf_len E.a E.b p hE.ab
  obtain ⟨left, hleft⟩ : ∃ left, leftOf E.a E.b p = left := ⟨_, rfl⟩
  have HI := Aside0.mk h
  rw [hleft] at h hll
  have hlc : ∀ j, j < E.a.length → W.cell? ⟨E.s + 3, j, none⟩ = some (.int .i64 (left[j]?.getD 0)) := fun j hj => h.lcell j hj
  replace hlc := Aside0.mk hlc
  replace hleft := Aside0.mk hleft
  have cX := cell_of_one h.xb
  have cL := cell_of_one h.lb
  have cY := cell_of_one h.y
  clear h
  obtain ⟨n, hn⟩ : ∃ n, n = E.u.length := ⟨_, rfl⟩
  rw [← hn] at cX hp hn1 hn2
  subst hp
  replace hn := Aside0.mk hn
  refine callsIn_of_wp Try.func27 rfl trivial ?_ rfl
  simp only [Try.ntmps27, List.size_toArray, List.length_cons, List.length_nil, Nat.reduceAdd, Nat.reduceSub, Array.replicate_succ, Array.replicate_zero, List.push_toArray, List.append_toArray, List.nil_append, List.cons_append]
  gi_wp2
  gi_loopw [18] (fun i wr => ∃ j : Nat, wr = W ∧ j ≤ E.a.length ∧ i = .int .i64 j ∧ Aside0 (∀ t, t < j → left[t]?.getD 0 = 0)) (fun i _ => E.a.length - (intOf i).toNat)
  case atStart => exact ⟨0, rfl, Nat.zero_le _, rfl, ⟨fun t ht => by omega⟩⟩
  case round =>
    obtain ⟨j, rfl, hj2, rfl, hz⟩ := hrel
    by_cases hlt : j < E.a.length
    · have hc := hlc.out j hlt
      obtain ⟨y, hy0⟩ : ∃ y, left[j]?.getD 0 = y := ⟨_, rfl⟩
      rw [hy0] at hc
      replace hy0 := Aside0.mk hy0
      by_cases hy : y = 0
      · subst hy
        gi_wp2
        go_roundw
        case rel => exact ⟨j + 1, trivial, by omega, by go_num, ⟨zstep hz.out hy0.out⟩⟩
        case measure => simp [intOf]; omega
      · gi_wp2
        go_ret
        refine .inl ⟨rfl, ⟨p, by simp, HI.out⟩, ?_⟩
        rw [sols_nil, if_neg, List.append_nil]
        · exact hj
        · intro hs
          rw [isSol, hleft.out, List.all_eq_true] at hs
          have := hs left[j] (List.getElem_mem (by omega))
          rw [List.getElem?_eq_getElem (show j < left.length by omega)] at hy0
          simp only [Option.getD_some] at hy0
          rw [hy0.out] at this
          exact hy (by simpa using this)
    · obtain rfl : j = E.a.length := by omega
      have hI := HI.out
      have hsol : isSol E.a E.b p = true := by
        rw [isSol, hleft.out, List.all_eq_true]
        intro y hy
        obtain ⟨t, ht, rfl⟩ := List.getElem_of_mem hy
        have := hz.out t (by omega)
        rw [List.getElem?_eq_getElem ht] at this
        simpa using this
      rw [sols_nil, if_pos hsol] at hpre
      replace hsol := Aside0.mk hsol
      have hmk := print_make (P := Try.prog) 23 2 .i64 8 Try.underlying23 info2 (by decide) p.length (by omega)
      have hg0 : Aside0 ((wr.alloc (.cells (madeCells #[.int .i64 0] p.length) 2)).heap[wr.heap.size]? = some (.cells (nums .i64 (List.replicate p.length 0)).toArray 2 (0, 0))) := ⟨by rw [made_nums]; exact blk_new _ _⟩
      have hcl : Aside0 ((nums .i64 p).length = Nat.min p.length p.length) := ⟨by simp [nums]⟩
      have hcf : Aside0 (0 + (nums .i64 p).length ≤ (nums .i64 (List.replicate p.length 0)).length) := ⟨by simp [nums]⟩
      have h1c : Aside0 (∀ v ∈ nums .i64 p, v.oneCell' = true) := ⟨by intro v hv; simp only [nums, List.mem_map] at hv; obtain ⟨x, _, rfl⟩ := hv; rfl⟩
      have hsrc : Aside0 (∀ o : Obj, ∀ j v, (nums .i64 p)[j]? = some v → (wr.alloc o).cell? ((⟨E.s + 1, 0, none⟩ : Addr).add j) = some v) := ⟨by
        intro o j v hv
        rw [add_plain, blk_cell (blk_alloc hI.xr o)]
        simpa using hv⟩
      have hcX : (wr.alloc (.cells (madeCells #[.int .i64 0] p.length) 2)).cell? ⟨E.s + 2, 0, none⟩ = some (.slice (some ⟨E.s + 1, 0, none⟩) p.length p.length) := (cell_of_one (blk_alloc hI.xb _)).trans (by rw [← hn.out])
      clear hI
      gi_wp2_with ((with_reducible refine wpListIn_copy_splice rfl (.tmp 28) (.tmp 29) 23 23 rfl 2 Try.underlying23 size2 (some ⟨wr.heap.size, 0, none⟩) (some ⟨E.s + 1, 0, none⟩) p.length p.length p.length p.length rfl rfl wr.heap.size 0 (nums .i64 (List.replicate p.length 0)) 2 hg0.out (nums .i64 p) hcl.out (fun _ => ⟨rfl, _, rfl, hsrc.out _⟩) hcf.out h1c.out wr.heap.size wr ((Below.refl _ _).alloc (Nat.le_refl _) _) (Nat.le_refl _) ?_); intro w2 hg2 hb2 hgr2 _; have cY2 := cell_of_one ((HI.out.of_below hE hb2).y); have hel := elt_of (lo := E.s + 7) (blk_lt HI.out.fs) hg2.out hb2; obtain ⟨fn, tmps, assign, body, hy, hR⟩ := hY pre p _ wr w2 hj (Chg.of_below hb2 _) hel hpre 0)
      refine ⟨rfl, hR.mono ?_⟩
      rintro e W3 (⟨rfl, hJ3, hk3⟩ | ⟨rfl, hJx3⟩)
      · gi_wp2
        go_ret
        refine .inl ⟨rfl, ⟨p, by simp, (HI.out.of_below hE hb2).chg hE hk3⟩, ?_⟩
        rw [sols_nil, if_pos hsol.out]; exact hJ3
      · gi_wp2
        go_ret
        exact .inr ⟨rfl, _, hpre, hJx3⟩

theorem take_at {x p : List Int} {v : Int} (h : x.take (p.length + 1) = p ++ [v]) : x[p.length]?.getD 0 = v := by
  have h1 : (x.take (p.length + 1))[p.length]? = some v := by rw [h]; simp
  rw [List.getElem?_take] at h1
  simp at h1
  rw [h1]; rfl
theorem take_set {x p : List Int} (v : Int) (h : x.take p.length = p) (hl : p.length < x.length) : (x.set p.length v).take (p.length + 1) = p ++ [v] := by
  rw [List.take_succ_eq_append_getElem (by simpa using hl)]
  rw [List.take_set_of_le (Nat.le_refl _), h]
  simp
theorem take_less {x p : List Int} {v : Int} (h : x.take (p.length + 1) = p ++ [v]) : x.take p.length = p := by
  have : (x.take (p.length + 1)).take p.length = p := by rw [h]; simp
  rw [List.take_take, Nat.min_eq_left (by omega)] at this
  exact this
set_option maxRecDepth 100000 in
set_option maxHeartbeats 8000000 in
theorem search_calls (E : Env) (hE : E.Ok) (J Jx : List (List Int) → World → Prop) (hJ : ∀ pre A B, J pre A → Chg E.priv A B → J pre B) (hY : Rounds E J Jx) (us : List Int) :
    ∀ (p : List Int) (pre : List (List Int)) (W : World) (x : List Int), E.u.drop p.length = us → p.length ≤ E.u.length → x.take p.length = p → (∀ z ∈ p, 0 ≤ z ∧ z ≤ 1000) → Inv E W x (leftOf E.a E.b p) → J pre W → pre ++ sols E.a E.b us p <+: sols E.a E.b E.u [] →
    CallsIn Fence.wide 0 Try.prog 27 #[.int .i64 p.length, .pointer (some ⟨E.s + 2, 0, none⟩), .pointer (some ⟨E.s + 4, 0, none⟩), .pointer (some ⟨E.s, 0, none⟩), .pointer (some ⟨E.s + 6, 0, none⟩), .pointer (some ⟨E.Bu, 0, none⟩), .pointer (some ⟨E.s + 5, 0, none⟩)] W
      (SPost E J Jx p pre us) := by
  induction us with
  | nil =>
    intro p pre W x hd hple hx hp h hj hpre
    have hn : p.length = E.u.length := by
      have : (E.u.drop p.length).length = 0 := by rw [hd]; rfl
      rw [List.length_drop] at this; omega
    obtain rfl : x = p := by rw [← hx, List.take_of_length_le (by rw [h.hx, hn]; exact Nat.le_refl _)]
    exact search_leaf E hE J Jx hJ hY x pre W hn h hj hpre
  | cons u us ih =>
    intro p pre W x hd hple hx hp h hj hpre
    have hlt : p.length < E.u.length := by
      have : (E.u.drop p.length).length = us.length + 1 := by rw [hd]; rfl
      rw [List.length_drop] at this; omega
    have hu : E.u[p.length]?.getD 0 = u := by
      have : (E.u.drop p.length)[0]? = some u := by rw [hd]; rfl
      rw [List.getElem?_drop] at this
      simp at this; rw [this]; rfl
    have hd' : E.u.drop (p.length + 1) = us := by
      have : (E.u.drop p.length).drop 1 = us := by rw [hd]; rfl
      rw [List.drop_drop] at this; exact this
    have hub := hE.ru u (by rw [← hu, List.getElem?_eq_getElem hlt]; exact List.getElem_mem _)
    have hn2 := hE.u2
    have hrow : ∀ r ∈ E.a, p.length < r.length := fun r hr => by rw [hE.rows r hr]; exact hlt
    have hxl : p.length < x.length := by rw [h.hx]; exact hlt
    have hz0 := leftOf_zero E.a E.b p hrow
    have hW1 := h.setx hE p.length 0
    rw [← hz0] at hW1
    have hsC : Chg E.priv W (W.setCell ⟨E.s + 1, p.length, none⟩ (.int .i64 0)) := (Chg.refl _ W).setCell (p := ⟨E.s + 1, p.length, none⟩) ⟨show E.s ≤ E.s + 1 by omega, show E.s + 1 < E.s + 7 by omega⟩ _
    have hj1 := hJ _ _ _ hj hsC
    have ht1 := take_set 0 hx hxl
    have cX := cell_of_one h.xb
    have cx := h.xcell p.length hlt
    have fx := blk_frozen h.xr p.length
    rw [sols_cons] at hpre
    obtain ⟨un, hun⟩ := Int.eq_ofNat_of_zero_le hub.1
    subst hun
    rw [Int.toNat_natCast] at hpre
    replace hW1 := Aside0.mk hW1
    replace hj1 := Aside0.mk hj1
    replace ht1 := Aside0.mk ht1
    replace hz0 := Aside0.mk hz0
    replace hd' := Aside0.mk hd'
    replace hu := Aside0.mk hu
    replace hpre := Aside0.mk hpre
    replace hrow := Aside0.mk hrow
    replace hp := Aside0.mk hp
    clear hd hx h hj hsC hxl hple
    obtain ⟨n, hn⟩ : ∃ n, E.u.length = n := ⟨_, rfl⟩
    rw [hn] at cX hlt hn2
    replace hn := Aside0.mk hn
    have hne : ((p.length : Int) == (n : Int)) = false := by simp; omega
    refine callsIn_of_wp Try.func27 rfl trivial ?_ rfl
    simp only [Try.ntmps27, List.size_toArray, List.length_cons, List.length_nil, Nat.reduceAdd, Nat.reduceSub, Array.replicate_succ, Array.replicate_zero, List.push_toArray, List.append_toArray, List.nil_append, List.cons_append]
    gi_wp2
    gi_loopg [] un (fun gk wr => ∃ (v : Nat) (x' : List Int), v ≤ un ∧ Aside0 (gk = un - v) ∧ Aside0 (x'.take (p.length + 1) = p ++ [(v : Int)]) ∧ Aside0 (Inv E wr x' (leftOf E.a E.b (p ++ [(v : Int)]))) ∧ Aside0 (J (pre ++ upto E.a E.b us p v) wr))
    case atStart => exact ⟨0, _, Nat.zero_le _, ⟨by omega⟩, ht1, hW1, ⟨by rw [upto_zero, List.append_nil]; exact hj1.out⟩⟩
    case round =>
      clear hW1 ht1 hj1 cX cx fx
      obtain ⟨v, x', hv, hg, ht, hI, hJr⟩ := hrel
      have cS := cell_of_one hI.out.fs
      have hp' : Aside0 (∀ z ∈ p ++ [(v : Int)], 0 ≤ z ∧ z ≤ 1000) := ⟨by
        intro z hz
        rcases List.mem_append.1 hz with hz | hz
        · exact hp.out z hz
        · rw [List.mem_singleton.1 hz]; omega⟩
      have hpl : (p ++ [(v : Int)]).length = p.length + 1 := by simp
      have hpre' : Aside0 ((pre ++ upto E.a E.b us p v) ++ sols E.a E.b us (p ++ [(v : Int)]) <+: sols E.a E.b E.u []) := ⟨by
        rw [List.append_assoc, ← upto_succ]
        exact ((List.prefix_append_right_inj _).2 (upto_prefix _ _ _ _ (v + 1) (un + 1) (by omega))).trans hpre.out⟩
      have hih := ih (p ++ [(v : Int)]) (pre ++ upto E.a E.b us p v) wr x' (by rw [hpl]; exact hd'.out) (by rw [hpl, hn.out]; omega) (by rw [hpl]; exact ht.out) hp'.out hI.out hJr.out hpre'.out
      rw [hpl] at hih
      replace hpl := Aside0.mk hpl
      have e1 : ((p.length + 1 : Nat) : Int) = (p.length : Int) + 1 := by omega
      rw [e1] at hih
      replace hih := Aside0.mk hih
      clear e1 ih
      gi_wp2
      refine ⟨trivial, rfl, hih.out.mono ?_⟩
      clear hih hI hJr ht cS hp' hpre'
      rintro e W3 (⟨rfl, ⟨x3, hx3, hI3⟩, hJ3⟩ | ⟨rfl, hq⟩)
      · rw [hpl.out] at hx3
        rw [List.append_assoc, ← upto_succ] at hJ3
        have cX := cell_of_one hI3.xb
        have cU := cell_of_one hI3.bu
        rw [hn.out] at cX cU
        have cx := hI3.xcell p.length (by rw [hn.out]; exact hlt)
        rw [take_at hx3] at cx
        have fx := blk_frozen hI3.xr p.length
        obtain ⟨au, hAu, cu⟩ := int_at (Kd.C_below hE.hu hI3.b0) p.length (by rw [hn.out]; exact hlt)
        rw [List.getD_eq_getElem?_getD, hu.out] at cu
        have cF := cell_of_one hI3.fa
        have hadd : Aside0 (∀ (W' : World) (k : Int), Inv E W' x3 (leftOf E.a E.b (p ++ [(v : Int)])) → (-1000 ≤ k ∧ k ≤ 1000) → CallsIn Fence.wide 0 Try.prog 26 #[.int .i64 p.length, .int .i64 k, .pointer (some ⟨E.Ba, 0, none⟩), .pointer (some ⟨E.s + 4, 0, none⟩)] W' fun e W'' =>
            e = .returned (.tuple #[]) ∧ Inv E W'' x3 (leftOf E.a E.b (p ++ [(v : Int) + k])) ∧ Chg E.priv W' W'') := ⟨by
          intro W' k hI' hk
          have := add_calls E hE W' x3 _ hI' p.length k (by rw [hn.out]; exact hlt) hk (leftOf_bound _ _ _ hE.ra hE.rb (by
            intro z hz
            rcases List.mem_append.1 hz with hz | hz
            · exact hp.out z hz
            · rw [List.mem_singleton.1 hz]; omega) (by simp; omega))
          rw [leftOf_snoc _ _ _ _ _ hrow.out] at this
          exact callsIn_wide.2 this⟩
        replace hx3 := Aside0.mk hx3
        replace hI3 := Aside0.mk hI3
        replace hJ3 := Aside0.mk hJ3
        by_cases hvu : v = un
        · subst hvu
          by_cases hv0 : v = 0
          · subst hv0
            gi_wp2
            gi_region
            all_goals gi_wp2
            go_ret
            refine .inl ⟨rfl, ⟨_, ?_, (hI3.out.drew.setx hE p.length 0).cast_ (by rw [← hz0.out]; rfl)⟩, ?_⟩
            · exact take_less (take_set 0 (take_less hx3.out) (by rw [hI3.out.hx, hn.out]; exact hlt))
            · rw [sols_cons]; exact hJ _ _ _ hJ3.out ((Chg.refl _ W3).drew.setCell (p := ⟨E.s + 1, p.length, none⟩) ⟨show E.s ≤ E.s + 1 by omega, show E.s + 1 < E.s + 7 by omega⟩ _)
          · have hv1 : 0 < v := by omega
            have hwr : IntKind.i64.wrap (-(v : Int)) = -(v : Int) := IntWalk.i64_in _ (by omega)
            gi_wp2
            gi_region
            all_goals gi_wp2
            gi_region_with (refine ⟨trivial, rfl, (hadd.out _ _ hI3.out.drew.drew (by omega)).mono ?_⟩; rintro e W4 ⟨rfl, hI4, hC4⟩; have cX4 := cell_of_one hI4.xb; rw [hn.out] at cX4; have cx4 := hI4.xcell p.length (by rw [hn.out]; exact hlt); have fx4 := blk_frozen hI4.xr p.length)
            all_goals gi_wp2
            all_goals go_ret
            all_goals
              refine .inl ⟨rfl, ⟨_, ?_, (hI4.setx hE p.length 0).cast_ (by rw [← hz0.out]; congr 2; simp; omega)⟩, ?_⟩
              · exact take_less (take_set 0 (take_less hx3.out) (by rw [hI3.out.hx, hn.out]; exact hlt))
              · rw [sols_cons]; exact hJ _ _ _ hJ3.out (((Chg.refl _ W3).drew.drew.trans hC4).setCell (p := ⟨E.s + 1, p.length, none⟩) ⟨show E.s ≤ E.s + 1 by omega, show E.s + 1 < E.s + 7 by omega⟩ _)
        · gi_wp2
          gi_region
          all_goals gi_wp2
          refine ⟨trivial, rfl, (hadd.out _ _ hI3.out.drew (by omega)).mono ?_⟩
          rintro e W4 ⟨rfl, hI4, hC4⟩
          have cX4 := cell_of_one hI4.xb
          rw [hn.out] at cX4
          have cx4 := hI4.xcell p.length (by rw [hn.out]; exact hlt)
          rw [take_at hx3.out] at cx4
          have fx4 := blk_frozen hI4.xr p.length
          have hI5 := Aside0.mk (hI4.setx hE p.length ((v : Int) + 1))
          have ht5 := Aside0.mk (take_set ((v : Int) + 1) (take_less hx3.out) (by rw [hI3.out.hx, hn.out]; exact hlt))
          have hJ5 := Aside0.mk (hJ _ _ _ hJ3.out (((Chg.refl _ W3).drew.trans hC4).setCell (p := ⟨E.s + 1, p.length, none⟩) ⟨show E.s ≤ E.s + 1 by omega, show E.s + 1 < E.s + 7 by omega⟩ (.int .i64 ((v : Int) + 1))))
          clear hI4 hC4 hadd cX cU cx fx cu cF hI3 hJ3 hx3
          gi_wp2
          gi_roundg (un - (v + 1))
          case rel => exact ⟨v + 1, _, by omega, ⟨rfl⟩, ht5, hI5, hJ5⟩
          case measure => have := hg.out; omega
      · gi_wp2
        go_ret
        exact .inr ⟨rfl, hq⟩

end Go.Proofs.Ytlckejjmkjgknab.Hy
