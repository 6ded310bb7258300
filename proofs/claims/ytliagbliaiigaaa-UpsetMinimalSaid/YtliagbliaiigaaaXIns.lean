/- By hand (up_ins, up_own): a part of this seat's proofs. -/
import Derived.Test.YtliagbliaiigaaaXStd
import Derived.Deep.RegionLaw
import Derived.Lib.AppendZerosOnto
import Derived.Lib.JoinLaws
import Derived.Laws.NewBlocks
import Derived.Laws.Externs
import Derived.Lib.Overlaps
import Derived.Laws.IdiomCopy
namespace Go.Proofs.Ytliagbliaiigaaa.Hy
open Go.RowKit Go.Shelf Go.Proofs.YtliagbliaiigaaaW.PrintWords Go.Proofs.YtliagbliaiigaaaW.PrintLast Go.Proofs.YtliagbliaiigaaaW.PrintMore
set_option linter.unusedVariables false
set_option linter.unusedSimpArgs false
attribute [local go_sem] Oper.semAt_some
/-! ### slices.Insert of one element -/
theorem opCopy {P : Program} (w : World) {o : Oper} {a : Act} {K : Act → World → Prop} {Q : Exit → Act → World → Prop} (d s : Operand) (t t' : TypeId)
    (ho : o.op = .call { callee := .builtin .copy, args := #[d, s], argTypes := #[t, t'] }) {v u : Value} (hd : a.eval d = v) (hs : a.eval s = u) {v' : Value} {w' : World}
    (hr : (Builtin.copy_ #[t, t'] o.type #[v, u]).run P w = .ok v' w') (h : K (a.put o.dst v') w') : o.wp P a w K Q := by
  unfold Oper.wp execOp
  simp only [ho, resolve, invoke, builtin, Sem.run_bind, Sem.run_pure, Result.andThen_ok, List.map_toArray, List.map_cons, List.map_nil, hd, hs, hr]
  exact h
theorem listCopy {P : Program} (w : World) {ops : Array Oper} {rest : List Oper} {o : Oper} {a : Act} {Q : Exit → Act → World → Prop} (hgd : o.guard = none) (d s : Operand) (t t' : TypeId)
    (ho : o.op = .call { callee := .builtin .copy, args := #[d, s], argTypes := #[t, t'] }) {v u : Value} (hd : a.eval d = v) (hs : a.eval s = u) {v' : Value} {w' : World}
    (hr : (Builtin.copy_ #[t, t'] o.type #[v, u]).run P w = .ok v' w') (h : wpList P ops Q rest (a.put o.dst v') w') : wpList P ops Q (o :: rest) a w :=
  wpList_plain hgd fun _ hK => opCopy w d s t t' ho hd hs hr (hK _ _ h)
theorem stepCopy {P : Program} {ops : Array Oper} {o : Oper} {a : Act} {w : World} {K : Act → World → Prop} {Q : Exit → Act → World → Prop} {E : Prop}
    (hg : o.guard = none) (d x : Operand) (t t' : TypeId) (hop : o.op = Op.call { callee := Callee.builtin Builtin.copy, args := #[d, x], argTypes := #[t, t'] })
    {v u : Value} (hd : a.eval d = v) (hx : a.eval x = u) {v' : Value} {w' : World} (hr : (Builtin.copy_ #[t, t'] o.type #[v, u]).run P w = .ok v' w') (hK : K (a.put o.dst v') w') :
    if Region.wanted o (yielded ops a.tmps) = true then Oper.wp P o a w K Q else E := by
  have hw : Region.wanted o (yielded ops a.tmps) = true := by simp [Region.wanted, hg]
  rw [if_pos hw]
  exact opCopy w d x t t' hop hd hx hr hK
theorem drew_sets (b : Nat) : ∀ (vs : List Value) (o : Nat) (w : World), (w.setCells b o vs).drew = w.drew.setCells b o vs
  | [], _, _ => rfl
  | v :: r, o, w => by rw [World.setCells, World.setCells, drew_sets b r]; rfl
/-- cells written over a known block -/
theorem sets_blk {W : World} {g t : Nat} {cs : List Value} (h : W.heap[g]? = some (.cells cs.toArray t (0, 0))) (o : Nat) (vs : List Value) (hl : o + vs.length ≤ cs.length) :
    (W.setCells g o vs).heap[g]? = some (.cells (cs.take o ++ vs ++ cs.drop (o + vs.length)).toArray t (0, 0)) := by
  obtain ⟨cur, h1, h2, h3⟩ := setCells_row vs o W _ h (by simpa using hl)
  rw [h1]
  congr 2
  apply Array.toList_inj.1
  rw [h3]
theorem run_copyB {W : World} {g t e ty : Nat} {cs : List Value} (hu : Try.prog.underlying t = some (.slice e)) (hz : (Try.prog.info? e).map (·.size) = some 1) (h : W.heap[g]? = some (.cells cs.toArray e (0, 0))) (o n c : Nat) (ad : Addr) (m k : Nat) (vs : List Value)
    (hn : vs.length = Nat.min m n) (hl : o + vs.length ≤ cs.length) (hs : ∀ j v, vs[j]? = some v → W.cell? (ad.add j) = some v) (h1 : ∀ v ∈ vs, v.oneCell' = true) :
    (Builtin.copy_ #[t, t] ty #[.slice (some ⟨g, o, none⟩) n c, .slice (some ad) m k]).run Try.prog W = .ok (goInt vs.length) (W.setCells g o vs) :=
  run_copy_cells W t t ty e g o n c ad m k vs hu hz hn hs (fun j hj => by rw [blk_cell h, List.getElem?_toArray, List.getElem?_eq_getElem (by omega)]; rfl) (fun j hj => blk_frozen h _) h1
theorem ins_list {vs tl : List Value} {z x : Value} {i : Nat} (hi : i < vs.length) :
    (((vs ++ z :: tl).take (i + 1) ++ vs.drop i ++ (vs ++ z :: tl).drop (i + 1 + (vs.drop i).length)).take i ++ [x] ++ ((vs ++ z :: tl).take (i + 1) ++ vs.drop i ++ (vs ++ z :: tl).drop (i + 1 + (vs.drop i).length)).drop (i + [x].length)) = vs.take i ++ x :: vs.drop i ++ tl := by
  have e1 : (vs ++ z :: tl).take (i + 1) = vs.take (i + 1) := List.take_append_of_le_length (by omega)
  have e2 : (vs ++ z :: tl).drop (i + 1 + (vs.drop i).length) = tl := by
    rw [List.length_drop, show i + 1 + (vs.length - i) = vs.length + 1 by omega, show vs ++ z :: tl = (vs ++ [z]) ++ tl by simp, List.drop_left' (by simp)]
  have e3 : (vs.take (i + 1)).length = i + 1 := by rw [List.length_take]; omega
  rw [e1, e2, List.append_assoc (vs.take (i + 1)), List.take_append_of_le_length (by omega), List.take_take, Nat.min_eq_left (Nat.le_succ i), List.length_singleton, List.drop_left' e3]
  simp
theorem below_setCells_ {B : Nat} {a : World} (b : Nat) (hb : B ≤ b) : ∀ (vs : List Value) (o : Nat) {w : World}, Below B a w → Below B a (w.setCells b o vs)
  | [], _, _, h => h
  | v :: r, o, _, h => below_setCells_ b hb r (o + 1) (h.setCell hb v)
theorem infoR : (Try.prog.info? 28).map (fun i => (i.zero, i.size, i.bytes)) = some (some (.slice none 0 0), 1, 24) := by kernel_rfl
theorem sizeR : (Try.prog.info? 28).map (·.size) = some 1 := by kernel_rfl
set_option maxRecDepth 100000 in
set_option maxHeartbeats 8000000 in
theorem insert_shift (w : World) (ob i vb : Nat) (vs tl : List Value) (x z : Value) (hB : w.heap[ob]? = some (.cells (vs ++ z :: tl).toArray 28 (0, 0))) (hV : w.heap[vb]? = some (.cells #[x] 28 (0, 0))) (hne : vb ≠ ob) (hi : i < vs.length) (hl : vs.length ≤ 1000000) (htl : vs.length + 1 + tl.length ≤ 9223372036854775807)
    (h1 : ∀ v ∈ vs, v.oneCell' = true) (h1x : x.oneCell' = true) :
    Calls Try.prog 37 #[.slice (some ⟨ob, 0, none⟩) vs.length (vs.length + 1 + tl.length), .int .i64 (i : Int), .slice (some ⟨vb, 0, none⟩) 1 1] w fun e w' =>
      e = .returned (.slice (some ⟨ob, 0, none⟩) (vs.length + 1) (vs.length + 1 + tl.length)) ∧ Chg (fun k => k = ob) w w' ∧ w'.heap[ob]? = some (.cells (vs.take i ++ x :: vs.drop i ++ tl).toArray 28 (0, 0)) := by
  have hov : ∀ lb cb, (callFunc 55 #[.slice (some ⟨vb, 0, none⟩) 1 1, .slice (some ⟨ob, i + 1, none⟩) lb cb]).run Try.prog w = .ok (.value (.bool false)) w := fun lb cb => by
    rw [run_callFunc_extern Try.func55 (by kernel_rfl) (by kernel_rfl) (by kernel_rfl) (e := Extern.SlicesOverlaps.overlaps #[22, 22] #[4]) (by kernel_rfl)]
    rw [Lib.run_overlaps_apart w 22 4 28 Try.underlying22 1 (fun _ => by kernel_rfl) ⟨vb, 0, none⟩ ⟨ob, i + 1, none⟩ 1 1 lb cb hne 28 28 1 (vs ++ z :: tl).length (by simp [World.shape?, hV]) (by simp [World.shape?, hB]) (by simp) (blk_frozen hV 0) (blk_frozen hV 1)]
    rfl
  have hdl : (vs.drop i).length = vs.length - i := by rw [List.length_drop]
  have hcl : (vs ++ z :: tl).length = vs.length + 1 + tl.length := by simp; omega
  have hBd : w.drew.heap[ob]? = some (.cells (vs ++ z :: tl).toArray 28 (0, 0)) := hB
  have hs1 := sets_blk hBd (i + 1) (vs.drop i) (by omega)
  have hcp1 : ∀ ty dc sc, (Builtin.copy_ #[22, 22] ty #[.slice (some ⟨ob, i + 1, none⟩) (vs.length - i) dc, .slice (some ⟨ob, i, none⟩) (vs.length + 1 - i) sc]).run Try.prog w.drew = .ok (goInt (vs.drop i).length) (w.drew.setCells ob (i + 1) (vs.drop i)) := fun ty dc sc =>
    run_copyB Try.underlying22 sizeR hBd (i + 1) (vs.length - i) dc ⟨ob, i, none⟩ (vs.length + 1 - i) sc (vs.drop i) (by rw [hdl]; simp only [Nat.min_def]; split <;> omega) (by omega)
      (fun j v hj => by
        rw [List.getElem?_drop] at hj
        have hlt := (List.getElem?_eq_some_iff.1 hj).1
        rw [add_at, blk_cell hBd, List.getElem?_toArray, List.getElem?_append_left hlt]; exact hj) (fun v hv => h1 v (List.mem_of_mem_drop hv))
  obtain ⟨W1, hW1⟩ : ∃ W1, w.drew.setCells ob (i + 1) (vs.drop i) = W1 := ⟨_, rfl⟩
  rw [hW1] at hs1 hcp1
  have hV1 : W1.heap[vb]? = some (.cells #[x] 28 (0, 0)) := by rw [← hW1, setCells_far _ _ vb hne]; exact hV
  have hcp2 : ∀ ty dc, (Builtin.copy_ #[22, 22] ty #[.slice (some ⟨ob, i, none⟩) (vs.length + 1 - i) dc, .slice (some ⟨vb, 0, none⟩) 1 1]).run Try.prog W1 = .ok (goInt 1) (W1.setCells ob i [x]) := fun ty dc =>
    run_copyB Try.underlying22 sizeR hs1 i (vs.length + 1 - i) dc ⟨vb, 0, none⟩ 1 1 [x] (by simp only [Nat.min_def]; split <;> simp <;> omega) (by simp; omega)
      (fun j v hj => by
        have hlt := (List.getElem?_eq_some_iff.1 hj).1
        obtain rfl : j = 0 := by simpa using hlt
        rw [add_at, blk_cell hV1]; simpa using hj) (fun v hv => by rw [List.mem_singleton.1 hv]; exact h1x)
  have hfin : Aside0 (Chg (fun k => k = ob) w (W1.setCells ob i [x]) ∧ (W1.setCells ob i [x]).heap[ob]? = some (.cells (vs.take i ++ x :: vs.drop i ++ tl).toArray 28 (0, 0))) := ⟨by
    refine ⟨?_, ?_⟩
    · rw [← hW1]
      exact (((Chg.refl (fun k => k = ob) w).drew).setCells (g := ob) rfl _ _).setCells rfl _ _
    · rw [sets_blk hs1 i [x] (by simp; omega)]
      rw [ins_list hi]⟩
  have hz1 : ¬ ((i : Int) = (vs.length : Int)) := by omega
  have hz2 : ¬ ((vs.length + 1 + tl.length : Nat) = i + 1) := by omega
  have hz3 : ¬ ((vs.length + 1 + tl.length : Nat) = i) := by omega
  have hw1 : IntKind.i64.wrap ((i : Int) + 1) = (i : Int) + 1 := IntWalk.i64_in _ (by omega)
  have htn : ((i : Int) + 1).toNat = i + 1 := by omega
  have hb1 : (0 : Int) ≤ (i : Int) + 1 := by omega
  have hin : i ≤ vs.length := by omega
  have hb3 : (i : Int) ≤ (vs.length : Int) + 1 := by omega
  have hz4 : ¬ (vs.length + 1 + tl.length = i + 1) := by omega
  clear hs1 hBd hV1 hW1 hB hV hcl hdl
  go_enter Try.func37, Try.ntmps37
  go_wp2_with (simp only [hov])
  go_region_law (refine stepCopy rfl _ _ 22 22 rfl (by simp [Act.eval, Act.put]) (by simp [Act.eval, Act.put]) (hcp1 _ _ _) ?_)
  go_wp2_with (refine listCopy _ rfl _ _ 22 22 rfl rfl rfl (hcp2 _ _) ?_)
  go_ret
  exact ⟨rfl, hfin.out⟩
set_option maxRecDepth 100000 in
set_option maxHeartbeats 8000000 in
theorem insert_end (w : World) (base vb : Nat) (v : Value) (vs : List Value) (x : Value) (hown : w.ownsRow base 28 1 v vs.length vs) (hV : w.heap[vb]? = some (.cells #[x] 28 (0, 0))) (hb : base ≤ w.heap.size) (hl : vs.length ≤ 1000000) (h1x : x.oneCell' = true) :
    Calls Try.prog 37 #[v, .int .i64 (vs.length : Int), .slice (some ⟨vb, 0, none⟩) 1 1] w fun e w' =>
      ∃ v', e = .returned v' ∧ w'.ownsRow base 28 1 v' (vs.length + 1) (vs ++ [x]) ∧ w.grownBy w' v.ownBlock ∧ (v'.ownBlock = v.ownBlock ∨ v'.ownBlock = some w.heap.size) := by
  obtain ⟨i0, hi, hz0, hz1, hz2⟩ := info_parts infoR
  have hcell : ∀ j u, ([x] : List Value)[j]? = some u → w.cell? ((⟨vb, 0, none⟩ : Addr).add j) = some u := fun j u hj => by
    have hlt := (List.getElem?_eq_some_iff.1 hj).1
    obtain rfl : j = 0 := by simpa using hlt
    rw [add_at, blk_cell hV]; simpa using hj
  replace hcell := Aside0.mk hcell
  have hcase : v = .slice none 0 0 ∨ ∃ g cap, v = .slice (some ⟨g, 0, none⟩) vs.length cap ∧ vs.length ≤ cap := by
    rcases hown.2 with ⟨h, _⟩ | ⟨g, cap, cur, h, _, _, h2, _⟩
    · exact .inl h
    · exact .inr ⟨g, cap, h, h2⟩
  replace hown := Aside0.mk hown
  have hz : (1 : Int) = 0 ↔ False := by simp
  rcases hcase with rfl | ⟨g, cap, rfl, hcap⟩
  · have hv0 : vs = [] := by
      rcases hown.out.2 with ⟨_, h⟩ | ⟨g, cap, cur, h, _⟩
      · exact List.eq_nil_of_length_eq_zero h
      · cases h
    subst hv0
    clear hV
    go_enter Try.func37, Try.ntmps37
    go_wp2_with (at_builtin; refine wpList_append_own_at _ rfl (.tmp 23) (.tmp 24) 22 rfl base 28 i0 (.slice none 0 0) 1 24 Try.underlying22 hi hz0 hz1 hz2 rfl (by decide) _ _ _ rfl hown.out ⟨vb, 0, none⟩ 1 1 [x] rfl rfl hcell.out (by simpa using h1x) (by simp only [maxLen]; omega) (by omega) hb ?_; intro v1 w1 hown1 hg1 _ hat1; replace hown1 := Aside0.mk hown1; replace hg1 := Aside0.mk hg1; replace hat1 := Aside0.mk hat1)
    go_ret
    exact ⟨_, rfl, hown1.out, hg1.out, hat1.out⟩
  · clear hV
    go_enter Try.func37, Try.ntmps37
    go_wp2_with (at_builtin; refine wpList_append_own_at _ rfl (.tmp 23) (.tmp 24) 22 rfl base 28 i0 (.slice none 0 0) 1 24 Try.underlying22 hi hz0 hz1 hz2 rfl (by decide) _ _ _ rfl hown.out ⟨vb, 0, none⟩ 1 1 [x] rfl rfl hcell.out (by simpa using h1x) (by simp only [maxLen]; omega) (by omega) hb ?_; intro v1 w1 hown1 hg1 _ hat1; replace hown1 := Aside0.mk hown1; replace hg1 := Aside0.mk hg1; replace hat1 := Aside0.mk hat1)
    all_goals (
      go_ret
      exact ⟨_, rfl, hown1.out, hg1.out, hat1.out⟩)
theorem drop_left_add {a b : List Value} {n : Nat} (h : a.length = n) (k : Nat) : (a ++ b).drop (n + k) = b.drop k := by rw [← List.drop_drop, List.drop_left' h]
theorem ins_list2 {vs Z : List Value} {x : Value} {i : Nat} (hi : i < vs.length) (hZ : vs.length + 1 - i ≤ Z.length) :
    (((vs.take i ++ Z).take i ++ [x] ++ (vs.take i ++ Z).drop (i + [x].length)).take (i + 1) ++ vs.drop i ++ ((vs.take i ++ Z).take i ++ [x] ++ (vs.take i ++ Z).drop (i + [x].length)).drop (i + 1 + (vs.drop i).length)) = vs.take i ++ x :: vs.drop i ++ Z.drop (vs.length + 1 - i) := by
  have e0 : (vs.take i).length = i := by rw [List.length_take]; omega
  have e1 : (vs.take i ++ Z).take i = vs.take i := List.take_left' e0
  have e2 : (vs.take i ++ Z).drop (i + [x].length) = Z.drop 1 := drop_left_add e0 _
  have e3 : (vs.take i ++ [x]).length = i + 1 := by rw [List.length_append, e0]; rfl
  rw [e1, e2, List.take_left' e3, drop_left_add e3, List.drop_drop, List.length_drop, show 1 + (vs.length - i) = vs.length + 1 - i by omega]
  simp
theorem zerosR (k : Nat) : (Builtin.zeroCells (Value.slice none 0 0).cells k) = (List.replicate k nilV).toArray := by
  apply Array.toList_inj.1
  simp only [Value.cells]
  apply List.ext_getElem
  · simp [Builtin.zeroCells]
  · intro i h1 h2
    simp [Builtin.zeroCells, nilV, Nat.mod_one]
set_option maxRecDepth 100000 in
set_option maxHeartbeats 8000000 in
theorem insert_grow (w : World) (ob i vb : Nat) (vs : List Value) (x : Value) (hB : w.heap[ob]? = some (.cells vs.toArray 28 (0, 0))) (hV : w.heap[vb]? = some (.cells #[x] 28 (0, 0))) (hi : i < vs.length) (hl : vs.length ≤ 1000000)
    (h1 : ∀ v ∈ vs, v.oneCell' = true) (h1x : x.oneCell' = true) :
    Calls Try.prog 37 #[.slice (some ⟨ob, 0, none⟩) vs.length vs.length, .int .i64 (i : Int), .slice (some ⟨vb, 0, none⟩) 1 1] w fun e w' =>
      ∃ tl : List Value, e = .returned (.slice (some ⟨w.heap.size, 0, none⟩) (vs.length + 1) (vs.length + 1 + tl.length)) ∧ vs.length + 1 + tl.length ≤ maxLen ∧ Below w.heap.size w w' ∧ w'.heap[w.heap.size]? = some (.cells (vs.take i ++ x :: vs.drop i ++ tl).toArray 28 (0, 0)) := by
  obtain ⟨i0, hi0, hz0, hzs, hzb⟩ := info_parts infoR
  have hbw : ob < w.heap.size := blk_lt hB
  have hvw : vb < w.heap.size := blk_lt hV
  have hik : i + (vs.length + 1 - i) = vs.length + 1 := by omega
  have hkk : (vs.length : Int) + 1 - (i : Int) = ((vs.length + 1 - i : Nat) : Int) := by omega
  have hold : (Builtin.firstCells i0.size i (.slice (some ⟨ob, 0, none⟩) i vs.length)).run Try.prog w.drew = .ok (vs.take i).toArray w.drew := by
    rw [hzs]
    exact run_firstCells_some w.drew 1 i ⟨ob, 0, none⟩ i vs.length (vs.take i) (by rw [List.length_take]; omega) (fun j v hj => by
      rw [List.getElem?_take] at hj
      split at hj
      · rw [add_at, blk_cell (show w.drew.heap[ob]? = _ from hB), List.getElem?_toArray, Nat.zero_add]; exact hj
      · cases hj)
  obtain ⟨G, hG⟩ : ∃ G, G = grownCap w (vs.length + 1) vs.length 28 := ⟨_, rfl⟩
  have hGn : vs.length + 1 ≤ G := by rw [hG]; exact grownCap_ge w _ _ _
  have hG63 : G ≤ maxLen := by rw [hG]; exact grownCap_le_maxLen w (vs.length + 1) vs.length _ (by unfold maxLen; omega)
  obtain ⟨Z, hZ⟩ : ∃ Z, Z = List.replicate (vs.length + 1 - i) nilV ++ List.replicate (G - (vs.length + 1)) nilV := ⟨_, rfl⟩
  have hZl : Z.length = G - i := by rw [hZ]; simp; omega
  have hrz : ∀ ty, (Builtin.append_ #[22, 3] ty #[.slice (some ⟨ob, 0, none⟩) i vs.length, .int .i64 ((vs.length : Int) + 1 - (i : Int))]).run Try.prog w =
      .ok (.slice (some ⟨w.heap.size, 0, none⟩) (vs.length + 1) G) (w.drew.alloc (.cells (vs.take i ++ Z).toArray 28)) := fun ty => by
    have h := Lib.run_append_grow_zeros w 22 3 ty 28 i0 _ .i64 .i64 Try.underlying22 Try.underlying3 hi0 hz0 (some ⟨ob, 0, none⟩) i vs.length (vs.take i) hold (vs.length + 1 - i) (by omega) (by omega) (by omega) (by omega) (by rw [hzb]; omega) (by rw [hzb, hik]; exact growslice_fits (by omega) (by omega))
    rw [hik, zerosR, zerosR, ← hG] at h
    rw [hkk, hZ]
    rw [show (vs.take i ++ (List.replicate (vs.length + 1 - i) nilV ++ List.replicate (G - (vs.length + 1)) nilV)).toArray = (vs.take i).toArray ++ (List.replicate (vs.length + 1 - i) nilV).toArray ++ (List.replicate (G - (vs.length + 1)) nilV).toArray by simp]
    exact h
  obtain ⟨ROW, hROW⟩ : ∃ ROW : Array Value, ROW = (vs.take i ++ Z).toArray := ⟨_, rfl⟩
  rw [← hROW] at hrz
  obtain ⟨g, hg⟩ : ∃ g, w.heap.size = g := ⟨_, rfl⟩
  have hN : ((w.alloc (.cells ROW 28)).drew).heap[g]? = some (.cells (vs.take i ++ Z).toArray 28 (0, 0)) := by rw [← hg, ← hROW]; exact blk_new w _
  have hNv : ((w.alloc (.cells ROW 28)).drew).heap[vb]? = some (.cells #[x] 28 (0, 0)) := blk_alloc hV _
  have hNo : ((w.alloc (.cells ROW 28)).drew).heap[ob]? = some (.cells vs.toArray 28 (0, 0)) := blk_alloc hB _
  have hdl : (vs.drop i).length = vs.length - i := by rw [List.length_drop]
  have htl : (vs.take i ++ Z).length = G := by rw [List.length_append, hZl, List.length_take]; omega
  have hgo : ob ≠ g := by omega
  have hS1 := sets_blk hN i [x] (by rw [htl]; simp; omega)
  have hcpA : ∀ ty dc, (Builtin.copy_ #[22, 22] ty #[.slice (some ⟨g, i, none⟩) (vs.length + 1 - i) dc, .slice (some ⟨vb, 0, none⟩) 1 1]).run Try.prog ((w.alloc (.cells ROW 28)).drew) = .ok (goInt 1) (((w.alloc (.cells ROW 28)).drew).setCells g i [x]) := fun ty dc =>
    run_copyB Try.underlying22 sizeR hN i (vs.length + 1 - i) dc ⟨vb, 0, none⟩ 1 1 [x] (by simp only [Nat.min_def]; split <;> simp <;> omega) (by rw [htl]; simp; omega)
      (fun j v hj => by
        have hlt := (List.getElem?_eq_some_iff.1 hj).1
        obtain rfl : j = 0 := by simpa using hlt
        rw [add_at, blk_cell hNv]; simpa using hj) (fun v hv => by rw [List.mem_singleton.1 hv]; exact h1x)
  obtain ⟨W2, hW2⟩ : ∃ W2, W2 = (((w.alloc (.cells ROW 28)).drew).setCells g i [x]).drew := ⟨_, rfl⟩
  have hS2 : W2.heap[g]? = some (.cells ((vs.take i ++ Z).take i ++ [x] ++ (vs.take i ++ Z).drop (i + [x].length)).toArray 28 (0, 0)) := by rw [hW2]; exact hS1
  have hNo2 : W2.heap[ob]? = some (.cells vs.toArray 28 (0, 0)) := by rw [hW2]; exact (setCells_far _ _ ob hgo).trans hNo
  have hcpB : ∀ ty dc, (Builtin.copy_ #[22, 22] ty #[.slice (some ⟨g, i + 1, none⟩) (vs.length - i) dc, .slice (some ⟨ob, i, none⟩) (vs.length - i) (vs.length - i)]).run Try.prog W2 = .ok (goInt (vs.drop i).length) (W2.setCells g (i + 1) (vs.drop i)) := fun ty dc =>
    run_copyB Try.underlying22 sizeR hS2 (i + 1) (vs.length - i) dc ⟨ob, i, none⟩ (vs.length - i) (vs.length - i) (vs.drop i) (by rw [hdl]; simp only [Nat.min_def]; split <;> omega) (by simp only [List.length_append, List.length_take, List.length_drop, List.length_singleton, htl]; omega)
      (fun j v hj => by
        rw [List.getElem?_drop] at hj
        rw [add_at, blk_cell hNo2, List.getElem?_toArray]; exact hj) (fun v hv => h1 v (List.mem_of_mem_drop hv))
  have hfin : Aside0 (∃ tl : List Value, G = vs.length + 1 + tl.length ∧ vs.length + 1 + tl.length ≤ maxLen ∧ Below w.heap.size w (W2.setCells g (i + 1) (vs.drop i)) ∧ (W2.setCells g (i + 1) (vs.drop i)).heap[g]? = some (.cells (vs.take i ++ x :: vs.drop i ++ tl).toArray 28 (0, 0))) := ⟨by
    refine ⟨Z.drop (vs.length + 1 - i), by rw [List.length_drop]; omega, by rw [List.length_drop]; omega, ?_, ?_⟩
    · have hb : Below w.heap.size w (w.alloc (.cells ROW 28)) := below_alloc (Below.refl _ _) _
      rw [hW2, drew_sets]
      have hb2 := below_setCells_ (B := w.heap.size) g (by omega) (vs.drop i) (i + 1) (below_setCells_ (B := w.heap.size) g (by omega) [x] i (hb.drew.drew))
      exact hb2
    · rw [sets_blk hS2 (i + 1) (vs.drop i) (by simp only [List.length_append, List.length_take, List.length_drop, List.length_singleton, htl]; omega), ins_list2 hi (by omega)]⟩
  have hz1 : ¬ ((i : Int) = (vs.length : Int)) := by omega
  have hz2 : ¬ (G = i + 1) := by omega
  have hz3 : ¬ (G = i) := by omega
  have hz4 : ¬ (vs.length = i) := by omega
  have hw1 : IntKind.i64.wrap ((i : Int) + 1) = (i : Int) + 1 := IntWalk.i64_in _ (by omega)
  have htn : ((i : Int) + 1).toNat = i + 1 := by omega
  have hb1 : (0 : Int) ≤ (i : Int) + 1 := by omega
  have hin : i ≤ vs.length := by omega
  have hb3 : (i : Int) ≤ (vs.length : Int) := by omega
  have hGm : G ≤ 9223372036854775807 := by unfold maxLen at hG63; exact hG63
  rw [hg] at hrz
  rw [hW2] at hcpB
  replace hg := Aside0.mk hg
  replace hW2 := Aside0.mk hW2
  clear hN hNv hNo hdl htl hS1 hS2 hNo2 hold hkk hik hZl hZ hG63 hROW hG hB hV h1 h1x
  go_enter Try.func37, Try.ntmps37
  go_wp2_with (first | (at_builtin; refine Lib.wpList_append_run _ rfl _ _ _ _ rfl _ _ rfl rfl _ _ (hrz _) ?_) | (refine listCopy _ rfl (.tmp 43) (.tmp 44) 22 22 rfl rfl rfl (hcpA _ _) ?_))
  go_region_law (refine stepCopy rfl _ _ 22 22 rfl (by simp [Act.eval, Act.put]) (by simp [Act.eval, Act.put]) (hcpB _ _) ?_)
  go_wp2
  go_ret
  rw [hg.out, ← hW2.out]
  obtain ⟨tl, e1, e2, e3, e4⟩ := hfin.out
  rw [hg.out] at e3
  exact ⟨tl, by rw [← e1]; rfl, e2, e3, e4⟩

/-! ### the same by what is owned -/
def Old (v : Value) (k : Nat) : Prop := some k = v.ownBlock
theorem own_open {w : World} {base n : Nat} {v : Value} {vs : List Value} (h : w.ownsRow base 28 1 v n vs) :
    (v = .slice none 0 0 ∧ n = 0 ∧ vs = []) ∨ ∃ g tl, v = .slice (some ⟨g, 0, none⟩) n (n + tl.length) ∧ base ≤ g ∧ n = vs.length ∧ n + tl.length ≤ 9223372036854775807 ∧ w.heap[g]? = some (.cells (vs ++ tl).toArray 28 (0, 0)) := by
  obtain ⟨h1, h2⟩ := h
  rcases h2 with ⟨e, h0⟩ | ⟨g, cap, cur, e, hb, hh, hn, hm, hs, ht⟩
  · exact .inl ⟨e, h0, List.eq_nil_of_length_eq_zero (by omega)⟩
  · refine .inr ⟨g, cur.toList.drop n, ?_, hb, by omega, ?_, ?_⟩
    · rw [e, List.length_drop, Array.length_toList]
      congr 1
      omega
    · rw [List.length_drop, Array.length_toList]
      unfold maxLen at hm
      omega
    · rw [hh]
      congr 2
      apply Array.toList_inj.1
      have : vs = cur.toList.take n := by rw [← ht, Nat.mul_one]
      simp [this]
theorem own_mk {w : World} {base g : Nat} {vs tl : List Value} (hb : base ≤ g) (hm : vs.length + tl.length ≤ 9223372036854775807) (hh : w.heap[g]? = some (.cells (vs ++ tl).toArray 28 (0, 0))) :
    w.ownsRow base 28 1 (.slice (some ⟨g, 0, none⟩) vs.length (vs.length + tl.length)) vs.length vs :=
  ⟨by simp, .inr ⟨g, _, _, rfl, hb, hh, by omega, by unfold maxLen; exact hm, by simp, by simp⟩⟩
def InsPost (base : Nat) (w : World) (v : Value) (ys : List Value) (e : Ending) (w' : World) : Prop :=
  ∃ v', e = .returned v' ∧ w'.ownsRow base 28 1 v' ys.length ys ∧ Chg (Old v) w w' ∧ (v'.ownBlock = v.ownBlock ∨ v'.ownBlock = some w.heap.size)
theorem insert_own (w : World) (base vb i : Nat) (v : Value) (vs : List Value) (x : Value) (hown : w.ownsRow base 28 1 v vs.length vs) (hV : w.heap[vb]? = some (.cells #[x] 28 (0, 0))) (hvb : some vb ≠ v.ownBlock) (hi : i ≤ vs.length) (hb : base ≤ w.heap.size) (hl : vs.length ≤ 1000000)
    (h1 : ∀ v ∈ vs, v.oneCell' = true) (h1x : x.oneCell' = true) :
    Calls Try.prog 37 #[v, .int .i64 (i : Int), .slice (some ⟨vb, 0, none⟩) 1 1] w (InsPost base w v (vs.take i ++ x :: vs.drop i)) := by
  have hlen : (vs.take i ++ x :: vs.drop i).length = vs.length + 1 := by simp; omega
  rcases Nat.lt_or_ge i vs.length with hlt | hge
  · rcases own_open hown with ⟨_, h0, _⟩ | ⟨g, tl, rfl, hbg, _, hm, hh⟩
    · omega
    · cases tl with
      | nil =>
        rw [List.append_nil] at hh
        refine (insert_grow w g i vb vs x hh hV hlt hl h1 h1x).mono ?_
        rintro e w' ⟨tl, rfl, hm2, hbel, hh2⟩
        refine ⟨_, rfl, ?_, Chg.of_below hbel _, .inr rfl⟩
        have := own_mk (base := base) hb (by rw [hlen]; unfold maxLen at hm2; exact hm2) hh2
        rwa [hlen] at this ⊢
      | cons z tl =>
        have e : vs.length + (z :: tl).length = vs.length + 1 + tl.length := by rw [List.length_cons]; omega
        rw [e] at hm ⊢
        refine (insert_shift w g i vb vs tl x z hh hV (fun h => hvb (by rw [h]; rfl)) hlt hl hm h1 h1x).mono ?_
        rintro e w' ⟨rfl, hc, hh2⟩
        refine ⟨_, rfl, ?_, ?_, .inl rfl⟩
        · have := own_mk (base := base) hbg (by rw [hlen]; exact hm) hh2
          rwa [hlen] at this ⊢
        · exact ⟨hc.os, hc.tape, hc.output, hc.size, fun k hk hs => hc.block k hk (fun h => hs (by rw [h]; rfl))⟩
  · obtain rfl : i = vs.length := by omega
    refine (insert_end w base vb v vs x hown hV hb hl h1x).mono ?_
    rintro e w' ⟨v', rfl, ho, hg, hat⟩
    refine ⟨v', rfl, ?_, Chg.of_grown hg (fun k hk => hk.symm), hat⟩
    rw [hlen, List.take_length, List.drop_length]
    exact ho
theorem keptV_one {p : Nat → Bool} {vs : List Value} {j : Nat} : ∀ u ∈ keptV p vs j, u ∈ vs ∨ u = nilV := by
  intro u hu
  obtain ⟨i, _, rfl⟩ := List.mem_map.1 hu
  rw [List.getD_eq_getElem?_getD]
  rcases Nat.lt_or_ge i vs.length with h | h
  · rw [List.getElem?_eq_getElem h]; exact .inl (List.getElem_mem h)
  · rw [List.getElem?_eq_none h]; exact .inr rfl
set_option maxRecDepth 100000 in
set_option maxHeartbeats 4000000 in
theorem deleteFunc_nil (w : World) (g : Nat) (pre lb : Array Value) (eg : ∀ args w, (callFunc g args).run Try.prog w = .ok (.enter g args) w) :
    Calls Try.prog 33 #[.slice none 0 0, .func (.func g) pre lb] w fun e w' => e = .returned (.slice none 0 0) ∧ Below w.heap.size w w' := by
  have hidx := Aside0.mk (indexFunc_in w none 0 [] g pre lb (fun _ => false) (fun i hi => by simp at hi) (fun i W hi => by simp at hi) (by simp) eg)
  go_enter Try.func33, Try.ntmps33
  go_wp2_with fail
  refine hidx.out.mono ?_
  rintro e w1 ⟨rfl, hb1⟩
  rw [firstP_none (fun i hi => rfl)]
  replace hb1 := Aside0.mk hb1
  go_wp2
  go_ret
  exact ⟨rfl, hb1.out⟩
def DelPost (base : Nat) (w : World) (v : Value) (ys : List Value) (e : Ending) (w' : World) : Prop :=
  ∃ v', e = .returned v' ∧ w'.ownsRow base 28 1 v' ys.length ys ∧ Chg (Old v) w w' ∧ v'.ownBlock = v.ownBlock
theorem deleteFunc_own (w : World) (base : Nat) (v : Value) (vs : List Value) (g : Nat) (pre lb : Array Value) (p : Nat → Bool) (hown : w.ownsRow base 28 1 v vs.length vs)
    (hp : ∀ (i : Nat) (W : World), i < vs.length → Chg (Old v) w W → Calls Try.prog g (pre ++ #[vs.getD i nilV] ++ lb) W fun e w' => e = .returned (.bool (p i)) ∧ ∃ q', w' = W.drewN q')
    (hl : vs.length ≤ 1000000) (hsl : ∀ i, i < vs.length → ∃ A n c, vs.getD i nilV = .slice A n c) (eg : ∀ args w, (callFunc g args).run Try.prog w = .ok (.enter g args) w) :
    Calls Try.prog 33 #[v, .func (.func g) pre lb] w (DelPost base w v (keptV p vs vs.length)) := by
  rcases own_open hown with ⟨rfl, h0, rfl⟩ | ⟨ob, tl, rfl, hbg, _, hm, hh⟩
  · refine (deleteFunc_nil w g pre lb eg).mono ?_
    rintro e w' ⟨rfl, hb⟩
    exact ⟨_, rfl, by simpa [keptV] using own_nil w' base _ 1, Chg.of_below hb _, rfl⟩
  · have hto : ∀ k, k = ob → Old (.slice (some ⟨ob, 0, none⟩) vs.length (vs.length + tl.length)) k := fun k h => by rw [h]; rfl
    have hof : ∀ {W W' : World}, Chg (fun k => k = ob) W W' → Chg (Old (.slice (some ⟨ob, 0, none⟩) vs.length (vs.length + tl.length))) W W' := fun hc => ⟨hc.os, hc.tape, hc.output, hc.size, fun k hk hs => hc.block k hk (fun h => hs (hto k h))⟩
    refine (deleteFunc_in w ob (vs.length + tl.length) vs tl g pre lb p hh (fun i W hi hc => hp i W hi (hof hc)) hl (by omega) hsl eg).mono ?_
    rintro e w' ⟨rfl, hc, hh2⟩
    refine ⟨_, rfl, ?_, hof hc, rfl⟩
    have hk := keptV_len p vs vs.length
    rw [List.append_assoc] at hh2
    have := own_mk (base := base) hbg (by simp; omega) hh2
    rwa [show (keptV p vs vs.length).length + (List.replicate (vs.length - (keptV p vs vs.length).length) nilV ++ tl).length = vs.length + tl.length by simp; omega] at this

end Go.Proofs.Ytliagbliaiigaaa.Hy
