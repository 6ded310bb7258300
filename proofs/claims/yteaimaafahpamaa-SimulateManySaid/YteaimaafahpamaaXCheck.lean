/- By hand (net_name, net_add, ev, net_chk, net_check): a part of this seat's proofs. -/
import Derived.RangeFuncNested
import Derived.RangeFuncBound
import Derived.RangeFuncCalls
import Derived.RangeFuncLeaves
import Derived.Shelf.Abstract
import Derived.Shelf.RegionOpen
import Derived.WalkKit
import Derived.OwnWalkIn
import Derived.TacticsInMore
import Derived.LoopNIn
import Derived.LoopIn
import Derived.LoopTactic
import Derived.RegionIn
import Derived.Laws.RangeString
import Derived.Laws.RangeAny
import Derived.RegionTactic
import Derived.BigRegion
import Derived.Outline
import Derived.Handy
import Derived.Laws.CopyOwn
import Derived.Sort.LoopGhostIn
import Derived.Stop.RegionWithIn
import Derived.Laws.EntriesVeiled
import Derived.Maps.AppendAt
import Derived.Test.YteaimaafahpamaaProg
import Derived.Test.YteaimaafahpamaaM0
import Derived.Test.YteaimaafahpamaaM1
namespace Go.Proofs.Yteaimaafahpamaa.Hy
open Go.RowKit Go.Shelf Go.Proofs.YteaimaafahpamaaW.PrintWords Go.Proofs.YteaimaafahpamaaW.PrintLast Go.Proofs.YteaimaafahpamaaW.PrintMore
set_option linter.unusedVariables false
set_option linter.unusedSimpArgs false
attribute [local go_sem] Oper.semAt_some
/-! ### names -/
def okChar (s : ByteArray) (i : Nat) : Bool :=
  let c := (s.data.toList.getD i 0).toNat
  (decide (97 ≤ c) && decide (c ≤ 122)) || decide (c = 95) || (decide (0 < i) && ((decide (48 ≤ c) && decide (c ≤ 57)) || decide (c = 46)))
def nameB (s : ByteArray) : Bool := decide (1 ≤ s.size) && decide (s.size ≤ 16) && (List.range s.size).all (okChar s)
/-- at a byte: what the decoded rune is, as far as names go -/
theorem rune_at (s : ByteArray) (pos : Nat) (h : pos < s.size) : ∃ c d : Nat, Utf8.decode s pos = (c, d) ∧ 1 ≤ d ∧ c ≤ 2147483647 ∧
    (okChar s pos = ((decide (97 ≤ c) && decide (c ≤ 122)) || decide (c = 95) || (decide (0 < pos) && ((decide (48 ≤ c) && decide (c ≤ 57)) || decide (c = 46))))) ∧ (c < 128 → d = 1) := by
  have hg : (s.data.toList.getD pos 0) = s[pos]'h := by
    rw [List.getD_eq_getElem?_getD, List.getElem?_eq_getElem (by simpa using h)]; rfl
  by_cases ha : (s[pos]'h).toNat < 128
  · refine ⟨(s[pos]'h).toNat, 1, decode_ascii s pos h ha, Nat.le_refl _, by omega, ?_, fun _ => rfl⟩
    simp only [okChar, hg]
  · obtain ⟨h1, h2⟩ := decode_high s pos h (by omega)
    refine ⟨(Utf8.decode s pos).1, (Utf8.decode s pos).2, rfl, h2, decode_le s pos, ?_, fun h3 => by omega⟩
    simp only [okChar, hg]
    generalize (Utf8.decode s pos).1 = c at *
    generalize (s[pos]'h).toNat = b at *
    have e1 : decide (b ≤ 122) = false := by simp; omega
    have e2 : decide (b = 95) = false := by simp; omega
    have e3 : decide (b ≤ 57) = false := by simp; omega
    have e4 : decide (b = 46) = false := by simp; omega
    have f1 : decide (c ≤ 122) = false := by simp; omega
    have f2 : decide (c = 95) = false := by simp; omega
    have f3 : decide (c ≤ 57) = false := by simp; omega
    have f4 : decide (c = 46) = false := by simp; omega
    rw [e1, e2, e3, e4, f1, f2, f3, f4]; simp
theorem nameB_no {s : ByteArray} {pos : Nat} (h : pos < s.size) (hb : okChar s pos = false) : nameB s = false := by
  have : (List.range s.size).all (okChar s) = false := by
    rw [List.all_eq_false]; exact ⟨pos, by simpa using h, by simp [hb]⟩
  simp [nameB, this]
set_option maxRecDepth 1000000 in
set_option maxHeartbeats 4000000 in
theorem name_in (s : ByteArray) (w : World) : CallsIn Fence.wide 0 Try.prog 48 #[.string s] w fun e w' => e = .returned (.bool (nameB s)) ∧ Below w.heap.size w w' := by
  refine callsIn_of_wp_marks Try.func48 rfl trivial ?_ rfl
  simp only [Try.ntmps48, List.size_toArray, List.length_cons, List.length_nil, Nat.reduceAdd, Nat.reduceSub, Array.replicate_succ, Array.replicate_zero, List.push_toArray, List.append_toArray, List.nil_append, List.cons_append]
  by_cases h1 : s.size < 1
  · have hd : decide ((s.size : Int) < 1) = true := by simp; omega
    gi_wp2
    refine ⟨_, results_tmp (t := 2) rfl _ _ _, ?_, Below.refl _ _⟩
    have : nameB s = false := by simp [nameB]; omega
    rw [this]; rfl
  · have hd : decide ((s.size : Int) < 1) = false := by simp; omega
    by_cases h2 : s.size > 16
    · have hd2 : decide ((16 : Int) < (s.size : Int)) = true := by simp; omega
      gi_wp2
      refine ⟨_, results_tmp (t := 2) rfl _ _ _, ?_, Below.refl _ _⟩
      have : nameB s = false := by simp [nameB]; omega
      rw [this]; rfl
    · have hd2 : decide ((16 : Int) < (s.size : Int)) = false := by simp; omega
      gi_wp2
      gi_loopw [] (fun w' => ∃ pos : Nat, w' = w.iter s pos ∧ ∀ i, i < pos → i < s.size → okChar s i = true) (fun w' => s.size - w'.iterPos w.heap.size)
      case atStart => exact ⟨0, rfl, fun i hi => by omega⟩
      case round =>
        obtain ⟨pos, rfl, hb⟩ := hrel
        by_cases hp : pos < s.size
        · have hnx : ∀ ty, (Instr.next (.pointer (some ⟨w.heap.size, 0, none⟩)) true ty).run Try.prog (w.iter s pos) = _ := fun ty => run_next_any w s pos ty hp
          obtain ⟨c, d, hcd, hd1, hc, hok, hd3⟩ := rune_at s pos hp
          simp only [hcd] at hnx
          have step : okChar s pos = true → ∃ pos' : Nat, w.iter s (pos + d) = w.iter s pos' ∧ ∀ i, i < pos' → i < s.size → okChar s i = true := fun ho => ⟨pos + d, rfl, fun i hi his => by
            rcases Nat.lt_or_ge i pos with h | h
            · exact hb i h his
            · have hc2 : c < 128 := by
                rw [hok] at ho
                simp at ho
                omega
              have := hd3 hc2
              have : i = pos := by omega
              rw [this]; exact ho⟩
          have stop : okChar s pos = false → Ending.returned (.bool false) = Ending.returned (.bool (nameB s)) ∧ Below w.heap.size w (w.iter s (pos + d)) := fun ho => ⟨by rw [nameB_no hp ho], below_alloc (Below.refl _ _) _⟩
          by_cases c1 : (97 : Int) ≤ c
          · have e1 : decide ((97 : Int) ≤ c) = true := decide_eq_true c1
            by_cases c2 : (c : Int) ≤ 122
            · have e2 : decide ((c : Int) ≤ 122) = true := decide_eq_true c2
              have ho : okChar s pos = true := by rw [hok]; simp; omega
              gi_wp2
              go_roundw
              case rel => first | exact step ho | (have hd5 := hd3 (by omega); subst hd5; exact step ho)
              case measure => simp; omega
            · have e2 : decide ((c : Int) ≤ 122) = false := decide_eq_false c2
              have e3 : ((c : Int) == 95) = false := by simp; omega
              have e5 : decide ((48 : Int) ≤ c) = true := by simp; omega
              have e6 : decide ((c : Int) ≤ 57) = false := by simp; omega
              have e7 : ((c : Int) == 46) = false := by simp; omega
              have ho : okChar s pos = false := by rw [hok]; simp; omega
              by_cases c4 : (0 : Int) < pos
              · have e4 : decide ((0 : Int) < pos) = true := decide_eq_true c4
                gi_wp2
                refine ⟨_, results_tmp (t := 2) rfl _ _ _, ?_⟩; exact stop ho
              · have e4 : decide ((0 : Int) < pos) = false := decide_eq_false c4
                gi_wp2
                refine ⟨_, results_tmp (t := 2) rfl _ _ _, ?_⟩; exact stop ho
          · have e1 : decide ((97 : Int) ≤ c) = false := decide_eq_false c1
            by_cases c3 : c = 95
            · have e3 : ((c : Int) == 95) = true := by simp; omega
              have ho : okChar s pos = true := by rw [hok]; simp; omega
              gi_wp2
              go_roundw
              case rel => first | exact step ho | (have hd5 := hd3 (by omega); subst hd5; exact step ho)
              case measure => simp; omega
            · have e3 : ((c : Int) == 95) = false := by simp; omega
              by_cases c4 : (0 : Int) < pos
              · have e4 : decide ((0 : Int) < pos) = true := decide_eq_true c4
                by_cases c5 : (48 : Int) ≤ c
                · have e5 : decide ((48 : Int) ≤ c) = true := decide_eq_true c5
                  by_cases c6 : (c : Int) ≤ 57
                  · have e6 : decide ((c : Int) ≤ 57) = true := decide_eq_true c6
                    have ho : okChar s pos = true := by rw [hok]; simp; omega
                    gi_wp2
                    go_roundw
                    case rel => first | exact step ho | (have hd5 := hd3 (by omega); subst hd5; exact step ho)
                    case measure => simp; omega
                  · have e6 : decide ((c : Int) ≤ 57) = false := decide_eq_false c6
                    have e7 : ((c : Int) == 46) = false := by simp; omega
                    have ho : okChar s pos = false := by rw [hok]; simp; omega
                    gi_wp2
                    refine ⟨_, results_tmp (t := 2) rfl _ _ _, ?_⟩; exact stop ho
                · have e5 : decide ((48 : Int) ≤ c) = false := decide_eq_false c5
                  by_cases c7 : c = 46
                  · have e7 : ((c : Int) == 46) = true := by simp; omega
                    have ho : okChar s pos = true := by rw [hok]; simp; omega
                    gi_wp2
                    go_roundw
                    case rel => first | exact step ho | (have hd5 := hd3 (by omega); subst hd5; exact step ho)
                    case measure => simp; omega
                  · have e7 : ((c : Int) == 46) = false := by simp; omega
                    have ho : okChar s pos = false := by rw [hok]; simp; omega
                    gi_wp2
                    refine ⟨_, results_tmp (t := 2) rfl _ _ _, ?_⟩; exact stop ho
              · have e4 : decide ((0 : Int) < pos) = false := decide_eq_false c4
                have ho : okChar s pos = false := by rw [hok]; simp; omega
                gi_wp2
                refine ⟨_, results_tmp (t := 2) rfl _ _ _, ?_⟩; exact stop ho
        · have hnx : ∀ ty, (Instr.next (.pointer (some ⟨w.heap.size, 0, none⟩)) true ty).run Try.prog (w.iter s pos) = _ := fun ty => run_next_end w s pos ty hp
          gi_wp2
          refine ⟨_, results_tmp (t := 2) rfl _ _ _, ?_, below_alloc (Below.refl _ _) _⟩
          have : nameB s = true := by
            simp only [nameB, Bool.and_eq_true, decide_eq_true_eq, List.all_eq_true, List.mem_range]
            exact ⟨⟨by omega, by omega⟩, fun i hi => hb i (by omega) hi⟩
          rw [this]; rfl

/-! ### the closure that gathers names -/
def addC (names : List ByteArray) (s : ByteArray) : Int := if nameB s then (if names.any (fun y => y.toList == s.toList) then 6 else 0) else 5
def addN (names : List ByteArray) (s : ByteArray) : List ByteArray := if addC names s = 0 then names ++ [s] else names
/-- the names, in their box -/
structure NamesIs (w : World) (Bn lo : Nat) (names : List ByteArray) (W : World) : Prop where
  ex : ∃ v, W.heap[Bn]? = some (.cells #[v] 91 (0, 0)) ∧ W.ownsRow lo 9 1 v names.length (encs Value.string names)
  bel : Below w.heap.size w W
theorem infoStr : ∃ i, Try.prog.info? 9 = some i ∧ i.zero = some (.string ⟨#[]⟩) ∧ i.size = 1 ∧ i.bytes = 16 := by
  have h : (Try.prog.info? 9).map (fun i => (i.zero, i.size, i.bytes)) = some (some (.string ⟨#[]⟩), 1, 16) := by kernel_rfl
  cases hi : Try.prog.info? 9 with
  | none => rw [hi] at h; cases h
  | some i =>
    rw [hi] at h
    simp only [Option.map_some, Option.some.injEq, Prod.mk.injEq] at h
    exact ⟨i, rfl, h.1, h.2.1, h.2.2⟩
/-- what stays: boxes of another type -/
def KeepN (Bn : Nat) (W W' : World) : Prop := ∀ k cs t, W.heap[k]? = some (.cells cs t (0, 0)) → k ≠ Bn → t ≠ 9 → W'.heap[k]? = some (.cells cs t (0, 0))
theorem KeepN.trans {Bn : Nat} {W W' W'' : World} (h : KeepN Bn W W') (h' : KeepN Bn W' W'') : KeepN Bn W W'' := fun k cs t hk h1 h2 => h' k cs t (h k cs t hk h1 h2) h1 h2
theorem KeepN.of_below {Bn : Nat} {W W' : World} (h : Below W.heap.size W W') : KeepN Bn W W' := fun k cs t hk _ _ => blk_below hk h
theorem NamesIs.below {w W W' : World} {Bn lo : Nat} {names : List ByteArray} (h : NamesIs w Bn lo names W) (hb : Below W.heap.size W W') : NamesIs w Bn lo names W' := by
  obtain ⟨⟨v, h1, h2⟩, h3⟩ := h
  exact ⟨⟨v, blk_below h1 hb, own_move h2 (fun k hk => hb.block k (own_lt h2 k hk))⟩, h3.trans (hb.mono h3.size)⟩
set_option maxRecDepth 1000000 in
set_option maxHeartbeats 4000000 in
theorem add_in (s : ByteArray) (names : List ByteArray) (w W : World) (Bn lo : Nat) (hw : w.heap.size ≤ Bn) (hlo : Bn < lo) (hsz : lo ≤ W.heap.size) (hn : names.length ≤ 1000) (h : NamesIs w Bn lo names W) :
    CallsIn Fence.wide 0 Try.prog 49 #[.string s, .pointer (some ⟨Bn, 0, none⟩)] W fun e W' => e = .returned (.int .i64 (addC names s)) ∧ NamesIs w Bn lo (addN names s) W' ∧ KeepN Bn W W' ∧ W.heap.size ≤ W'.heap.size := by
  obtain ⟨i0, hi, hz0, hz1, hz2⟩ := infoStr
  refine callsIn_of_wp_marks Try.func49 rfl trivial ?_ rfl
  simp only [Try.ntmps49, List.size_toArray, List.length_cons, List.length_nil, Nat.reduceAdd, Nat.reduceSub, Array.replicate_succ, Array.replicate_zero, List.push_toArray, List.append_toArray, List.nil_append, List.cons_append]
  gi_wp2
  refine ⟨trivial, rfl, (name_in s W).mono ?_⟩
  rintro e W1 ⟨rfl, hb1⟩
  have h1 := h.below hb1
  have kp1 := KeepN.of_below (Bn := Bn) hb1
  have hs1 := hb1.size
  clear hb1
  cases hnm : nameB s with
  | false =>
    gi_wp2
    have e1 : addC names s = 5 := by simp [addC, hnm]
    have e2 : addN names s = names := by rw [addN, e1]; rfl
    refine ⟨_, results_tmp (t := 3) rfl _ _ _, ?_, ?_, kp1, hs1⟩
    · rw [e1]; rfl
    · rw [e2]; exact h1
  | true =>
    obtain ⟨⟨v, k1, k2⟩, k3⟩ := h1
    have c1 := cell_of_one k1
    have f1 := free_of_one k1
    obtain ⟨A, cap, rfl, hcap, hrd⟩ := own_reads_of_le (d := ByteArray.empty) k2
    have hl : ∀ j : Nat, j < names.length → ∃ ad, A = some ad ∧ W1.cell? (ad.add j) = some (.string (names.getD j ByteArray.empty)) := fun j hj => by
      obtain ⟨ad, e, hc⟩ := hrd.2.2 (by omega)
      exact ⟨ad, e, hc j hj⟩
    gi_wp2
    gi_loopw [11] (fun i w' => ∃ j : Nat, w' = W1 ∧ j ≤ names.length ∧ i = .int .i64 j ∧ Aside0 (∀ t, t < j → ((names.getD t ByteArray.empty).toList == s.toList) = false)) (fun i _ => names.length - (intOf i).toNat)
    case atStart => exact ⟨0, rfl, Nat.zero_le _, rfl, ⟨fun t ht => by omega⟩⟩
    case round =>
      obtain ⟨j, rfl, hj, rfl, hno⟩ := hrel
      by_cases hlt : j < names.length
      · obtain ⟨ad, rfl, hc⟩ := hl j hlt
        obtain ⟨y, hy⟩ : ∃ y, names.getD j ByteArray.empty = y := ⟨_, rfl⟩
        rw [hy] at hc
        cases hb : (y.toList == s.toList) with
        | true =>
          have hmem : names.any (fun y => y.toList == s.toList) = true := by
            rw [List.any_eq_true]
            refine ⟨y, ?_, hb⟩
            rw [← hy, List.getD_eq_getElem?_getD, List.getElem?_eq_getElem hlt]
            exact List.getElem_mem hlt
          have e1 : addC names s = 6 := by rw [addC, hnm, hmem]; rfl
          have e2 : addN names s = names := by rw [addN, e1]; rfl
          gi_wp2
          refine ⟨_, results_tmp (t := 3) rfl _ _ _, ?_, ?_, kp1, hs1⟩
          · rw [e1]; rfl
          · rw [e2]; exact ⟨⟨_, k1, k2⟩, k3⟩
        | false =>
          gi_wp2
          go_roundw
          case rel =>
            refine ⟨j + 1, by trivial, by omega, by go_num, ⟨fun t ht => ?_⟩⟩
            rcases Nat.lt_or_ge t j with h | h
            · exact hno.out t h
            · have : t = j := by omega
              rw [this, hy]; exact hb
          case measure => simp [intOf]; omega
      · have hmem : names.any (fun y => y.toList == s.toList) = false := by
          rw [List.any_eq_false]
          intro y hm
          obtain ⟨t, ht, he⟩ := List.getElem_of_mem hm
          have := hno.out t (by omega)
          rw [List.getD_eq_getElem?_getD, List.getElem?_eq_getElem ht] at this
          rw [← he]
          simpa using this
        have e1 : addC names s = 0 := by rw [addC, hnm, hmem]; rfl
        have e2 : addN names s = names ++ [s] := by rw [addN, e1]; rfl
        have k1h := Aside0.mk k1
        have ne1 := Aside0.mk (own_ne k2 k1 (by decide))
        have hsB : Bn < wr.heap.size := blk_lt k1
        clear hl hrd hno
        gi_wp2_with (gi_at_builtin; refine wpListIn_append_own _ rfl _ _ 91 rfl lo 9 i0 (.string ⟨#[]⟩) 1 16 Try.underlying91 hi hz0 hz1 hz2 rfl (by decide) _ _ _ rfl (k2.alloc _) ⟨wr.heap.size, 0, none⟩ 1 1 [.string s] rfl rfl (cell_one_new _ _ _) (by simp [Value.oneCell']) (by simp only [maxLen]; omega) (by omega) (by simp; omega) ?_; intro v' w3 hown' hgrow _; obtain ⟨g', cap', rfl⟩ := ownsRow_succ hown'; have hb3 := blk_grown (blk_alloc k1h.out _) hgrow ne1.out; have cb3 := cell_of_one hb3; have fb3 := free_of_one hb3; have co3 := cell_of_one (one_setCell (u := .slice (some ⟨g', 0, none⟩) (names.length + 1) cap') hb3))
        refine ⟨_, results_tmp (t := 3) rfl _ _ _, ?_, ?_, ?_, ?_⟩
        · rw [e1]; rfl
        · rw [e2]
          refine ⟨⟨_, one_setCell hb3, ?_⟩, ?_⟩
          · have e : (names ++ [s]).length = names.length + 1 := by simp
            rw [e]
            have e' : encs Value.string (names ++ [s]) = encs Value.string names ++ [.string s] := by simp [encs]
            rw [e']
            exact own_setCell hown' (fun h => by have := own_base hown' Bn h.symm; omega) _
          · refine (((k3.alloc k3.size _).grown hgrow ?_ ?_).setCell ?_ _)
            · simp; have := k3.size; omega
            · intro j hj
              have := own_base k2 j (by simpa [go_sem, Act.eval] using hj)
              omega
            · exact hw
        · refine kp1.trans (fun k cs t hk h1 h2 => ?_)
          exact (Below.heap_setCell _ _ _ _ h1).trans (blk_grown (blk_alloc hk _) hgrow (own_ne k2 hk (fun h => h2 h.symm)))
        · have := hgrow.size
          simp at this ⊢
          omega

/-! ### what comes out with rounds enough -/
def Ev {α : Type} (x : Nat → Option α) (v : α) : Prop := ∃ K, ∀ k, K ≤ k → x k = some v
theorem Ev.of {α : Type} {x : Nat → Option α} {v : α} (h : ∀ k, x k = some v) : Ev x v := ⟨0, fun k _ => h k⟩
theorem Ev.up {α : Type} {x : Nat → Option α} {v : α} (h : Ev (fun k => x (k + 1)) v) : Ev x v := by
  obtain ⟨K, h⟩ := h
  refine ⟨K + 1, fun k hk => ?_⟩
  obtain ⟨m, rfl⟩ : ∃ m, k = m + 1 := ⟨k - 1, by omega⟩
  exact h m (by omega)
theorem Ev.bind {α β : Type} {x : Nat → Option α} {g : Nat → α → Option β} {a : α} {r : β} (h : Ev x a) (h2 : Ev (fun k => g k a) r) : Ev (fun k => (x k).bind (g k)) r := by
  obtain ⟨K, h⟩ := h
  obtain ⟨K2, h2⟩ := h2
  refine ⟨max K K2, fun k hk => ?_⟩
  show (x k).bind (g k) = some r
  rw [h k (by omega), Option.bind_some]
  exact h2 k (by omega)
theorem Ev.cast {α : Type} {x : Nat → Option α} {v v' : α} (h : Ev x v) (e : v = v') : Ev x v' := e ▸ h
theorem Ev.ex {α : Type} {x : Nat → Option α} {v : α} (h : Ev x v) : ∃ k, x k = some v := ⟨_, h.choose_spec _ (Nat.le_refl _)⟩
theorem Ev.of_mono {α : Type} {x : Nat → Option α} {v : α} (hm : ∀ k, LeO (x k) (x (k + 1))) {k : Nat} (h : x k = some v) : Ev x v := by
  refine ⟨k, fun m hm' => ?_⟩
  obtain ⟨d, rfl⟩ : ∃ d, m = k + d := ⟨m - k, by omega⟩
  clear hm'
  induction d with
  | zero => exact h
  | succ d ih => exact hm _ _ ih
theorem w_id {x : Int} (h0 : -9223372036854775808 ≤ x) (h1 : x ≤ 9223372036854775807) : wrap64 x = x := by unfold wrap64; omega
theorem w_succ {i : Nat} (h : i < 9223372036854775807) : wrap64 ((i : Int) + 1) = ((i + 1 : Nat) : Int) := by rw [w_id (by omega) (by omega)]; rfl
theorem rd_nat (l : List Int) (i : Nat) : rd l (i : Int) = l.getD i 0 := by simp [rd]
theorem rd_mem {l : List Int} {i : Nat} (h : i < l.length) : rd l (i : Int) ∈ l := by
  rw [rd_nat, List.getD_eq_getElem?_getD, List.getElem?_eq_getElem h]; exact List.getElem_mem h
theorem drop_rd {l : List Int} {i : Nat} (h : i < l.length) : l.drop i = rd l (i : Int) :: l.drop (i + 1) := by
  rw [rd_nat, List.getD_eq_getElem?_getD, List.getElem?_eq_getElem h]; exact List.drop_eq_getElem_cons h

/-! ### the check of a net, as lists -/
def chkArcs (P : Int) : Option Int → List S70 → Int
  | _, [] => 0
  | prev, a :: l => if a.f0 < 0 ∨ P ≤ a.f0 then 7 else if (∃ q, prev = some q ∧ a.f0 ≤ q) then 8 else if a.f1 < 1 ∨ 99 < a.f1 then 9 else chkArcs P (some a.f0) l
def chkPlace (p : S65) : Int := if p.f2 < 0 ∨ 1048576 < p.f2 then 1 else if p.f1 < 0 ∨ 1048576 < p.f1 ∨ (p.f2 ≠ 0 ∧ p.f2 < p.f1) then 10 else 0
def chkTrans (P : Int) (t : S68) : Int :=
  if t.f4 < 0 ∨ 9 < t.f4 then 1 else if chkArcs P none t.f1 ≠ 0 then chkArcs P none t.f1 else if chkArcs P none t.f2 ≠ 0 then chkArcs P none t.f2 else chkArcs P none t.f3
def plE (names : List ByteArray) (p : S65) : Int := if addC names p.f0 = 0 then chkPlace p else addC names p.f0
def trE (P : Int) (names : List ByteArray) (t : S68) : Int := if addC names t.f0 = 0 then chkTrans P t else addC names t.f0
def goPl : Nat → List ByteArray → List S65 → (Int × Int) ⊕ List ByteArray
  | _, names, [] => .inr names
  | i, names, p :: ps => if plE names p = 0 then goPl (i + 1) (addN names p.f0) ps else .inl (plE names p, (i : Int))
def goTr (P : Int) : Nat → List ByteArray → List S68 → Int × Int
  | _, _, [] => (0, 0)
  | i, names, t :: ts => if trE P names t = 0 then goTr P (i + 1) (addN names t.f0) ts else (trE P names t, P + (i : Int))
def chkNet (name : ByteArray) (ps : List S65) (ts : List S68) : Int × Int :=
  if nameB name = false then (5, 0) else if ps.length < 1 ∨ 24 < ps.length ∨ 24 < ts.length then (2, 0)
  else match goPl 0 [] ps with
    | .inl r => r
    | .inr names => goTr ps.length 0 names ts
theorem rdA_drop {l : List S70} {i : Nat} (h : i < l.length) : l.drop i = rd_T70 l (i : Int) :: l.drop (i + 1) := by
  rw [rd_T70, Int.toNat_natCast, List.getD_eq_getElem?_getD, List.getElem?_eq_getElem h]; exact List.drop_eq_getElem_cons h
theorem rdP_drop {l : List S65} {i : Nat} (h : i < l.length) : l.drop i = rd_T65 l (i : Int) :: l.drop (i + 1) := by
  rw [rd_T65, Int.toNat_natCast, List.getD_eq_getElem?_getD, List.getElem?_eq_getElem h]; exact List.drop_eq_getElem_cons h
theorem rdT_drop {l : List S68} {i : Nat} (h : i < l.length) : l.drop i = rd_T68 l (i : Int) :: l.drop (i + 1) := by
  rw [rd_T68, Int.toNat_natCast, List.getD_eq_getElem?_getD, List.getElem?_eq_getElem h]; exact List.drop_eq_getElem_cons h
theorem valid1_ev (x : Int) : Ev (fun k => marking_Valid.f k [x] 1) (decide (0 ≤ x) && decide (x ≤ 1048576)) := by
  simp only [marking_Valid.f, if_pos (show (([x] : List Int).length : Int) = 1 from rfl)]
  refine Ev.up ?_
  have e : rd [x] 0 = x := rfl
  simp only [marking_Valid.l0, if_pos (show (0 : Int) < (([x] : List Int).length : Int) from by simp), if_pos (Int.le_refl (0 : Int)), e]
  by_cases h1 : x < 0
  · simp only [if_pos h1, decide_eq_false (show ¬ 0 ≤ x by omega), Bool.false_and]; exact Ev.of fun _ => rfl
  · by_cases h2 : x > 1048576
    · simp only [if_neg h1, if_pos h2, decide_eq_false (show ¬ x ≤ 1048576 by omega), Bool.and_false]; exact Ev.of fun _ => rfl
    · simp only [if_neg h1, if_neg h2, decide_eq_true (show 0 ≤ x by omega), decide_eq_true (show x ≤ 1048576 by omega)]
      refine Ev.up (Ev.of fun k => ?_)
      simp [marking_Valid.l0, wrap64]
theorem chkPlace_ev (p : S65) : Ev (fun k => net_checkPlace.f k p.f0 p.f1 p.f2) (chkPlace p) := by
  have bad : chkPlace p = 1 → Ev (fun k => net_checkPlace.j0 k true p.f0 p.f1 p.f2) (chkPlace p) := fun h => by
    rw [h]; exact Ev.up (Ev.of fun _ => by simp [net_checkPlace.j0])
  simp only [net_checkPlace.f]
  by_cases h1 : p.f2 < 0
  · simp only [if_pos h1]; exact bad (by rw [chkPlace, if_pos (.inl h1)])
  · simp only [if_neg h1]
    by_cases h2 : p.f2 > 1048576
    · simp only [decide_eq_true h2]; exact bad (by rw [chkPlace, if_pos (.inr h2)])
    · simp only [decide_eq_false h2]
      refine Ev.up ?_
      simp only [net_checkPlace.j0, if_neg (show ¬ (false = true) by decide)]
      refine Ev.bind (valid1_ev p.f1) ?_
      rw [chkPlace, if_neg (show ¬ (p.f2 < 0 ∨ 1048576 < p.f2) by omega)]
      by_cases h3 : p.f1 < 0 ∨ 1048576 < p.f1
      · have e : (decide (0 ≤ p.f1) && decide (p.f1 ≤ 1048576)) = false := by simp; omega
        simp only [e, if_neg (show ¬ (false = true) by decide)]
        rw [if_pos (by omega)]; exact Ev.of fun _ => rfl
      · have e : (decide (0 ≤ p.f1) && decide (p.f1 ≤ 1048576)) = true := by simp; omega
        simp only [e, if_true]
        by_cases h4 : p.f2 = 0
        · simp only [if_pos h4]; rw [if_neg (by omega)]; exact Ev.of fun _ => rfl
        · simp only [if_neg h4]
          by_cases h5 : p.f1 > p.f2
          · simp only [if_pos h5]; rw [if_pos (by omega)]; exact Ev.of fun _ => rfl
          · simp only [if_neg h5]; rw [if_neg (by omega)]; exact Ev.of fun _ => rfl
def prevAt (l : List S70) (i : Nat) : Option Int := if i = 0 then none else some (rd_T70 l ((i - 1 : Nat) : Int)).f0
theorem chkArcs_ev (l : List S70) (P : Int) (hl : l.length ≤ 9223372036854775807) : ∀ (m i : Nat), i + m = l.length → Ev (fun k => net_checkArcs.l0 k l P l (l.length : Int) i) (chkArcs P (prevAt l i) (l.drop i)) := by
  intro m
  induction m with
  | zero =>
    intro i hi
    refine Ev.up ?_
    simp only [net_checkArcs.l0, if_neg (show ¬ (i : Int) < (l.length : Int) by omega)]
    rw [List.drop_of_length_le (by omega)]
    exact Ev.of fun _ => rfl
  | succ m ih =>
    intro i hi
    have hlt : i < l.length := by omega
    obtain ⟨x, hx⟩ : ∃ x, x = rd_T70 l (i : Int) := ⟨_, rfl⟩
    have step : ∀ b : Bool, b = decide (∃ q, prevAt l i = some q ∧ x.f0 ≤ q) → ¬ (x.f0 < 0 ∨ P ≤ x.f0) → Ev (fun k => net_checkArcs.j2 k l P l (l.length : Int) i b x.f0 x.f1) (chkArcs P (prevAt l i) (x :: l.drop (i + 1))) := by
      intro b hb hn
      rw [chkArcs, if_neg hn]
      refine Ev.up ?_
      simp only [net_checkArcs.j2, w_succ (show i < 9223372036854775807 by omega)]
      by_cases hq : ∃ q, prevAt l i = some q ∧ x.f0 ≤ q
      · rw [hb, decide_eq_true hq, if_pos hq]
        simp only [if_true]; exact Ev.of fun _ => rfl
      · rw [hb, decide_eq_false hq, if_neg hq]
        simp only [if_neg (show ¬ (false = true) by decide)]
        by_cases h1 : x.f1 < 1
        · simp only [if_pos h1]; rw [if_pos (.inl h1)]; exact Ev.of fun _ => rfl
        · by_cases h2 : x.f1 > 99
          · simp only [if_neg h1, if_pos h2]; rw [if_pos (.inr h2)]; exact Ev.of fun _ => rfl
          · simp only [if_neg h1, if_neg h2]
            rw [if_neg (by omega)]
            refine (ih (i + 1) (by omega)).cast ?_
            rw [prevAt, if_neg (by omega), Nat.add_sub_cancel, ← hx]
    rw [rdA_drop hlt, ← hx]
    refine Ev.up ?_
    simp only [net_checkArcs.l0, ← hx, if_pos (show (i : Int) < (l.length : Int) by omega), if_pos (show (0 : Int) ≤ (i : Int) by omega)]
    have bad : (x.f0 < 0 ∨ P ≤ x.f0) → Ev (fun k => net_checkArcs.j1 k l P i l (l.length : Int) i true x.f0 x.f1) (chkArcs P (prevAt l i) (x :: l.drop (i + 1))) := fun h => by
      rw [chkArcs, if_pos h]
      exact Ev.up (Ev.of fun _ => by simp [net_checkArcs.j1])
    by_cases h1 : x.f0 < 0
    · simp only [if_pos h1]; exact bad (.inl h1)
    · simp only [if_neg h1]
      by_cases h2 : x.f0 ≥ P
      · simp only [decide_eq_true h2]; exact bad (.inr h2)
      · simp only [decide_eq_false h2]
        refine Ev.up ?_
        simp only [net_checkArcs.j1, if_neg (show ¬ (false = true) by decide)]
        by_cases h3 : (i : Int) > 0
        · have e : wrap64 ((i : Int) - 1) = ((i - 1 : Nat) : Int) := by rw [w_id (by omega) (by omega)]; omega
          simp only [if_pos h3, e, if_pos (show (0 : Int) ≤ ((i - 1 : Nat) : Int) by omega), if_pos (show ((i - 1 : Nat) : Int) < (l.length : Int) by omega)]
          refine step _ ?_ (by omega)
          rw [prevAt, if_neg (by omega)]
          simp
        · simp only [if_neg h3]
          refine step _ ?_ (by omega)
          rw [prevAt, if_pos (by omega)]
          simp
theorem checkArcs_ev (l : List S70) (P : Int) (hl : l.length ≤ 9223372036854775807) : Ev (fun k => net_checkArcs.f k l P) (chkArcs P none l) := by
  simp only [net_checkArcs.f]
  exact chkArcs_ev l P hl l.length 0 (by omega)
theorem chkTrans_ev (t : S68) (P : Int) (h1 : t.f1.length ≤ 9223372036854775807) (h2 : t.f2.length ≤ 9223372036854775807) (h3 : t.f3.length ≤ 9223372036854775807) : Ev (fun k => net_checkTrans.f k t.f0 t.f1 t.f2 t.f3 t.f4 P) (chkTrans P t) := by
  have bad : chkTrans P t = 1 → Ev (fun k => net_checkTrans.j0 k P true t.f0 t.f1 t.f2 t.f3 t.f4) (chkTrans P t) := fun h => by
    rw [h]; exact Ev.up (Ev.of fun _ => by simp [net_checkTrans.j0])
  simp only [net_checkTrans.f]
  by_cases c1 : t.f4 < 0
  · simp only [if_pos c1]; exact bad (by rw [chkTrans, if_pos (.inl c1)])
  · simp only [if_neg c1]
    by_cases c2 : t.f4 > 9
    · simp only [decide_eq_true c2]; exact bad (by rw [chkTrans, if_pos (.inr c2)])
    · simp only [decide_eq_false c2]
      refine Ev.up ?_
      simp only [net_checkTrans.j0, if_neg (show ¬ (false = true) by decide), Option.bind_some]
      rw [chkTrans, if_neg (by omega)]
      have r0 : rd_L4 [t.f1, t.f2, t.f3] 0 = t.f1 := rfl
      have r1 : rd_L4 [t.f1, t.f2, t.f3] 1 = t.f2 := rfl
      have r2 : rd_L4 [t.f1, t.f2, t.f3] 2 = t.f3 := rfl
      have s1 : wrap64 ((0 : Int) + 1) = 1 := by unfold wrap64; omega
      have s2 : wrap64 ((1 : Int) + 1) = 2 := by unfold wrap64; omega
      have s3 : wrap64 ((2 : Int) + 1) = 3 := by unfold wrap64; omega
      have L : (([t.f1, t.f2, t.f3] : List (List S70)).length : Int) = 3 := rfl
      refine Ev.up ?_
      simp only [net_checkTrans.l0, L, r0, s1, if_pos (show (0 : Int) < 3 by decide), if_pos (show (0 : Int) ≤ 0 by decide)]
      refine Ev.bind (checkArcs_ev t.f1 P h1) ?_
      by_cases e1 : chkArcs P none t.f1 = 0
      · simp only [if_pos e1]
        rw [if_neg (by simp [e1])]
        refine Ev.up ?_
        simp only [net_checkTrans.l0, L, r1, s2, if_pos (show (1 : Int) < 3 by decide), if_pos (show (0 : Int) ≤ 1 by decide)]
        refine Ev.bind (checkArcs_ev t.f2 P h2) ?_
        by_cases e2 : chkArcs P none t.f2 = 0
        · simp only [if_pos e2]
          rw [if_neg (by simp [e2])]
          refine Ev.up ?_
          simp only [net_checkTrans.l0, L, r2, s3, if_pos (show (2 : Int) < 3 by decide), if_pos (show (0 : Int) ≤ 2 by decide)]
          refine Ev.bind (checkArcs_ev t.f3 P h3) ?_
          by_cases e3 : chkArcs P none t.f3 = 0
          · simp only [if_pos e3]
            rw [e3]
            exact Ev.up (Ev.of fun _ => by simp [net_checkTrans.l0])
          · simp only [if_neg e3]
            exact Ev.of fun _ => rfl
        · simp only [if_neg e2]
          rw [if_pos e2]; exact Ev.of fun _ => rfl
      · simp only [if_neg e1]
        rw [if_pos e1]; exact Ev.of fun _ => rfl

/-! ### net.Check -/
theorem big_ev {α : Type} {x : Nat → Option α} {v : α} (h : Ev x v) : ∃ k, x k = some v := h.ex
/-- the rows of a net, in every later world -/
structure NetIs (w : World) (A1 : Option Addr) (l1 : List S65) (A2 : Option Addr) (l2 : List S68) : Prop where
  ps : Kd.C k65 w A1 l1.length l1
  ts : Kd.C k68 w A2 l2.length l2
theorem NetIs.below {w W : World} {A1 A2 : Option Addr} {l1 : List S65} {l2 : List S68} (h : NetIs w A1 l1 A2 l2) (hb : Below w.heap.size w W) : NetIs W A1 l1 A2 l2 := ⟨Kd.C_below h.ps hb, Kd.C_below h.ts hb⟩
theorem pw_cell_below2 {w w1 : World} (h : Below w.heap.size w w1) {a : Addr} {v : Value} (hc : w.cell? a = some v) : w1.cell? a = some v := (h.cell (World.block_lt_of_cell? w a hc)).trans hc
theorem two_set {W : World} {D : Nat} {t : TypeId} {a b : Value} (h : W.heap[D]? = some (.cells #[a, b] t (0, 0))) (x y : Value) :
    ((W.setCell ⟨D, 0, none⟩ x).setCell ⟨D, 1, none⟩ y).cell? ⟨D, 0, none⟩ = some x ∧ ((W.setCell ⟨D, 0, none⟩ x).setCell ⟨D, 1, none⟩ y).cell? ⟨D, 1, none⟩ = some y := by
  have h2 := blk_set (blk_set h 0 x) 1 y
  rw [blk_cell h2 0, blk_cell h2 1]
  simp
theorem below_put {n : Nat} {w W : World} (h : Below n w W) {D : Nat} (hD : n ≤ D) (x y : Value) : Below n w ((W.setCell ⟨D, 0, none⟩ x).setCell ⟨D, 1, none⟩ y) := (h.setCell (p := ⟨D, 0, none⟩) hD x).setCell (p := ⟨D, 1, none⟩) hD y
def net_Check.f (a0_0 : ByteArray) (l0_1 : List (S65)) (l0_2 : List (S68)) : Option (Int × Int) := some (chkNet a0_0 l0_1 l0_2)
set_option maxRecDepth 1000000 in
set_option maxHeartbeats 8000000 in
theorem check_in (name : ByteArray) (A1 : Option Addr) (c1 : Nat) (l1 : List S65) (A2 : Option Addr) (c2 : Nat) (l2 : List S68) (w : World) (hn : NetIs w A1 l1 A2 l2) (hc1 : l1.length ≤ c1) (hc2 : l2.length ≤ c2) :
    CallsIn Fence.wide 0 Try.prog 37 #[.agg #[.string name, .slice A1 l1.length c1, .slice A2 l2.length c2]] w fun e w' => e = .returned (.agg #[.int .i64 (chkNet name l1 l2).1, .int .i64 (chkNet name l1 l2).2]) ∧ Below w.heap.size w w' := by
  refine callsIn_of_wp_marks Try.func37 rfl trivial ?_ rfl
  simp only [Try.ntmps37, List.size_toArray, List.length_cons, List.length_nil, Nat.reduceAdd, Nat.reduceSub, Array.replicate_succ, Array.replicate_zero, List.push_toArray, List.append_toArray, List.nil_append, List.cons_append]
  have hb0 : Below w.heap.size w ((w.alloc (.cells #[.string name, .slice A1 l1.length c1, .slice A2 l2.length c2] 25)).alloc (.cells #[.int .i64 0, .int .i64 0] 38)) := below_alloc (below_alloc (Below.refl _ _) _) _
  have b1 := blk_alloc (blk_new w (.cells #[.string name, .slice A1 l1.length c1, .slice A2 l2.length c2] 25)) (.cells #[.int .i64 0, .int .i64 0] 38)
  have b2 := blk_new (w.alloc (.cells #[.string name, .slice A1 l1.length c1, .slice A2 l2.length c2] 25)) (.cells #[.int .i64 0, .int .i64 0] 38)
  rw [World.size_alloc] at b2
  gi_wp2
  refine ⟨trivial, rfl, (name_in name _).mono ?_⟩
  rintro e W ⟨rfl, hbl⟩
  replace b1 := blk_below b1 hbl
  replace b2 := blk_below b2 hbl
  have hB := hb0.trans (hbl.mono hb0.size)
  have hsz := hbl.size
  simp only [World.size_alloc] at hsz
  clear hb0 hbl
  have x10 := blk_cell b1 0
  have x11 := blk_cell b1 1
  have x12 := blk_cell b1 2
  have x20 := blk_cell b2 0
  have x21 := blk_cell b2 1
  have y20 := blk_frozen b2 0
  have y21 := blk_frozen b2 1
  replace b1 := Aside0.mk b1
  replace b2 := Aside0.mk b2
  cases hnm : nameB name with
  | false =>
    gi_wp2
    have hr : chkNet name l1 l2 = (5, 0) := by rw [chkNet, if_pos hnm]
    obtain ⟨z0, z1⟩ := two_set b2.out (.int .i64 5) (.int .i64 0)
    refine ⟨.agg #[.int .i64 5, .int .i64 0], ?_, by rw [hr], below_put hB (by omega) _ _⟩
    simp [results, Try.f37, go_sem, z0, z1]
  | true =>
    by_cases hlen : l1.length < 1 ∨ 24 < l1.length ∨ 24 < l2.length
    · have hr : chkNet name l1 l2 = (2, 0) := by rw [chkNet, if_neg (by simp [hnm]), if_pos hlen]
      obtain ⟨z0, z1⟩ := two_set b2.out (.int .i64 2) (.int .i64 0)
      by_cases g1 : l1.length < 1
      · have d1 : decide ((l1.length : Int) < 1) = true := by simp; omega
        gi_wp2
        refine ⟨.agg #[.int .i64 2, .int .i64 0], ?_, by rw [hr], below_put hB (by omega) _ _⟩
        simp [results, Try.f37, go_sem, z0, z1]
      · have d1 : decide ((l1.length : Int) < 1) = false := by simp; omega
        by_cases g2 : 24 < l1.length
        · have d2 : decide ((24 : Int) < (l1.length : Int)) = true := by simp; omega
          gi_wp2
          refine ⟨.agg #[.int .i64 2, .int .i64 0], ?_, by rw [hr], below_put hB (by omega) _ _⟩
          simp [results, Try.f37, go_sem, z0, z1]
        · have d2 : decide ((24 : Int) < (l1.length : Int)) = false := by simp; omega
          have d3 : decide ((24 : Int) < (l2.length : Int)) = true := by simp; omega
          gi_wp2
          refine ⟨.agg #[.int .i64 2, .int .i64 0], ?_, by rw [hr], below_put hB (by omega) _ _⟩
          simp [results, Try.f37, go_sem, z0, z1]
    · have d1 : decide ((l1.length : Int) < 1) = false := by simp; omega
      have d2 : decide ((24 : Int) < (l1.length : Int)) = false := by simp; omega
      have d3 : decide ((24 : Int) < (l2.length : Int)) = false := by simp; omega
      have X1 := blk_alloc b1.out (.cells #[.slice none 0 0] 91)
      have X2 := blk_alloc b2.out (.cells #[.slice none 0 0] 91)
      have X3 := blk_new W (.cells #[.slice none 0 0] 91)
      have hB3 := below_alloc hB (.cells #[.slice none 0 0] 91)
      have v1 := blk_cell X1 1
      have v2 := blk_cell X1 2
      have hN : NamesIs w W.heap.size (W.heap.size + 1) [] (W.alloc (.cells #[.slice none 0 0] 91)) := ⟨⟨_, X3, own_nil _ _ _ _⟩, hB3⟩
      replace X1 := Aside0.mk X1
      replace X2 := Aside0.mk X2
      replace hN := Aside0.mk hN
      clear X3
      gi_wp2
      gi_loopw [37] (fun i wr => ∃ (j : Nat) (names : List ByteArray), i = .int .i64 j ∧ j ≤ l1.length ∧ Aside0 (names.length ≤ j) ∧ Aside0 (goPl j names (l1.drop j) = goPl 0 [] l1) ∧ Aside0 (NamesIs w W.heap.size (W.heap.size + 1) names wr) ∧
        Aside0 (wr.heap[w.heap.size]? = some (.cells #[.string name, .slice A1 l1.length c1, .slice A2 l2.length c2] 25 (0, 0))) ∧ Aside0 (wr.heap[w.heap.size + 1]? = some (.cells #[.int .i64 0, .int .i64 0] 38 (0, 0))) ∧ Aside0 (W.heap.size + 1 ≤ wr.heap.size)) (fun i _ => l1.length - (intOf i).toNat)
      case atStart => exact ⟨0, [], rfl, Nat.zero_le _, ⟨Nat.le_refl _⟩, ⟨rfl⟩, hN, X1, X2, ⟨by simp⟩⟩
      case round =>
        obtain ⟨j, names, rfl, hj, hnl, hgo, hNr, Y1, Y2, hsz3⟩ := hrel
        by_cases hlt : j < l1.length
        · have hn' := hn.below hNr.out.bel
          obtain ⟨ad, rfl, q0, q1, q2⟩ := at_T65 hn'.ps (j : Int) (by omega) (by omega)
          simp only [Int.toNat_natCast] at q0 q1 q2
          obtain ⟨p, hp⟩ : ∃ p, rd_T65 l1 (j : Int) = p := ⟨_, rfl⟩
          rw [hp] at q0 q1 q2
          rw [rdP_drop hlt, hp, goPl] at hgo
          have hbn := below_alloc (Below.refl wr.heap.size wr) (.cells #[.string p.f0, .int .i64 p.f1, .int .i64 p.f2] 65)
          have Z1 := blk_below Y1.out hbn
          have Z2 := blk_below Y2.out hbn
          have Z3 := blk_new wr (.cells #[.string p.f0, .int .i64 p.f1, .int .i64 p.f2] 65)
          have hadd := Aside0.mk (add_in p.f0 names w _ W.heap.size (W.heap.size + 1) (by omega) (by omega) (Nat.le_trans hsz3.out hbn.size) (by have := hnl.out; omega) (hNr.out.below hbn))
          replace hbn := Aside0.mk hbn
          replace Z1 := Aside0.mk Z1
          replace Z2 := Aside0.mk Z2
          replace Z3 := Aside0.mk Z3
          clear hn' Y1 Y2
          gi_wp2
          refine ⟨trivial, rfl, hadd.out.mono ?_⟩
          rintro e W2 ⟨rfl, hN2, kp2, hs2⟩
          have G1 := kp2 _ _ _ Z1.out (by omega) (by decide)
          have G2 := kp2 _ _ _ Z2.out (by omega) (by decide)
          have G3 := kp2 _ _ _ Z3.out (by have := hsz3.out; omega) (by decide)
          clear Z1 Z2 Z3 hadd kp2 q0 q1 q2
          have g30 := blk_cell G3 0
          have g31 := blk_cell G3 1
          have g32 := blk_cell G3 2
          have h20 := blk_cell G2 0
          have h21 := blk_cell G2 1
          have f20 := blk_frozen G2 0
          have f21 := blk_frozen G2 1
          obtain ⟨ec, hec⟩ : ∃ ec, addC names p.f0 = ec := ⟨_, rfl⟩
          have stop : ∀ (x : Int) (W3 : World), plE names p = x → x ≠ 0 → W3.heap[w.heap.size + 1]? = some (.cells #[.int .i64 0, .int .i64 0] 38 (0, 0)) → Below w.heap.size w W3 → ∀ t : Array Value, t[2]?.getD undef = .pointer (some ⟨w.heap.size + 1, 0, none⟩) → (results Try.f37 t).run Try.prog ((W3.setCell ⟨w.heap.size + 1, 0, none⟩ (.int .i64 x)).setCell ⟨w.heap.size + 1, 1, none⟩ (.int .i64 j)) = .ok (.agg #[.int .i64 x, .int .i64 j]) ((W3.setCell ⟨w.heap.size + 1, 0, none⟩ (.int .i64 x)).setCell ⟨w.heap.size + 1, 1, none⟩ (.int .i64 j)) ∧ ((Ending.returned (.agg #[.int .i64 x, .int .i64 j])) = .returned (.agg #[.int .i64 (chkNet name l1 l2).1, .int .i64 (chkNet name l1 l2).2]) ∧ Below w.heap.size w ((W3.setCell ⟨w.heap.size + 1, 0, none⟩ (.int .i64 x)).setCell ⟨w.heap.size + 1, 1, none⟩ (.int .i64 j))) := by
            intro x W3 hx hx0 hW3 hB4 t ht
            obtain ⟨z0, z1⟩ := two_set hW3 (.int .i64 x) (.int .i64 j)
            have hr : chkNet name l1 l2 = (x, (j : Int)) := by
              rw [chkNet, if_neg (by simp [hnm]), if_neg hlen, ← hgo.out, if_neg (by rw [hx]; exact hx0), hx]
            refine ⟨by simp [results, Try.f37, go_sem, ht, z0, z1], by rw [hr], below_put hB4 (by omega) _ _⟩
          rw [hec]
          replace stop := Aside0.mk stop
          replace G1 := Aside0.mk G1
          replace G2 := Aside0.mk G2
          replace G3 := Aside0.mk G3
          have hs3 : wr.heap.size + 1 ≤ W2.heap.size := by simpa using hs2
          clear hs2
          by_cases h0 : ec = 0
          · have b0 : (ec == (0 : Int)) = true := by simp [h0]
            have hc : addN names p.f0 = names ++ [p.f0] := by rw [addN, hec, if_pos h0]
            have hpe : plE names p = chkPlace p := by rw [plE, hec, if_pos h0]
            obtain ⟨kk, hkk⟩ := (chkPlace_ev p).ex
            have hcall := Aside0.mk (callsIn_wide (n := 0).2 (net_checkPlace.calls kk p.f0 p.f1 p.f2 (chkPlace p) W2 hkk))
            subst h0
            gi_wp2
            refine ⟨trivial, rfl, hcall.out.mono ?_⟩
            rintro e W3 ⟨rfl, hb3⟩
            have G1' := blk_below G1.out hb3
            have G2' := blk_below G2.out hb3
            have hN3 := Aside0.mk (hN2.below hb3)
            have hs4 := hb3.size
            have hB4 := Aside0.mk hN3.out.bel
            obtain ⟨x, hx⟩ : ∃ x, chkPlace p = x := ⟨_, rfl⟩
            rw [hx]
            have h20' := blk_cell G2' 0
            have h21' := blk_cell G2' 1
            have f20' := blk_frozen G2' 0
            have f21' := blk_frozen G2' 1
            replace G1' := Aside0.mk G1'
            replace G2' := Aside0.mk G2'
            clear hcall hb3
            by_cases hx0 : x = 0
            · have b1 : (x != (0 : Int)) = false := by simp [hx0]
              gi_wp2
              go_roundw
              case rel =>
                refine ⟨j + 1, addN names p.f0, by go_num, by omega, ⟨?_⟩, ⟨?_⟩, hN3, G1', G2', ⟨by have := hsz3.out; omega⟩⟩
                · rw [hc]; have := hnl.out; simp; omega
                · rw [← hgo.out, if_pos (by rw [hpe, hx, hx0])]
              case measure => simp [intOf]; omega
            · have b1 : (x != (0 : Int)) = true := by simp [hx0]
              gi_wp2
              exact ⟨_, (stop.out x W3 (by rw [hpe, hx]) hx0 G2'.out hB4.out _ rfl).1, (stop.out x W3 (by rw [hpe, hx]) hx0 G2'.out hB4.out #[undef, undef, .pointer (some ⟨w.heap.size + 1, 0, none⟩)] rfl).2⟩
          · have b0 : (ec == (0 : Int)) = false := by simp [h0]
            have b1 : (ec != (0 : Int)) = true := by simp [h0]
            have hpe : plE names p = ec := by rw [plE, hec, if_neg h0]
            have hB4 := Aside0.mk hN2.bel
            gi_wp2
            exact ⟨_, (stop.out ec W2 hpe h0 G2.out hB4.out _ rfl).1, (stop.out ec W2 hpe h0 G2.out hB4.out #[undef, undef, .pointer (some ⟨w.heap.size + 1, 0, none⟩)] rfl).2⟩
        · have he : j = l1.length := by omega
          subst he
          have v3 := blk_cell Y1.out 2
          have v4 := blk_cell Y1.out 1
          have hgo2 : goPl 0 [] l1 = .inr names := by rw [← hgo.out, List.drop_of_length_le (by omega), goPl]
          have hr : chkNet name l1 l2 = goTr l1.length 0 names l2 := by rw [chkNet, if_neg (by simp [hnm]), if_neg hlen, hgo2]
          have hnl2 : names.length ≤ 24 := by have := hnl.out; omega
          clear hgo hgo2 hnl
          gi_wp2
          gi_loopw [59] (fun i wr => ∃ (j : Nat) (nms : List ByteArray), i = .int .i64 j ∧ j ≤ l2.length ∧ Aside0 (nms.length ≤ 24 + j) ∧ Aside0 (goTr l1.length j nms (l2.drop j) = goTr l1.length 0 names l2) ∧ Aside0 (NamesIs w W.heap.size (W.heap.size + 1) nms wr) ∧
            Aside0 (wr.heap[w.heap.size]? = some (.cells #[.string name, .slice A1 l1.length c1, .slice A2 l2.length c2] 25 (0, 0))) ∧ Aside0 (wr.heap[w.heap.size + 1]? = some (.cells #[.int .i64 0, .int .i64 0] 38 (0, 0))) ∧ Aside0 (W.heap.size + 1 ≤ wr.heap.size)) (fun i _ => l2.length - (intOf i).toNat)
          case atStart => exact ⟨0, names, rfl, Nat.zero_le _, ⟨by omega⟩, ⟨rfl⟩, hNr, Y1, Y2, hsz3⟩
          case round =>
            obtain ⟨j, nms, rfl, hj, hnl, hgo, hNr, Y1, Y2, hsz3⟩ := hrel
            by_cases hlt : j < l2.length
            · have hn' := hn.below hNr.out.bel
              obtain ⟨ad, B1, e1, B2, e2, B3, e3, rfl, q0, q1, q2, q3, q4, n1, m1, n2, m2, n3, m3⟩ := at_T68 hn.ts (j : Int) (by omega) (by omega)
              simp only [Int.toNat_natCast] at q0 q1 q2 q3 q4
              replace q0 := pw_cell_below2 hNr.out.bel q0
              replace q1 := pw_cell_below2 hNr.out.bel q1
              replace q2 := pw_cell_below2 hNr.out.bel q2
              replace q3 := pw_cell_below2 hNr.out.bel q3
              replace q4 := pw_cell_below2 hNr.out.bel q4
              obtain ⟨p, hp⟩ : ∃ p, rd_T68 l2 (j : Int) = p := ⟨_, rfl⟩
              rw [hp] at q0 q1 q2 q3 q4 n1 m1 n2 m2 n3 m3
              rw [rdT_drop hlt, hp, goTr] at hgo
              obtain ⟨cs, hcs⟩ : ∃ cs : Array Value, cs = #[.string p.f0, .slice B1 p.f1.length e1, .slice B2 p.f2.length e2, .slice B3 p.f3.length e3, .int .i64 p.f4] := ⟨_, rfl⟩
              have hbn := below_alloc (Below.refl wr.heap.size wr) (.cells cs 68)
              have Z1 := blk_below Y1.out hbn
              have Z2 := blk_below Y2.out hbn
              have Z3 := blk_new wr (.cells cs 68)
              have hadd := Aside0.mk (add_in p.f0 nms w _ W.heap.size (W.heap.size + 1) (by omega) (by omega) (Nat.le_trans hsz3.out hbn.size) (by have := hnl.out; omega) (hNr.out.below hbn))
              have hbnA := Aside0.mk hbn
              replace Z1 := Aside0.mk Z1
              replace Z2 := Aside0.mk Z2
              replace Z3 := Aside0.mk Z3
              replace n1 := Aside0.mk n1
              replace n2 := Aside0.mk n2
              replace n3 := Aside0.mk n3
              replace m1 := Aside0.mk m1
              replace m2 := Aside0.mk m2
              replace m3 := Aside0.mk m3
              clear hn' Y1 Y2 hbn
              subst hcs
              gi_wp2
              refine ⟨trivial, rfl, hadd.out.mono ?_⟩
              rintro e W2 ⟨rfl, hN2, kp2, hs2⟩
              have G1 := kp2 _ _ _ Z1.out (by omega) (by decide)
              have G2 := kp2 _ _ _ Z2.out (by omega) (by decide)
              have G3 := kp2 _ _ _ Z3.out (by have := hsz3.out; omega) (by decide)
              clear Z1 Z2 Z3 hadd kp2 q0 q1 q2 q3 q4
              have g30 := blk_cell G3 0
              have g31 := blk_cell G3 1
              have g32 := blk_cell G3 2
              have g33 := blk_cell G3 3
              have g34 := blk_cell G3 4
              have g11 := blk_cell G1 1
              have h20 := blk_cell G2 0
              have h21 := blk_cell G2 1
              have f20 := blk_frozen G2 0
              have f21 := blk_frozen G2 1
              obtain ⟨ec, hec⟩ : ∃ ec, addC nms p.f0 = ec := ⟨_, rfl⟩
              have stop : ∀ (x : Int) (W3 : World), trE l1.length nms p = x → x ≠ 0 → W3.heap[w.heap.size + 1]? = some (.cells #[.int .i64 0, .int .i64 0] 38 (0, 0)) → Below w.heap.size w W3 → ∀ t : Array Value, t[2]?.getD undef = .pointer (some ⟨w.heap.size + 1, 0, none⟩) → (results Try.f37 t).run Try.prog ((W3.setCell ⟨w.heap.size + 1, 0, none⟩ (.int .i64 x)).setCell ⟨w.heap.size + 1, 1, none⟩ (.int .i64 (l1.length + j))) = .ok (.agg #[.int .i64 x, .int .i64 (l1.length + j)]) ((W3.setCell ⟨w.heap.size + 1, 0, none⟩ (.int .i64 x)).setCell ⟨w.heap.size + 1, 1, none⟩ (.int .i64 (l1.length + j))) ∧ ((Ending.returned (.agg #[.int .i64 x, .int .i64 (l1.length + j)])) = .returned (.agg #[.int .i64 (chkNet name l1 l2).1, .int .i64 (chkNet name l1 l2).2]) ∧ Below w.heap.size w ((W3.setCell ⟨w.heap.size + 1, 0, none⟩ (.int .i64 x)).setCell ⟨w.heap.size + 1, 1, none⟩ (.int .i64 (l1.length + j)))) := by
                intro x W3 hx hx0 hW3 hB4 t ht
                obtain ⟨z0, z1⟩ := two_set hW3 (.int .i64 x) (.int .i64 (l1.length + j))
                have hr2 : chkNet name l1 l2 = (x, (l1.length : Int) + (j : Int)) := by
                  rw [hr, ← hgo.out, if_neg (by rw [hx]; exact hx0), hx]
                refine ⟨by simp [results, Try.f37, go_sem, ht, z0, z1], by rw [hr2], below_put hB4 (by omega) _ _⟩
              have esum : wrap64 ((l1.length : Int) + (j : Int)) = (l1.length : Int) + (j : Int) := w_id (by omega) (by omega)
              rw [hec]
              replace stop := Aside0.mk stop
              replace G1 := Aside0.mk G1
              replace G2 := Aside0.mk G2
              replace G3 := Aside0.mk G3
              have hs3 : wr.heap.size + 1 ≤ W2.heap.size := by simpa using hs2
              clear hs2
              by_cases h0 : ec = 0
              · have b0 : (ec == (0 : Int)) = true := by simp [h0]
                have hc : addN nms p.f0 = nms ++ [p.f0] := by rw [addN, hec, if_pos h0]
                have hpe : trE l1.length nms p = chkTrans l1.length p := by rw [trE, hec, if_pos h0]
                obtain ⟨kk, hkk⟩ := (chkTrans_ev p l1.length (Kd.C_max m1.out) (Kd.C_max m2.out) (Kd.C_max m3.out)).ex
                have hcall := Aside0.mk (callsIn_wide (n := 0).2 (net_checkTrans.calls kk p.f0 (fun k => k < W2.heap.size) B1 e1 p.f1 (fun k => k < W2.heap.size) B2 e2 p.f2 (fun k => k < W2.heap.size) B3 e3 p.f3 p.f4 (l1.length : Int) (chkTrans l1.length p) W2 (Kd.V_mk n1.out (Kd.C_F k70_heap (Kd.C_below m1.out hN2.bel))) (Kd.V_mk n2.out (Kd.C_F k70_heap (Kd.C_below m2.out hN2.bel))) (Kd.V_mk n3.out (Kd.C_F k70_heap (Kd.C_below m3.out hN2.bel))) hkk))
                subst h0
                gi_wp2
                refine ⟨trivial, rfl, hcall.out.mono ?_⟩
                rintro e W3 ⟨rfl, hb3⟩
                have G1' := blk_below G1.out hb3
                have G2' := blk_below G2.out hb3
                have hN3 := Aside0.mk (hN2.below hb3)
                have hs4 := hb3.size
                have hB4 := Aside0.mk hN3.out.bel
                obtain ⟨x, hx⟩ : ∃ x, chkTrans l1.length p = x := ⟨_, rfl⟩
                rw [hx]
                have g11' := blk_cell G1' 1
                have h20' := blk_cell G2' 0
                have h21' := blk_cell G2' 1
                have f20' := blk_frozen G2' 0
                have f21' := blk_frozen G2' 1
                replace G1' := Aside0.mk G1'
                replace G2' := Aside0.mk G2'
                clear hcall hb3
                by_cases hx0 : x = 0
                · have b1 : (x != (0 : Int)) = false := by simp [hx0]
                  gi_wp2
                  go_roundw
                  case rel =>
                    refine ⟨j + 1, addN nms p.f0, by go_num, by omega, ⟨?_⟩, ⟨?_⟩, hN3, G1', G2', ⟨by have := hsz3.out; omega⟩⟩
                    · rw [hc]; have := hnl.out; simp; omega
                    · rw [← hgo.out, if_pos (by rw [hpe, hx, hx0])]
                  case measure => simp [intOf]; omega
                · have b1 : (x != (0 : Int)) = true := by simp [hx0]
                  gi_wp2
                  exact ⟨_, (stop.out x W3 (by rw [hpe, hx]) hx0 G2'.out hB4.out _ rfl).1, (stop.out x W3 (by rw [hpe, hx]) hx0 G2'.out hB4.out #[undef, undef, .pointer (some ⟨w.heap.size + 1, 0, none⟩)] rfl).2⟩
              · have b0 : (ec == (0 : Int)) = false := by simp [h0]
                have b1 : (ec != (0 : Int)) = true := by simp [h0]
                have hpe : trE l1.length nms p = ec := by rw [trE, hec, if_neg h0]
                have hB4 := Aside0.mk hN2.bel
                gi_wp2
                exact ⟨_, (stop.out ec W2 hpe h0 G2.out hB4.out _ rfl).1, (stop.out ec W2 hpe h0 G2.out hB4.out #[undef, undef, .pointer (some ⟨w.heap.size + 1, 0, none⟩)] rfl).2⟩
            · have he2 : j = l2.length := by omega
              have hz := hgo.out
              rw [List.drop_of_length_le (by omega), goTr] at hz
              obtain ⟨z0, z1⟩ := two_set Y2.out (.int .i64 0) (.int .i64 0)
              have hB5 := below_put hNr.out.bel (D := w.heap.size + 1) (by omega) (.int .i64 0) (.int .i64 0)
              have h20 := blk_cell Y2.out 0
              have h21 := blk_cell Y2.out 1
              have f20 := blk_frozen Y2.out 0
              have f21 := blk_frozen Y2.out 1
              gi_wp2
              refine ⟨.agg #[.int .i64 0, .int .i64 0], ?_, by rw [hr, ← hz], hB5⟩
              simp [results, Try.f37, go_sem, z0, z1]
theorem net_Check.calls (a0_0 : ByteArray) (A0_1 : Option Addr) (c0_1 : Nat) (l0_1 : List (S65)) (A0_2 : Option Addr) (c0_2 : Nat) (l0_2 : List (S68)) (r1 : Int) (r2 : Int) (w : World) (hr0_1 : Kd.C k65 w A0_1 l0_1.length l0_1) (hc0_1 : l0_1.length ≤ c0_1) (hr0_2 : Kd.C k68 w A0_2 l0_2.length l0_2) (hc0_2 : l0_2.length ≤ c0_2) (h : net_Check.f a0_0 l0_1 l0_2 = some (r1, r2)) :
    Calls Try.prog 37 #[.agg #[.string a0_0, .slice A0_1 l0_1.length c0_1, .slice A0_2 l0_2.length c0_2]] w fun e w' => e = .returned (.agg #[.int .i64 r1, .int .i64 r2]) ∧ Below w.heap.size w w' := by
  have e : chkNet a0_0 l0_1 l0_2 = (r1, r2) := by rw [net_Check.f] at h; exact Option.some.inj h
  have hc := check_in a0_0 A0_1 c0_1 l0_1 A0_2 c0_2 l0_2 w ⟨hr0_1, hr0_2⟩ hc0_1 hc0_2
  rw [e] at hc
  exact (callsIn_wide (n := 0)).1 hc

end Go.Proofs.Yteaimaafahpamaa.Hy
