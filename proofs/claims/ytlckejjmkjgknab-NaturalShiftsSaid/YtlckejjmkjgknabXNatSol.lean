/- By hand (nat_sol): a part of this seat's proofs. -/
import Derived.Test.YtlckejjmkjgknabXNatSearch
import Derived.Sort.LoopGhostIn
import Derived.Stop.RegionWithIn
import Derived.Laws.EntriesVeiled
namespace Go.Proofs.Ytlckejjmkjgknab.Hy
open Go.RowKit Go.Shelf Go.Proofs.YtlckejjmkjgknabW.PrintWords Go.Proofs.YtlckejjmkjgknabW.PrintLast Go.Proofs.YtlckejjmkjgknabW.PrintMore
set_option linter.unusedVariables false
set_option linter.unusedSimpArgs false
attribute [local go_sem] Oper.semAt_some
theorem grown_blk {A B : World} {g k : Nat} {o : Obj} (h : A.grownBy B (some g)) (hk : A.heap[k]? = some o) (hne : k ≠ g) : B.heap[k]? = some o :=
  (h.block k (Array.getElem?_eq_some_iff.1 hk).1 (fun e => hne (Option.some.inj e))).trans hk
theorem five (W : World) (o1 o2 o3 o4 o5 : Obj) : (((((W.alloc o1).alloc o2).alloc o3).alloc o4).alloc o5).heap[W.heap.size]? = some o1 ∧ (((((W.alloc o1).alloc o2).alloc o3).alloc o4).alloc o5).heap[W.heap.size + 1]? = some o2 ∧
    (((((W.alloc o1).alloc o2).alloc o3).alloc o4).alloc o5).heap[W.heap.size + 2]? = some o3 ∧ (((((W.alloc o1).alloc o2).alloc o3).alloc o4).alloc o5).heap[W.heap.size + 3]? = some o4 ∧ (((((W.alloc o1).alloc o2).alloc o3).alloc o4).alloc o5).heap[W.heap.size + 4]? = some o5 ∧
    (((((W.alloc o1).alloc o2).alloc o3).alloc o4).alloc o5).heap.size = W.heap.size + 5 := by
  have n1 := blk_new W o1
  have n2 := blk_new (W.alloc o1) o2
  have n3 := blk_new ((W.alloc o1).alloc o2) o3
  have n4 := blk_new (((W.alloc o1).alloc o2).alloc o3) o4
  have n5 := blk_new ((((W.alloc o1).alloc o2).alloc o3).alloc o4) o5
  simp only [World.size_alloc] at n1 n2 n3 n4 n5
  exact ⟨blk_alloc (blk_alloc (blk_alloc (blk_alloc n1 _) _) _) _, blk_alloc (blk_alloc (blk_alloc n2 _) _) _, blk_alloc (blk_alloc n3 _) _, blk_alloc n4 _, n5, by simp only [World.size_alloc]⟩
theorem two_ (W : World) (o1 o2 : Obj) : ((W.alloc o1).alloc o2).heap[W.heap.size]? = some o1 ∧ ((W.alloc o1).alloc o2).heap[W.heap.size + 1]? = some o2 := by
  have n1 := blk_new W o1
  have n2 := blk_new (W.alloc o1) o2
  simp only [World.size_alloc] at n1 n2
  exact ⟨blk_alloc n1 _, n2⟩
set_option maxRecDepth 100000 in
set_option maxHeartbeats 8000000 in
theorem solutions_it (E : Env) (hE : E.Ok) (W1 : World) (hs : E.s = W1.heap.size) (hb0 : Below E.w0.heap.size E.w0 W1)
    (ba : W1.heap[E.Ba]? = some (.cells #[.slice E.Aa E.a.length E.ca] 22 (0, 0)))
    (bb : W1.heap[E.Bb]? = some (.cells #[.slice E.Ab E.b.length E.cb] 23 (0, 0)))
    (bu : W1.heap[E.Bu]? = some (.cells #[.slice E.Au E.u.length E.cu] 23 (0, 0))) :
    IterC Try.prog 25 #[.pointer (some ⟨E.Bu, 0, none⟩), .pointer (some ⟨E.Bb, 0, none⟩), .pointer (some ⟨E.Ba, 0, none⟩)] (EltN (E.s + 7)) E.priv E.hold (sols E.a E.b E.u []) E.l W1 := by
  intro J Jx hJ hJx hY h0
  have cU := cell_of_one bu
  have cB := cell_of_one bb
  have hn2 := hE.u2
  have hm2 := hE.a1
  have hab := hE.ab
  have hsa := hE.sa
  have hsb := hE.sb
  have hsu := hE.su
  rw [hs] at hsa hsb hsu
  have hmku := print_make (P := Try.prog) 23 2 .i64 8 Try.underlying23 info2 (by decide) E.u.length (by omega)
  have hmkb := print_make (P := Try.prog) 23 2 .i64 8 Try.underlying23 info2 (by decide) E.b.length (by omega)
  have cB3 : ∀ o1 o2 o3 : Obj, (((W1.alloc o1).alloc o2).alloc o3).cell? ⟨E.Bb, 0, none⟩ = some (.slice E.Ab E.b.length E.cb) := fun o1 o2 o3 => cell_of_one (blk_alloc (blk_alloc (blk_alloc bb _) _) _)
  have cB5 : ∀ o1 o2 o3 o4 o5 : Obj, (((((W1.alloc o1).alloc o2).alloc o3).alloc o4).alloc o5).cell? ⟨E.Bb, 0, none⟩ = some (.slice E.Ab E.b.length E.cb) := fun o1 o2 o3 o4 o5 => cell_of_one (blk_alloc (blk_alloc (blk_alloc (blk_alloc (blk_alloc bb _) _) _) _) _)
  clear cB
  replace ba := Aside0.mk ba
  replace bb := Aside0.mk bb
  replace bu := Aside0.mk bu
  replace hs := Aside0.mk hs
  replace hab := Aside0.mk hab
  have hg0 : Aside0 (∀ o1 o2 o3 o5 : Obj, (((((W1.alloc o1).alloc o2).alloc o3).alloc (.cells (madeCells #[.int .i64 0] E.b.length) 2)).alloc o5).heap[W1.heap.size + 1 + 1 + 1]? = some (.cells (nums .i64 (List.replicate E.b.length 0)).toArray 2 (0, 0))) := ⟨by
    intro o1 o2 o3 o5
    have := blk_new (((W1.alloc o1).alloc o2).alloc o3) (.cells (madeCells #[.int .i64 0] E.b.length) 2)
    rw [World.size_alloc, World.size_alloc, World.size_alloc] at this
    rw [← made_nums]
    exact blk_alloc this _⟩
  have hbel : Aside0 (∀ o1 o2 o3 o4 o5 : Obj, Below W1.heap.size W1 (((((W1.alloc o1).alloc o2).alloc o3).alloc o4).alloc o5)) := ⟨fun o1 o2 o3 o4 o5 =>
    below_alloc (below_alloc (below_alloc (below_alloc (below_alloc (Below.refl _ _) _) _) _) _) _⟩
  have hpos : Aside0 (∀ o1 o2 o3 o4 o5 : Obj, 0 < (nums .i64 E.b).length → (some (⟨W1.heap.size + 1 + 1 + 1, 0, none⟩ : Addr)) = some ⟨W1.heap.size + 1 + 1 + 1, 0, none⟩ ∧ ∃ ad, E.Ab = some ad ∧ ∀ j v, (nums .i64 E.b)[j]? = some v → (((((W1.alloc o1).alloc o2).alloc o3).alloc o4).alloc o5).cell? (ad.add j) = some v) := ⟨by
    intro o1 o2 o3 o4 o5 hp
    have hC := Kd.C_below hE.hb (hb0.trans ((hbel.out o1 o2 o3 o4 o5).mono hb0.size))
    have hl : 0 < E.b.length := by simpa [nums] using hp
    obtain ⟨ad, he, _⟩ := int_at hC 0 hl
    refine ⟨rfl, ad, he, fun j v hv => ?_⟩
    have hj : j < E.b.length := by have := (List.getElem?_eq_some_iff.1 hv).1; simpa [nums] using this
    obtain ⟨ad', he', hc⟩ := int_at hC j hj
    rw [he] at he'
    cases he'
    rw [hc, ← hv]
    simp [nums, List.getD_eq_getElem?_getD, List.getElem?_eq_getElem hj]⟩
  have hcl : Aside0 ((nums .i64 E.b).length = Nat.min E.b.length E.b.length) := ⟨by simp [nums]⟩
  have hcf : Aside0 (0 + (nums .i64 E.b).length ≤ (nums .i64 (List.replicate E.b.length 0)).length) := ⟨by simp [nums]⟩
  have h1c : Aside0 (∀ v ∈ nums .i64 E.b, v.oneCell' = true) := ⟨by intro v hv; simp only [nums, List.mem_map] at hv; obtain ⟨x, _, rfl⟩ := hv; rfl⟩
  refine callsIn_of_wp Try.func25 rfl trivial ?_ rfl
  simp only [Try.ntmps25, List.size_toArray, List.length_cons, List.length_nil, Nat.reduceAdd, Nat.reduceSub, Array.replicate_succ, Array.replicate_zero, List.push_toArray, List.append_toArray, List.nil_append, List.cons_append]
  gi_wp2_with ((with_reducible refine wpListIn_copy_splice rfl (.tmp 15) (.tmp 16) 23 23 rfl 2 Try.underlying23 size2 (some ⟨W1.heap.size + 1 + 1 + 1, 0, none⟩) E.Ab E.b.length E.b.length E.b.length E.cb rfl rfl (W1.heap.size + 1 + 1 + 1) 0 (nums .i64 (List.replicate E.b.length 0)) 2 (hg0.out _ _ _ _) (nums .i64 E.b) hcl.out (hpos.out _ _ _ _ _) hcf.out h1c.out W1.heap.size W1 (hbel.out _ _ _ _ _) (by omega) ?_); intro w2 hg2 hb2 hgr2 hsz2; replace hsz2 := Aside0.mk hsz2)
  refine ⟨trivial, rfl, ?_⟩
  obtain ⟨g1, g2, g3, g4, g5, g6⟩ := five W1 (.cells #[.func (.yield E.l) #[] #[]] 51) (.cells (madeCells #[.int .i64 0] E.u.length) 2) (.cells #[.slice (some ⟨W1.heap.size + 1, 0, none⟩) E.u.length E.u.length] 23)
    (.cells (madeCells #[.int .i64 0] E.b.length) 2) (.cells #[.slice (some ⟨W1.heap.size + 1 + 1 + 1, 0, none⟩) E.b.length E.b.length] 23)
  have hsz : w2.heap.size = W1.heap.size + 5 := hsz2.out.trans g6
  have hg2' := hg2.out
  rw [splice_all E.b.length E.b rfl] at hg2'
  have eb : E.b.length = E.a.length := hab.out.symm
  obtain ⟨k1, k2⟩ := two_ w2 (.cells #[.func (.func 26) #[] #[.pointer (some ⟨E.Ba, 0, none⟩), .pointer (some ⟨W1.heap.size + 1 + 1 + 1 + 1, 0, none⟩)]] 52)
    (.cells #[.func (.func 27) #[] #[.pointer (some ⟨W1.heap.size + 1 + 1, 0, none⟩), .pointer (some ⟨W1.heap.size + 1 + 1 + 1 + 1, 0, none⟩), .pointer (some ⟨W1.heap.size, 0, none⟩), .pointer (some ⟨w2.heap.size + 1, 0, none⟩), .pointer (some ⟨E.Bu, 0, none⟩), .pointer (some ⟨w2.heap.size, 0, none⟩)]] 53)
  have i1 : W1.heap.size + 1 + 1 = E.s + 2 := by rw [hs.out]
  have i2 : W1.heap.size + 1 + 1 + 1 + 1 = E.s + 4 := by rw [hs.out]
  have i3 : W1.heap.size + 1 + 1 + 1 = E.s + 3 := by rw [hs.out]
  have i4 : w2.heap.size + 1 = E.s + 6 := by rw [hsz, hs.out]
  have i5 : w2.heap.size = E.s + 5 := by rw [hsz, hs.out]
  have i6 : W1.heap.size + 1 = E.s + 1 := by rw [hs.out]
  have i7 : W1.heap.size = E.s := hs.out.symm
  have q : ∀ {k : Nat} {o : Obj}, k ≠ W1.heap.size + 1 + 1 + 1 → _ → w2.heap[k]? = some o := fun {k o} hk h => grown_blk hgr2 h hk
  have hb7 := below_alloc (below_alloc (Below.refl w2.heap.size w2) (.cells #[.func (.func 26) #[] #[.pointer (some ⟨E.Ba, 0, none⟩), .pointer (some ⟨W1.heap.size + 1 + 1 + 1 + 1, 0, none⟩)]] 52)) (.cells #[.func (.func 27) #[] #[.pointer (some ⟨W1.heap.size + 1 + 1, 0, none⟩), .pointer (some ⟨W1.heap.size + 1 + 1 + 1 + 1, 0, none⟩), .pointer (some ⟨W1.heap.size, 0, none⟩), .pointer (some ⟨w2.heap.size + 1, 0, none⟩), .pointer (some ⟨E.Bu, 0, none⟩), .pointer (some ⟨w2.heap.size, 0, none⟩)]] 53)
  have f1 := blk_below (q (k := W1.heap.size) (by omega) g1) hb7
  have f2 := blk_below (q (k := W1.heap.size + 1) (by omega) g2) hb7
  have f3 := blk_below (q (k := W1.heap.size + 2) (by omega) g3) hb7
  have f4 := blk_below hg2' hb7
  have f5 := blk_below (q (k := W1.heap.size + 4) (by omega) g5) hb7
  have f6 := blk_below (blk_below ba.out hb2) hb7
  have f7 := blk_below (blk_below bb.out hb2) hb7
  have f8 := blk_below (blk_below bu.out hb2) hb7
  have hBW : Below W1.heap.size W1 _ := hb2.trans (hb7.mono (by omega))
  obtain ⟨W7, hW7⟩ : ∃ W7, W7 = ((w2.alloc (.cells #[.func (.func 26) #[] #[.pointer (some ⟨E.Ba, 0, none⟩), .pointer (some ⟨W1.heap.size + 1 + 1 + 1 + 1, 0, none⟩)]] 52)).alloc (.cells #[.func (.func 27) #[] #[.pointer (some ⟨W1.heap.size + 1 + 1, 0, none⟩), .pointer (some ⟨W1.heap.size + 1 + 1 + 1 + 1, 0, none⟩), .pointer (some ⟨W1.heap.size, 0, none⟩), .pointer (some ⟨w2.heap.size + 1, 0, none⟩), .pointer (some ⟨E.Bu, 0, none⟩), .pointer (some ⟨w2.heap.size, 0, none⟩)]] 53)) := ⟨_, rfl⟩
  rw [← hW7] at f1 f2 f3 f4 f5 f6 f7 f8 k1 k2 hBW
  rw [← hW7]
  rw [made_nums] at f2
  rw [i2, i5] at k1
  rw [i2, i1, i4, i5, i7] at k2
  have k2' : W7.heap[E.s + 6]? = some (.cells #[.func (.func 27) #[] #[.pointer (some ⟨E.s + 2, 0, none⟩), .pointer (some ⟨E.s + 4, 0, none⟩), .pointer (some ⟨E.s, 0, none⟩), .pointer (some ⟨E.s + 6, 0, none⟩), .pointer (some ⟨E.Bu, 0, none⟩), .pointer (some ⟨E.s + 5, 0, none⟩)]] 53 (0, 0)) := k2
  rw [i7] at f1 f2 f3 f5
  rw [eb] at f5
  rw [i3] at f4
  have hI : Inv E W7 (List.replicate E.u.length 0) (leftOf E.a E.b []) := by
    rw [leftOf_nil _ _ hab.out]
    exact ⟨hb0.trans (hBW.mono hb0.size), f6, f7, f8, f1, f2, f3, f4, f5, k1, k2', by simp, eb⟩
  have hS := search_calls E hE J Jx hJ hY E.u [] [] W7 _ rfl (Nat.zero_le _) rfl (by simp) hI (hJ _ _ _ h0 (Chg.of_below hBW _)) (List.prefix_refl _)
  rw [i2, i1, i4, i5, i7]
  refine hS.mono ?_
  rintro e W8 (⟨rfl, _, hJ8⟩ | ⟨rfl, q8, hq8, hJx8⟩)
  · gi_wp2
    go_end0
    exact ⟨⟨_, rfl⟩, .inl hJ8⟩
  · gi_wp2
    go_end0
    exact ⟨⟨_, rfl⟩, .inr ⟨q8, hq8, hJx8⟩⟩

end Go.Proofs.Ytlckejjmkjgknab.Hy
