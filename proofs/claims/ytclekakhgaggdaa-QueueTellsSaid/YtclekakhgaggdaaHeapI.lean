/- What each of the heap's methods does, told of what is in it (the fourth part: Push). -/
import Derived.Test.YtclekakhgaggdaaHeapH
namespace Go.Proofs.Ytclekakhgaggdaa.HeapC
open Go.RowKit Go.Proofs.Ytclekakhgaggdaa.HeapT Go.Proofs.Ytclekakhgaggdaa.HeapM Go.Proofs.YtclekakhgaggdaaW.PrintWords Go.Proofs.YtclekakhgaggdaaW.PrintLast Go.Proofs.YtclekakhgaggdaaW.PrintMore
set_option linter.unusedVariables false
set_option linter.unusedSimpArgs false

theorem info_item : ∃ i, Try.prog.info? 63 = some i ∧ i.zero = some (.agg #[.int .i64 0, .int .i64 0]) ∧ i.size = 2 ∧ i.bytes = 16 := by
  have h : (Try.prog.info? 63).map (fun i => (i.zero, i.size, i.bytes)) = some (some (.agg #[.int .i64 0, .int .i64 0]), 2, 16) := by kernel_rfl
  obtain ⟨i, h1, h2⟩ := Option.map_eq_some_iff.1 h
  injection h2 with a b
  injection b with b c
  exact ⟨i, h1, a, b, c⟩

theorem HMem.grow {w w1 w2 : World} {g mb g2 cap cap2 : Nat} {a : Option Addr} {xs : List Itm} {M : Int → Option Nat} {most : Int} {N : Nat} (h : HMem w g mb (.slice a xs.length cap) xs M most N) (hb : Below w.heap.size w w1)
    (ho : w2.ownsRow 0 63 2 (.slice (some ⟨g2, 0, none⟩) (xs.length + 1) cap2) (xs.length + 1) (cellsL xs ++ [.int .i64 0, .int .i64 0])) (hg : w1.grownBy w2 (Value.slice a xs.length cap).ownBlock)
    (hat : (Value.slice a xs.length cap).ownBlock = some g2 ∨ g2 = w.heap.size + 1) :
    HMem (w2.setCell ⟨g, 0, none⟩ (.slice (some ⟨g2, 0, none⟩) (xs.length + 1) cap2)) g mb (.slice (some ⟨g2, 0, none⟩) (xs.length + 1) cap2) (xs ++ [(0, 0)]) M most N ∧ g2 ≠ g ∧ g2 ≠ mb ∧ w2.heap[g]? = some (.cells #[.slice a xs.length cap, .map (some mb), .int .i64 most] 75 (0, 0)) ∧
      Chg w (w2.setCell ⟨g, 0, none⟩ (.slice (some ⟨g2, 0, none⟩) (xs.length + 1) cap2)) (fun q => q = g ∨ OwnB (.slice a xs.length cap) mb q) := by
  have lg := HeapM.blk_lt h.head
  have lm := h.mapLt
  have n1 : g2 ≠ g := by
    rcases hat with e | e
    · rintro rfl; exact h.vg e
    · omega
  have n2 : g2 ≠ mb := by
    rcases hat with e | e
    · rintro rfl; exact h.vm e
    · omega
  have c : Chg w w2 (fun q => (Value.slice a xs.length cap).ownBlock = some q) := (Chg.of_below hb _).grown hg (fun q e => .inl e)
  obtain ⟨o, hm⟩ := IMap.blk h.map
  refine ⟨⟨HeapM.blk_set_same (c.blk h.head h.vg) _ _ (by simp), ?_, h.map.congr ((HeapM.blk_set_other (c.blk hm h.vm) _ _ (Ne.symm h.gm)).trans hm.symm), h.gm, by simp [Value.ownBlock]; exact n1, by simp [Value.ownBlock]; exact n2⟩, n1, n2, c.blk h.head h.vg, ?_⟩
  · have e1 : (xs ++ [((0 : Int), (0 : Int))]).length = xs.length + 1 := by simp
    have e2 : cellsL (xs ++ [((0 : Int), (0 : Int))]) = cellsL xs ++ [.int .i64 0, .int .i64 0] := cellsL_append _ _
    rw [e1, e2]
    exact row_keep ((Chg.refl w2 (fun q => q = g)).setCell (.inl rfl) _) ho (fun q e => by subst e; simp [Value.ownBlock]; exact n1)
  · exact (c.mono (fun q e => .inl (.inr (.inl e)))).setCell (.inl (.inl rfl)) _

set_option maxHeartbeats 1000000 in
theorem push_there (w : World) (g : Nat) (C : Int → Option Int) (most : Int) (n N : Nat) (F : Nat → Prop) (h : IsHeap w g C most n N F) (k p : Int) (hk : (Lit.int .i64 k).wf = true) (hc : C k ≠ none) :
    Calls Try.prog 26 #[.pointer (some ⟨g, 0, none⟩), .int .i64 k, .int .i64 p] w fun e w' => e = .returned (.int .i64 1) ∧ w = w' := by
  obtain ⟨⟨mb, v, xs, M, hm, hp, hh, rfl, rfl, hw, hf⟩, hl⟩ := h
  have hpl := place_calls w g mb v xs M most N hm k hk
  cases hM : M k with
  | none => exact absurd (cont_none.2 hM) hc
  | some i =>
    rw [hM] at hpl
    have HP := Lib.hid hpl
    clear hm hp hh hw hf hl hpl hc hM
    go_enter Try.func26, Try.ntmps26
    go_wp2_with (first | (go_at_call 39; refine HP.out.mono ?_; rintro e w' ⟨c, rfl, -, rfl⟩))
    go_ret
    exact ⟨rfl, rfl⟩

set_option maxHeartbeats 1000000 in
theorem push_full (w : World) (g : Nat) (C : Int → Option Int) (most : Int) (n N : Nat) (F : Nat → Prop) (h : IsHeap w g C most n N F) (k p : Int) (hk : (Lit.int .i64 k).wf = true) (hc : C k = none) (hn : most ≤ n) :
    Calls Try.prog 26 #[.pointer (some ⟨g, 0, none⟩), .int .i64 k, .int .i64 p] w fun e w' => e = .returned (.int .i64 50) ∧ Below w.heap.size w w' := by
  have HB := Aside0.mk (Below.refl w.heap.size w)
  obtain ⟨⟨mb, v, xs, M, hm, hp, hh, rfl, rfl, hw, hf⟩, hl⟩ := h
  obtain ⟨a, cap, rfl⟩ := hm.val
  have h0 : w.cell? ⟨g, 0, none⟩ = some (.slice a xs.length cap) := (HeapM.blk_cell hm.head 0).trans rfl
  have h2 : w.cell? ⟨g, 2, none⟩ = some (.int .i64 most) := (HeapM.blk_cell hm.head 2).trans rfl
  have d1 : decide (most ≤ (xs.length : Int)) = true := decide_eq_true hn
  have hpl := place_calls w g mb _ xs M most N hm k hk
  rw [cont_none.1 hc] at hpl
  have HP := Lib.hid hpl
  clear hm hp hh hw hf hl hpl hc
  go_enter Try.func26, Try.ntmps26
  go_wp2_with (first | (go_at_call 39; refine HP.out.mono ?_; rintro e w' ⟨c, rfl, -, rfl⟩))
  go_region
  go_wp2
  go_returns
  exact ⟨rfl, by repeat (with_reducible first | exact HB.out | apply below_alloc | apply pw_below_drewN | apply below_drew1 | refine below_set ?_ (by omega))⟩

set_option maxHeartbeats 2000000 in
theorem push_ok (w : World) (g : Nat) (C : Int → Option Int) (most : Int) (n N : Nat) (F : Nat → Prop) (h : IsHeap w g C most n N F) (hN : N < 3000000000000000000) (hm1 : most ≤ 1000) (k p : Int) (hk : (Lit.int .i64 k).wf = true) (hc : C k = none) (hn : n < most) :
    Calls Try.prog 26 #[.pointer (some ⟨g, 0, none⟩), .int .i64 k, .int .i64 p] w fun e w' => e = .returned (.int .i64 0) ∧ HPost w w' g (upd C k (some p)) most (n + 1) (N + 4000000) F := by
  have HB := Aside0.mk (Below.refl w.heap.size w)
  obtain ⟨⟨mb, v, xs, M, hm, hp, hh, rfl, rfl, hw, hf⟩, hl⟩ := h
  obtain ⟨a, cap, rfl⟩ := hm.val
  have h0 : w.cell? ⟨g, 0, none⟩ = some (.slice a xs.length cap) := (HeapM.blk_cell hm.head 0).trans rfl
  have h2 : w.cell? ⟨g, 2, none⟩ = some (.int .i64 most) := (HeapM.blk_cell hm.head 2).trans rfl
  have d1 : decide (most ≤ (xs.length : Int)) = false := decide_eq_false (by omega)
  have hpl := place_calls w g mb _ xs M most N hm k hk
  rw [cont_none.1 hc] at hpl
  have HP := Lib.hid hpl
  have lg : g < w.heap.size := HeapM.blk_lt hm.head
  have ag : ∀ (o : Obj) (off : Nat), (w.alloc o).cell? ⟨g, off, none⟩ = w.cell? ⟨g, off, none⟩ := fun o off => World.cell?_alloc_lt _ _ _ lg
  have hm' := Aside0.mk hm
  have hp' := Aside0.mk hp
  have hh' := Aside0.mk hh
  have hw' := Aside0.mk hw
  have hf' := Aside0.mk hf
  have hl' := Aside0.mk hl
  have hc' := Aside0.mk hc
  clear hm hp hh hw hf hl hpl hc
  go_enter Try.func26, Try.ntmps26
  go_wp2_with (first | (go_at_call 39; refine HP.out.mono ?_; rintro e w' ⟨c, rfl, -, rfl⟩))
  go_region
  obtain ⟨inf, hi0, hi1, hi2, hi3⟩ := info_item
  have hgx : (w.alloc (.cells #[.int .i64 0, .int .i64 0] 63)).drew.heap.size = w.heap.size + 1 := by simp
  have hown : (w.alloc (.cells #[.int .i64 0, .int .i64 0] 63)).drew.ownsRow 0 63 2 (.slice a xs.length cap) xs.length (cellsL xs) := row_keep (Chg.of_below (by repeat (with_reducible first | exact HB.out | apply below_alloc | apply below_drew1)) (fun _ => False)) hm'.out.row (fun _ e => e.elim)
  have hnews := World.news_of_block (HeapM.blk_new w (.cells #[.int .i64 0, .int .i64 0] 63 (0, 0)))
  go_wp2_with (first | (at_builtin; go_loud (refine wpList_append_lies _ rfl _ _ 29 rfl 0 63 inf (.agg #[.int .i64 0, .int .i64 0]) 2 16 Try.underlying29 hi0 hi1 hi2 hi3 rfl (by decide) (.slice a xs.length cap) xs.length (cellsL xs) rfl hown ⟨w.heap.size, 0, none⟩ 1 1 [.int .i64 0, .int .i64 0] rfl rfl hnews ?c1 (by decide) (by unfold maxLen; omega) (by omega) (Nat.zero_le _) (w.heap.size + 1) hgx ?_)))
  case c1 =>
    rfl
  intro g2 cap2 w2 hown2 hgr2 hat2 hlt2
  obtain ⟨m3, n1, n2, hg2, ch3⟩ := HMem.grow hm'.out (by repeat (with_reducible first | exact HB.out | apply below_alloc | apply below_drew1)) hown2 hgr2 hat2
  obtain ⟨w3, hw3⟩ : ∃ w3, w3 = w2.setCell ⟨g, 0, none⟩ (.slice (some ⟨g2, 0, none⟩) (xs.length + 1) cap2) := ⟨_, rfl⟩
  have hnw : wrap64 ((xs.length : Int) + 1 - 1) = (xs.length : Int) := by unfold wrap64; omega
  have ex : ((xs ++ [((0 : Int), (0 : Int))]).set xs.length (k, p)) = xs ++ [(k, p)] := by
    rw [List.set_append_right _ _ (Nat.le_refl _)]; simp
  have HF : Aside0 (∀ q, (q = g ∨ OwnB (.slice (some ⟨g2, 0, none⟩) (xs.length + 1) cap2) mb q) → F q ∨ w.heap.size ≤ q) := ⟨by
    rintro q (e | e | e)
    · exact .inl (hf'.out q (.inl e))
    · rcases hat2 with e2 | e2
      · exact .inl (hf'.out q (.inr (.inl (e2.trans e))))
      · have : g2 = q := Option.some.inj e
        exact .inr (by omega)
    · exact .inl (hf'.out q (.inr (.inr e)))⟩
  rw [← hw3] at m3 ch3
  have g3 : w3.cell? ⟨g, 0, none⟩ = some (.slice (some ⟨g2, 0, none⟩) (xs.length + 1) cap2) := (HeapM.blk_cell m3.head 0).trans rfl
  have fz2 : w2.frozen? ⟨g, 0, none⟩ = false := HeapM.blk_free hg2 0
  have gc2 : w2.cell? ⟨g, 0, none⟩ = some (.slice a xs.length cap) := (HeapM.blk_cell hg2 0).trans rfl
  have HS := Lib.hid (set_calls w3 g mb _ _ M most N m3 (by omega) xs.length k p (by omega) (by simp; omega) hk)
  have ch3' := Aside0.mk ch3
  clear m3 ch3 hg2 h0 h2 hown hnews hgx hown2 hgr2 hat2 hlt2 ag
  have hw3' := Aside0.mk hw3
  clear hw3
  go_wp2_with fail
  rw [← hw3'.out]
  refine HS.out.mono ?_
  rintro e w4 ⟨rfl, ch4, m4⟩
  rw [Int.toNat_natCast, ex] at m4
  have len4 : (xs ++ [(k, p)]).length = xs.length + 1 := by simp
  have g4 : w4.cell? ⟨g, 0, none⟩ = some (.slice (some ⟨g2, 0, none⟩) (xs.length + 1) cap2) := (HeapM.blk_cell m4.head 0).trans rfl
  have p4 := places_append hp'.out (k, p) (cont_none.1 hc'.out)
  have c4 := cont_append hp'.out (k, p) (cont_none.1 hc'.out)
  have wf4 : ∀ q, q < (xs ++ [(k, p)]).length → (Lit.int .i64 (it (xs ++ [(k, p)]) q).1).wf = true := by
    intro q hq
    rw [len4] at hq
    unfold it
    by_cases e : q < xs.length
    · have := hw'.out q e
      unfold it at this
      simpa [List.getD, List.getElem?_append_left e] using this
    · obtain rfl : q = xs.length := by omega
      simpa [List.getD] using hk
  have HU := Lib.hid (up_calls w4 g mb _ _ _ most _ m4 (by omega) xs.length (by omega) (by omega) (by omega) wf4 p4 (by rw [Int.toNat_natCast]; exact (append_upI hh'.out (k, p)).1))
  have ch4' := Aside0.mk ch4
  have c4' := Aside0.mk c4
  have up4 := Aside0.mk (append_upI hh'.out (k, p))
  clear m4 ch4 p4 c4 wf4 g3 gc2 fz2 HS
  go_wp2_with fail
  refine HU.out.mono ?_
  rintro e w5 ⟨rfl, xs5, M5, N5, T5, hN5, D5⟩
  rw [Int.toNat_natCast] at D5
  have H5 : Heaped xs5 := by
    rcases D5 with ⟨e1, e2, e3⟩ | e
    · rw [e1]; exact up_exit up4.out e3.2
    · exact e
  have P : HPost w w5 g (upd (Cont M xs) k (some p)) most (xs.length + 1) (N + 4000000) F := by
    refine HPost.mk2 HF.out T5.mem ?_ T5.pl H5 ?_ (T5.len.trans len4) T5.wf (by omega)
    · exact ((ch3'.out.mono (fun q e => .inl (hf'.out q e))).trans ch4'.out (fun q e => HF.out q (.inr e))).trans T5.chg (fun q e => HF.out q (.inr e))
    · rw [T5.co, c4'.out]
  have P' := Aside0.mk P
  clear T5 H5 P D5
  go_wp2
  go_ret
  exact ⟨rfl, P'.out⟩
end Go.Proofs.Ytclekakhgaggdaa.HeapC
