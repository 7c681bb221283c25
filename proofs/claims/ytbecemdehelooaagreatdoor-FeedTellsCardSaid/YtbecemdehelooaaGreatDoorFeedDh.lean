/- Lines, read: five words. -/
import Derived.Test.YtbecemdehelooaaGreatDoorFeedDg
import Derived.Test.YtbecemdehelooaaGreatDoorFeedPm
import Derived.Laws.IdiomCopy
import Derived.WalkMore
namespace Go.Proofs.YtbecemdehelooaaGreatDoor.FeedDh
open Go.RowKit Go.Proofs.YtbecemdehelooaaGreatDoor.FrameS Go.Proofs.YtbecemdehelooaaGreatDoor.FeedG Go.Proofs.YtbecemdehelooaaGreatDoor.FeedD Go.Proofs.YtbecemdehelooaaGreatDoor.FeedN Go.Proofs.YtbecemdehelooaaGreatDoor.FeedW Go.Proofs.YtbecemdehelooaaGreatDoor.FeedQ Go.Proofs.YtbecemdehelooaaGreatDoor.FeedDe Go.Proofs.YtbecemdehelooaaGreatDoorW.PrintWords Go.Proofs.YtbecemdehelooaaGreatDoorW.PrintLast Go.Proofs.YtbecemdehelooaaGreatDoorW.PrintMore
set_option linter.unusedVariables false
set_option linter.unusedSimpArgs false
/-- The copy of five words. -/
theorem copy_five (W : World) (b6 b1 : Nat) (w0 w1 w2 w3 w4 : ByteArray) (x0 x1 x2 x3 x4 : Value) (t t' : TypeId) (h6 : W.heap[b6]? = some (.cells #[x0, x1, x2, x3, x4] t (0, 0))) (h1 : W.heap[b1]? = some (.cells #[.string w0, .string w1, .string w2, .string w3, .string w4] t' (0, 0))) :
    (Builtin.copy_ #[33, 33] 3 #[.slice (some ⟨b6, 0, none⟩) 5 5, .slice (some ⟨b1, 0, none⟩) 5 5]).run Tryz.prog W = .ok (.int .i64 5) (((((W.setCell ⟨b6, 0, none⟩ (.string w0)).setCell ⟨b6, 1, none⟩ (.string w1)).setCell ⟨b6, 2, none⟩ (.string w2)).setCell ⟨b6, 3, none⟩ (.string w3)).setCell ⟨b6, 4, none⟩ (.string w4)) := by
  have h := run_copy_cells (P := Tryz.prog) W 33 33 3 9 b6 0 5 5 ⟨b1, 0, none⟩ 5 5 [.string w0, .string w1, .string w2, .string w3, .string w4] (by kernel_rfl) (by kernel_rfl) rfl ?_ ?_ ?_ ?_
  · exact h
  · intro j v hj
    have hj5 : j < 5 := by
      rcases Nat.lt_or_ge j 5 with h | h
      · exact h
      · rw [List.getElem?_eq_none (by exact h)] at hj; cases hj
    have e : (⟨b1, 0, none⟩ : Addr).add j = ⟨b1, j, none⟩ := by unfold Addr.add; simp; omega
    rw [e, blk_cell h1]
    match j, hj5, hj with
    | 0, _, hj => exact hj
    | 1, _, hj => exact hj
    | 2, _, hj => exact hj
    | 3, _, hj => exact hj
    | 4, _, hj => exact hj
  · intro j hj
    have hj' : j < 5 := hj
    rw [Nat.zero_add, blk_cell h6]
    match j, hj' with
    | 0, _ => rfl
    | 1, _ => rfl
    | 2, _ => rfl
    | 3, _ => rfl
    | 4, _ => rfl
  · intro j hj
    exact blk_frozen h6 _
  · intro v hv
    simp only [List.mem_cons, List.not_mem_nil, or_false] at hv
    rcases hv with rfl | rfl | rfl | rfl | rfl <;> rfl
def bit (l : List Bool) (i : Nat) : Bool := l.getD i false
theorem idx5 (b0 b1 b2 b3 b4 : Bool) (i : Nat) (hi : i < 5) (w : World) : (Instr.index 39 (.agg #[.bool b0, .bool b1, .bool b2, .bool b3, .bool b4]) (.int .i64 (i : Int))).run Tryz.prog w = .ok (.bool (bit [b0, b1, b2, b3, b4] i)) w := by
  obtain rfl | rfl | rfl | rfl | rfl : i = 0 ∨ i = 1 ∨ i = 2 ∨ i = 3 ∨ i = 4 := by omega
  all_goals (cases b0 <;> cases b1 <;> cases b2 <;> cases b3 <;> cases b4 <;> kernel_rfl)
theorem bad_at {l : List Bool} {i : Nat} (hi : i < l.length) (h : bit l i = true) (hb : ∀ j, j < i → bit l j = false) : firstBad l = some i := by
  have e : l.findIdx id = i := by
    rw [List.findIdx_eq hi]
    unfold bit at h hb
    rw [List.getD_eq_getElem?_getD, List.getElem?_eq_getElem hi] at h
    refine ⟨h, fun j hj => ?_⟩
    have := hb j hj
    rw [List.getD_eq_getElem?_getD, List.getElem?_eq_getElem (by omega)] at this
    exact this
  unfold firstBad
  rw [if_pos, e]
  rw [List.any_eq_true]
  refine ⟨l[i], List.getElem_mem hi, ?_⟩
  unfold bit at h
  rw [List.getD_eq_getElem?_getD, List.getElem?_eq_getElem hi] at h
  exact h
theorem bad_none {l : List Bool} (hb : ∀ j, j < l.length → bit l j = false) : firstBad l = none := by
  unfold firstBad
  rw [if_neg]
  rw [List.any_eq_true]
  rintro ⟨x, hx, h⟩
  obtain ⟨j, hj, rfl⟩ := List.getElem_of_mem hx
  have := hb j hj
  unfold bit at this
  rw [List.getD_eq_getElem?_getD, List.getElem?_eq_getElem hj] at this
  rw [Option.getD_some] at this
  rw [this] at h
  cases h
def t8.T : Bool × List (List Nat × List Nat) := (true, [([], []), ([0], [0]), ([], []), ([2], [2]), ([3], [3]), ([], []), ([5], [5]), ([], []), ([7], [7]), ([], []), ([9], [9]), ([10, 4], [10]), ([1, 4, 6, 8, 11], [1, 4, 6, 8, 11]), ([], []), ([13, 12, 11, 0, 1, 2, 3, 4, 5, 6, 7, 8, 9, 10, 11, 12, 13], [12, 13])])
def t8.B : List Nat := [0, 1, 0, 4, 12, 0, 32, 0, 128, 0, 512, 1564, 4095, 0, 16383]
theorem t8.tab : rtab .any (opsOf Tryz.f11 8) = t8.T := by kernel_rfl
theorem t8.bits : waitsOk t8.T.2 t8.B = true := by kernel_rfl
set_option maxHeartbeats 2000000 in
set_option maxRecDepth 100000 in
theorem decode_five (s : ByteArray) (w : World) (hG : G w) (hs : s.size ≤ 100) (w0 w1 w2' w3 w4 : ByteArray) (hw : wordsOf s = [w0, w1, w2', w3, w4]) :
    Calls Tryz.prog 11 #[.string s] w fun e w' => e = .returned (.tuple #[(decodeV s).1, .int .i64 (decodeV s).2.1, .int .i64 (decodeV s).2.2]) ∧ Below w.heap.size w w' := by
  have d0 : decide (100 < (s.size : Int)) = false := decide_eq_false (by omega)
  have hsz : ∀ x ∈ wordsOf s, x.size ≤ s.size := fun x hx => FrameP.word_size s x hx
  have s1 : w1.size ≤ 100 := Nat.le_trans (hsz w1 (by rw [hw]; simp)) hs
  have s4 : w4.size ≤ 100 := Nat.le_trans (hsz w4 (by rw [hw]; simp)) hs
  have hr := Aside0.mk (show decodeV s = (match firstBad [!nameB w0, badSeq (countL (tl w1) 1000000000000), !nameB w2', !nameB w3, badPrice (priceL (tl w4))] with | some i => (zeroV, 112, (i : Int)) | none => (feedV w0 (countL (tl w1) 1000000000000) w2' w3 (priceL (tl w4)), 0, 0)) by
    unfold decodeV; rw [if_neg (by omega), if_neg (by rw [hw]; simp), hw]; rfl)
  have HW := Aside0.mk hw
  have HG := Aside0.mk hG
  have HS := Aside0.mk hs
  have S1 := Aside0.mk s1
  have S4 := Aside0.mk s4
  clear hG hs hw hsz s1 s4
  obtain ⟨B, hB⟩ : ∃ B, B = w.heap.size := ⟨_, rfl⟩
  obtain ⟨W1, hW1⟩ : ∃ W, w.alloc (.cells #[.string ⟨#[]⟩, .int .i64 0, .string ⟨#[]⟩, .string ⟨#[]⟩, .int .i64 0] 23) = W := ⟨_, rfl⟩
  have K1 := Aside0.mk (show W1.heap[B]? = some (.cells #[.string ⟨#[]⟩, .int .i64 0, .string ⟨#[]⟩, .string ⟨#[]⟩, .int .i64 0] 23 (0, 0)) by rw [← hW1, hB]; exact blk_new w _)
  have B1 := Aside0.mk (show Below w.heap.size w W1 by rw [← hW1]; exact below_alloc (Below.refl _ _) _)
  have HB := Aside0.mk hB
  have HW1 := Aside0.mk hW1
  clear hB hW1
  go_enter Tryz.func11, Tryz.ntmps11
  go_wp2_with fail
  rw [HW1.out, ← HB.out]
  refine (split_calls s _ (HG.out.below B1.out) (by have := HS.out; omega)).mono ?_
  rintro e w2 ⟨rfl, h2⟩
  rw [HW.out] at h2 ⊢
  have K2 := Aside0.mk (show w2.heap[B]? = some (.cells #[.string ⟨#[]⟩, .int .i64 0, .string ⟨#[]⟩, .string ⟨#[]⟩, .int .i64 0] 23 (0, 0)) by rw [h2]; exact blk_alloc K1.out _)
  have Q2 := Aside0.mk (show w2.heap[W1.heap.size]? = some (.cells #[.string w0, .string w1, .string w2', .string w3, .string w4] 9 (0, 0)) by rw [h2]; exact blk_new W1 _)
  have B2 := Aside0.mk (show Below w.heap.size w w2 by rw [h2]; exact below_alloc B1.out _)
  clear h2
  obtain ⟨b1, hb1⟩ : ∃ b, W1.heap.size = b := ⟨_, rfl⟩
  rw [hb1] at Q2 ⊢
  clear hb1
  have hcopy := copy_five (w2.alloc (.cells #[.string ⟨#[]⟩, .string ⟨#[]⟩, .string ⟨#[]⟩, .string ⟨#[]⟩, .string ⟨#[]⟩] 43)) w2.heap.size b1 w0 w1 w2' w3 w4 _ _ _ _ _ _ _ (blk_new w2 _) (blk_alloc Q2.out _)
  go_wp2_with fail
  have K3 := Aside0.mk (blk_alloc K2.out (.cells #[.string w0, .string w1, .string w2', .string w3, .string w4] 43))
  have Q3 := Aside0.mk (blk_new w2 (.cells #[.string w0, .string w1, .string w2', .string w3, .string w4] 43))
  have B3 := Aside0.mk (below_alloc B2.out (.cells #[.string w0, .string w1, .string w2', .string w3, .string w4] 43))
  generalize w2.alloc (.cells #[.string w0, .string w1, .string w2', .string w3, .string w4] 43) = W3 at K3 Q3 B3 ⊢
  clear hcopy
  obtain ⟨b6, hb6⟩ : ∃ b, w2.heap.size = b := ⟨_, rfl⟩
  rw [hb6] at Q3 ⊢
  clear hb6
  refine start_ (n := 15) (S := fun w' => True) (ds := []) #[false, false, false, false, false, false, false, false, false, false, false, false, false, false, false] (by kernel_rfl) rfl rfl trivial (fun hHeld => ?_); refine with_tabW t8.tab t8.bits (fun HT_ HW_ => ?_)
  refine inv_at [0, 1, 2, 3, 4, 5, 6, 7, 8, 9, 10, 11, 12, 13, 14] (fun a0_ b a w' => ∃ (gb : Nat), a = putSel a0_ b [(0, 23, .pointer (some ⟨b6, 0, none⟩)), (1, 24, .string w0), (2, 25, .pointer (some ⟨b6, 1, none⟩)), (3, 26, .string w1), (4, 27, .int .i64 (countL (tl w1) 1000000000000)), (5, 28, .pointer (some ⟨b6, 2, none⟩)), (6, 29, .string w2'), (7, 30, .pointer (some ⟨b6, 3, none⟩)), (8, 31, .string w3), (9, 32, .pointer (some ⟨b6, 4, none⟩)), (10, 33, .string w4), (11, 34, .int .i64 (priceL (tl w4))), (12, 35, .agg #[.string w0, .int .i64 (countL (tl w1) 1000000000000), .string w2', .string w3, .int .i64 (priceL (tl w4))]), (13, 7, .pointer (some ⟨gb, 0, none⟩))] ∧ (b 14 = false → w'.cell? ⟨b6, 0, none⟩ = some (.string w0)) ∧ (b 14 = false → w'.cell? ⟨b6, 1, none⟩ = some (.string w1)) ∧ (b 14 = false → w'.cell? ⟨b6, 2, none⟩ = some (.string w2')) ∧ (b 14 = false → w'.cell? ⟨b6, 3, none⟩ = some (.string w3)) ∧ (b 14 = false → w'.cell? ⟨b6, 4, none⟩ = some (.string w4)) ∧ (w'.heap[B]? = some (.cells #[.string ⟨#[]⟩, .int .i64 0, .string ⟨#[]⟩, .string ⟨#[]⟩, .int .i64 0] 23 (0, 0))) ∧ (Below w.heap.size w w') ∧ (b 13 = true → b 14 = false → w'.heap[gb]? = some (.cells #[.string ⟨#[]⟩, .int .i64 0, .string ⟨#[]⟩, .string ⟨#[]⟩, .int .i64 0] 23 (0, 0))) ∧ (b 13 = true → w.heap.size ≤ gb) ∧ (b 13 = true → B ≠ gb) ∧ (b 14 = true → w'.heap[gb]? = some (.cells #[.string w0, .int .i64 (countL (tl w1) 1000000000000), .string w2', .string w3, .int .i64 (priceL (tl w4))] 23 (0, 0)))) HT_.out HW_.out (by kernel_rfl) (by kernel_rfl) ?_ ?_ ?_
  · exact ⟨0, by simp only [putSel, Bool.false_eq_true, if_false], fun _ => (blk_cell Q3.out 0).trans rfl, fun _ => (blk_cell Q3.out 1).trans rfl, fun _ => (blk_cell Q3.out 2).trans rfl, fun _ => (blk_cell Q3.out 3).trans rfl, fun _ => (blk_cell Q3.out 4).trans rfl, K3.out, (by apply below_drew1; exact B3.out), fun h_ => absurd h_ (by decide), fun h_ => absurd h_ (by decide), fun h_ => absurd h_ (by decide), fun h_ => absurd h_ (by decide)⟩
  · skip
    refine steps_cons ?_ ?_
    · rintro b a w' ⟨gb, ha, Q_c0, Q_c1, Q_c2, Q_c3, Q_c4, Q_BK, Q_BB, Q_NB, Q_NG, Q_NN, Q_NV⟩ hb_ hon hoff
      refine ⟨_, rfl, fun K hK => ?_⟩
      have e6 : a.tmps[6]? = some (.pointer (some ⟨b6, 0, none⟩)) := by rw [ha]; exact (putSel_off rfl).trans rfl
      replace ha := Aside0.mk ha
      have R_c0 := Q_c0 (hoff 14 (by kernel_rfl))
      have R_c1 := Q_c1 (hoff 14 (by kernel_rfl))
      have R_c2 := Q_c2 (hoff 14 (by kernel_rfl))
      have R_c3 := Q_c3 (hoff 14 (by kernel_rfl))
      have R_c4 := Q_c4 (hoff 14 (by kernel_rfl))
      have R_BK := Q_BK
      have R_BB := Q_BB
      replace R_BK := Aside0.mk R_BK
      replace R_BB := Aside0.mk R_BB
      refine value_ (w1 := w') (v := .pointer (some ⟨b6, 0, none⟩)) (by rfl) rfl ?_ ?_
      · go_simp
        (try simp only [i64_w])
        try rfl
      refine hK.out _ _ ⟨gb, (by rw [ha.out]; exact putSel_upk 0 hb_ rfl rfl rfl), Q_c0, Q_c1, Q_c2, Q_c3, Q_c4, Q_BK, Q_BB, Q_NB, Q_NG, Q_NN, fun h0_ => absurd ((hoff 14 (by kernel_rfl)).symm.trans h0_) (by decide)⟩
    refine steps_cons ?_ ?_
    · rintro b a w' ⟨gb, ha, Q_c0, Q_c1, Q_c2, Q_c3, Q_c4, Q_BK, Q_BB, Q_NB, Q_NG, Q_NN, Q_NV⟩ hb_ hon hoff
      refine ⟨_, rfl, fun K hK => ?_⟩
      have e23 : a.tmps[23]? = some (.pointer (some ⟨b6, 0, none⟩)) := by rw [ha]; exact putSel_on (e := (0, 23, .pointer (some ⟨b6, 0, none⟩))) 0 rfl rfl (hon 0 (by kernel_rfl)) rfl
      replace ha := Aside0.mk ha
      have R_c0 := Q_c0 (hoff 14 (by kernel_rfl))
      have R_c1 := Q_c1 (hoff 14 (by kernel_rfl))
      have R_c2 := Q_c2 (hoff 14 (by kernel_rfl))
      have R_c3 := Q_c3 (hoff 14 (by kernel_rfl))
      have R_c4 := Q_c4 (hoff 14 (by kernel_rfl))
      have R_BK := Q_BK
      have R_BB := Q_BB
      replace R_BK := Aside0.mk R_BK
      replace R_BB := Aside0.mk R_BB
      refine value_ (w1 := w') (v := .string w0) (by rfl) rfl ?_ ?_
      · go_simp
        (try simp only [i64_w])
        try rfl
      refine hK.out _ _ ⟨gb, (by rw [ha.out]; exact putSel_upk 1 hb_ rfl rfl rfl), Q_c0, Q_c1, Q_c2, Q_c3, Q_c4, Q_BK, Q_BB, Q_NB, Q_NG, Q_NN, fun h0_ => absurd ((hoff 14 (by kernel_rfl)).symm.trans h0_) (by decide)⟩
    refine steps_cons ?_ ?_
    · rintro b a w' ⟨gb, ha, Q_c0, Q_c1, Q_c2, Q_c3, Q_c4, Q_BK, Q_BB, Q_NB, Q_NG, Q_NN, Q_NV⟩ hb_ hon hoff
      refine ⟨_, rfl, fun K hK => ?_⟩
      have e6 : a.tmps[6]? = some (.pointer (some ⟨b6, 0, none⟩)) := by rw [ha]; exact (putSel_off rfl).trans rfl
      replace ha := Aside0.mk ha
      have R_c0 := Q_c0 (hoff 14 (by kernel_rfl))
      have R_c1 := Q_c1 (hoff 14 (by kernel_rfl))
      have R_c2 := Q_c2 (hoff 14 (by kernel_rfl))
      have R_c3 := Q_c3 (hoff 14 (by kernel_rfl))
      have R_c4 := Q_c4 (hoff 14 (by kernel_rfl))
      have R_BK := Q_BK
      have R_BB := Q_BB
      replace R_BK := Aside0.mk R_BK
      replace R_BB := Aside0.mk R_BB
      refine value_ (w1 := w') (v := .pointer (some ⟨b6, 1, none⟩)) (by rfl) rfl ?_ ?_
      · go_simp
        (try simp only [i64_w])
        try rfl
      refine hK.out _ _ ⟨gb, (by rw [ha.out]; exact putSel_upk 2 hb_ rfl rfl rfl), Q_c0, Q_c1, Q_c2, Q_c3, Q_c4, Q_BK, Q_BB, Q_NB, Q_NG, Q_NN, fun h0_ => absurd ((hoff 14 (by kernel_rfl)).symm.trans h0_) (by decide)⟩
    refine steps_cons ?_ ?_
    · rintro b a w' ⟨gb, ha, Q_c0, Q_c1, Q_c2, Q_c3, Q_c4, Q_BK, Q_BB, Q_NB, Q_NG, Q_NN, Q_NV⟩ hb_ hon hoff
      refine ⟨_, rfl, fun K hK => ?_⟩
      have e25 : a.tmps[25]? = some (.pointer (some ⟨b6, 1, none⟩)) := by rw [ha]; exact putSel_on (e := (2, 25, .pointer (some ⟨b6, 1, none⟩))) 2 rfl rfl (hon 2 (by kernel_rfl)) rfl
      replace ha := Aside0.mk ha
      have R_c0 := Q_c0 (hoff 14 (by kernel_rfl))
      have R_c1 := Q_c1 (hoff 14 (by kernel_rfl))
      have R_c2 := Q_c2 (hoff 14 (by kernel_rfl))
      have R_c3 := Q_c3 (hoff 14 (by kernel_rfl))
      have R_c4 := Q_c4 (hoff 14 (by kernel_rfl))
      have R_BK := Q_BK
      have R_BB := Q_BB
      replace R_BK := Aside0.mk R_BK
      replace R_BB := Aside0.mk R_BB
      refine value_ (w1 := w') (v := .string w1) (by rfl) rfl ?_ ?_
      · go_simp
        (try simp only [i64_w])
        try rfl
      refine hK.out _ _ ⟨gb, (by rw [ha.out]; exact putSel_upk 3 hb_ rfl rfl rfl), Q_c0, Q_c1, Q_c2, Q_c3, Q_c4, Q_BK, Q_BB, Q_NB, Q_NG, Q_NN, fun h0_ => absurd ((hoff 14 (by kernel_rfl)).symm.trans h0_) (by decide)⟩
    refine steps_cons ?_ ?_
    · rintro b a w' ⟨gb, ha, Q_c0, Q_c1, Q_c2, Q_c3, Q_c4, Q_BK, Q_BB, Q_NB, Q_NG, Q_NN, Q_NV⟩ hb_ hon hoff
      refine ⟨_, rfl, fun K hK => ?_⟩
      have e26 : a.tmps[26]? = some (.string w1) := by rw [ha]; exact putSel_on (e := (3, 26, .string w1)) 3 rfl rfl (hon 3 (by kernel_rfl)) rfl
      replace ha := Aside0.mk ha
      have R_c0 := Q_c0 (hoff 14 (by kernel_rfl))
      have R_c1 := Q_c1 (hoff 14 (by kernel_rfl))
      have R_c2 := Q_c2 (hoff 14 (by kernel_rfl))
      have R_c3 := Q_c3 (hoff 14 (by kernel_rfl))
      have R_c4 := Q_c4 (hoff 14 (by kernel_rfl))
      have R_BK := Q_BK
      have R_BB := Q_BB
      replace R_BK := Aside0.mk R_BK
      replace R_BB := Aside0.mk R_BB
      refine goes_ Tryz.func22 (by kernel_rfl) rfl #[.string w1, .int .i64 1000000000000] (by rfl) rfl rfl (by first | (simp only [List.map_toArray, List.map_cons, List.map_nil, Act.eval, Array.getD_eq_getD_getElem?, Option.getD_some, e26]; done) | (simp only [List.map_toArray, List.map_cons, List.map_nil, Act.eval, Array.getD_eq_getD_getElem?, Option.getD_some, e26]; rfl)) ?_
      with_reducible refine (count_calls w1 1000000000000 _ (HG.out.below R_BB.out) (Nat.le_trans S1.out (by decide)) (by decide)).mono ?_
      rintro e v2 ⟨rfl, hb⟩
      refine ⟨_, rfl, ?_⟩
      refine hK.out _ _ ⟨gb, (by rw [ha.out]; exact putSel_upk 4 hb_ rfl rfl rfl), fun h0_ => (hb.cell (cell_lt (Q_c0 h0_))).trans (Q_c0 h0_), fun h0_ => (hb.cell (cell_lt (Q_c1 h0_))).trans (Q_c1 h0_), fun h0_ => (hb.cell (cell_lt (Q_c2 h0_))).trans (Q_c2 h0_), fun h0_ => (hb.cell (cell_lt (Q_c3 h0_))).trans (Q_c3 h0_), fun h0_ => (hb.cell (cell_lt (Q_c4 h0_))).trans (Q_c4 h0_), blk_below Q_BK hb, below_step Q_BB hb, fun h0_ h1_ => blk_below (Q_NB h0_ h1_) hb, Q_NG, Q_NN, fun h0_ => absurd ((hoff 14 (by kernel_rfl)).symm.trans h0_) (by decide)⟩
    refine steps_cons ?_ ?_
    · rintro b a w' ⟨gb, ha, Q_c0, Q_c1, Q_c2, Q_c3, Q_c4, Q_BK, Q_BB, Q_NB, Q_NG, Q_NN, Q_NV⟩ hb_ hon hoff
      refine ⟨_, rfl, fun K hK => ?_⟩
      have e6 : a.tmps[6]? = some (.pointer (some ⟨b6, 0, none⟩)) := by rw [ha]; exact (putSel_off rfl).trans rfl
      replace ha := Aside0.mk ha
      have R_c0 := Q_c0 (hoff 14 (by kernel_rfl))
      have R_c1 := Q_c1 (hoff 14 (by kernel_rfl))
      have R_c2 := Q_c2 (hoff 14 (by kernel_rfl))
      have R_c3 := Q_c3 (hoff 14 (by kernel_rfl))
      have R_c4 := Q_c4 (hoff 14 (by kernel_rfl))
      have R_BK := Q_BK
      have R_BB := Q_BB
      replace R_BK := Aside0.mk R_BK
      replace R_BB := Aside0.mk R_BB
      refine value_ (w1 := w') (v := .pointer (some ⟨b6, 2, none⟩)) (by rfl) rfl ?_ ?_
      · go_simp
        (try simp only [i64_w])
        try rfl
      refine hK.out _ _ ⟨gb, (by rw [ha.out]; exact putSel_upk 5 hb_ rfl rfl rfl), Q_c0, Q_c1, Q_c2, Q_c3, Q_c4, Q_BK, Q_BB, Q_NB, Q_NG, Q_NN, fun h0_ => absurd ((hoff 14 (by kernel_rfl)).symm.trans h0_) (by decide)⟩
    refine steps_cons ?_ ?_
    · rintro b a w' ⟨gb, ha, Q_c0, Q_c1, Q_c2, Q_c3, Q_c4, Q_BK, Q_BB, Q_NB, Q_NG, Q_NN, Q_NV⟩ hb_ hon hoff
      refine ⟨_, rfl, fun K hK => ?_⟩
      have e28 : a.tmps[28]? = some (.pointer (some ⟨b6, 2, none⟩)) := by rw [ha]; exact putSel_on (e := (5, 28, .pointer (some ⟨b6, 2, none⟩))) 5 rfl rfl (hon 5 (by kernel_rfl)) rfl
      replace ha := Aside0.mk ha
      have R_c0 := Q_c0 (hoff 14 (by kernel_rfl))
      have R_c1 := Q_c1 (hoff 14 (by kernel_rfl))
      have R_c2 := Q_c2 (hoff 14 (by kernel_rfl))
      have R_c3 := Q_c3 (hoff 14 (by kernel_rfl))
      have R_c4 := Q_c4 (hoff 14 (by kernel_rfl))
      have R_BK := Q_BK
      have R_BB := Q_BB
      replace R_BK := Aside0.mk R_BK
      replace R_BB := Aside0.mk R_BB
      refine value_ (w1 := w') (v := .string w2') (by rfl) rfl ?_ ?_
      · go_simp
        (try simp only [i64_w])
        try rfl
      refine hK.out _ _ ⟨gb, (by rw [ha.out]; exact putSel_upk 6 hb_ rfl rfl rfl), Q_c0, Q_c1, Q_c2, Q_c3, Q_c4, Q_BK, Q_BB, Q_NB, Q_NG, Q_NN, fun h0_ => absurd ((hoff 14 (by kernel_rfl)).symm.trans h0_) (by decide)⟩
    refine steps_cons ?_ ?_
    · rintro b a w' ⟨gb, ha, Q_c0, Q_c1, Q_c2, Q_c3, Q_c4, Q_BK, Q_BB, Q_NB, Q_NG, Q_NN, Q_NV⟩ hb_ hon hoff
      refine ⟨_, rfl, fun K hK => ?_⟩
      have e6 : a.tmps[6]? = some (.pointer (some ⟨b6, 0, none⟩)) := by rw [ha]; exact (putSel_off rfl).trans rfl
      replace ha := Aside0.mk ha
      have R_c0 := Q_c0 (hoff 14 (by kernel_rfl))
      have R_c1 := Q_c1 (hoff 14 (by kernel_rfl))
      have R_c2 := Q_c2 (hoff 14 (by kernel_rfl))
      have R_c3 := Q_c3 (hoff 14 (by kernel_rfl))
      have R_c4 := Q_c4 (hoff 14 (by kernel_rfl))
      have R_BK := Q_BK
      have R_BB := Q_BB
      replace R_BK := Aside0.mk R_BK
      replace R_BB := Aside0.mk R_BB
      refine value_ (w1 := w') (v := .pointer (some ⟨b6, 3, none⟩)) (by rfl) rfl ?_ ?_
      · go_simp
        (try simp only [i64_w])
        try rfl
      refine hK.out _ _ ⟨gb, (by rw [ha.out]; exact putSel_upk 7 hb_ rfl rfl rfl), Q_c0, Q_c1, Q_c2, Q_c3, Q_c4, Q_BK, Q_BB, Q_NB, Q_NG, Q_NN, fun h0_ => absurd ((hoff 14 (by kernel_rfl)).symm.trans h0_) (by decide)⟩
    refine steps_cons ?_ ?_
    · rintro b a w' ⟨gb, ha, Q_c0, Q_c1, Q_c2, Q_c3, Q_c4, Q_BK, Q_BB, Q_NB, Q_NG, Q_NN, Q_NV⟩ hb_ hon hoff
      refine ⟨_, rfl, fun K hK => ?_⟩
      have e30 : a.tmps[30]? = some (.pointer (some ⟨b6, 3, none⟩)) := by rw [ha]; exact putSel_on (e := (7, 30, .pointer (some ⟨b6, 3, none⟩))) 7 rfl rfl (hon 7 (by kernel_rfl)) rfl
      replace ha := Aside0.mk ha
      have R_c0 := Q_c0 (hoff 14 (by kernel_rfl))
      have R_c1 := Q_c1 (hoff 14 (by kernel_rfl))
      have R_c2 := Q_c2 (hoff 14 (by kernel_rfl))
      have R_c3 := Q_c3 (hoff 14 (by kernel_rfl))
      have R_c4 := Q_c4 (hoff 14 (by kernel_rfl))
      have R_BK := Q_BK
      have R_BB := Q_BB
      replace R_BK := Aside0.mk R_BK
      replace R_BB := Aside0.mk R_BB
      refine value_ (w1 := w') (v := .string w3) (by rfl) rfl ?_ ?_
      · go_simp
        (try simp only [i64_w])
        try rfl
      refine hK.out _ _ ⟨gb, (by rw [ha.out]; exact putSel_upk 8 hb_ rfl rfl rfl), Q_c0, Q_c1, Q_c2, Q_c3, Q_c4, Q_BK, Q_BB, Q_NB, Q_NG, Q_NN, fun h0_ => absurd ((hoff 14 (by kernel_rfl)).symm.trans h0_) (by decide)⟩
    refine steps_cons ?_ ?_
    · rintro b a w' ⟨gb, ha, Q_c0, Q_c1, Q_c2, Q_c3, Q_c4, Q_BK, Q_BB, Q_NB, Q_NG, Q_NN, Q_NV⟩ hb_ hon hoff
      refine ⟨_, rfl, fun K hK => ?_⟩
      have e6 : a.tmps[6]? = some (.pointer (some ⟨b6, 0, none⟩)) := by rw [ha]; exact (putSel_off rfl).trans rfl
      replace ha := Aside0.mk ha
      have R_c0 := Q_c0 (hoff 14 (by kernel_rfl))
      have R_c1 := Q_c1 (hoff 14 (by kernel_rfl))
      have R_c2 := Q_c2 (hoff 14 (by kernel_rfl))
      have R_c3 := Q_c3 (hoff 14 (by kernel_rfl))
      have R_c4 := Q_c4 (hoff 14 (by kernel_rfl))
      have R_BK := Q_BK
      have R_BB := Q_BB
      replace R_BK := Aside0.mk R_BK
      replace R_BB := Aside0.mk R_BB
      refine value_ (w1 := w') (v := .pointer (some ⟨b6, 4, none⟩)) (by rfl) rfl ?_ ?_
      · go_simp
        (try simp only [i64_w])
        try rfl
      refine hK.out _ _ ⟨gb, (by rw [ha.out]; exact putSel_upk 9 hb_ rfl rfl rfl), Q_c0, Q_c1, Q_c2, Q_c3, Q_c4, Q_BK, Q_BB, Q_NB, Q_NG, Q_NN, fun h0_ => absurd ((hoff 14 (by kernel_rfl)).symm.trans h0_) (by decide)⟩
    refine steps_cons ?_ ?_
    · rintro b a w' ⟨gb, ha, Q_c0, Q_c1, Q_c2, Q_c3, Q_c4, Q_BK, Q_BB, Q_NB, Q_NG, Q_NN, Q_NV⟩ hb_ hon hoff
      refine ⟨_, rfl, fun K hK => ?_⟩
      have e32 : a.tmps[32]? = some (.pointer (some ⟨b6, 4, none⟩)) := by rw [ha]; exact putSel_on (e := (9, 32, .pointer (some ⟨b6, 4, none⟩))) 9 rfl rfl (hon 9 (by kernel_rfl)) rfl
      replace ha := Aside0.mk ha
      have R_c0 := Q_c0 (hoff 14 (by kernel_rfl))
      have R_c1 := Q_c1 (hoff 14 (by kernel_rfl))
      have R_c2 := Q_c2 (hoff 14 (by kernel_rfl))
      have R_c3 := Q_c3 (hoff 14 (by kernel_rfl))
      have R_c4 := Q_c4 (hoff 14 (by kernel_rfl))
      have R_BK := Q_BK
      have R_BB := Q_BB
      replace R_BK := Aside0.mk R_BK
      replace R_BB := Aside0.mk R_BB
      refine value_ (w1 := w') (v := .string w4) (by rfl) rfl ?_ ?_
      · go_simp
        (try simp only [i64_w])
        try rfl
      refine hK.out _ _ ⟨gb, (by rw [ha.out]; exact putSel_upk 10 hb_ rfl rfl rfl), Q_c0, Q_c1, Q_c2, Q_c3, Q_c4, Q_BK, Q_BB, Q_NB, Q_NG, Q_NN, fun h0_ => absurd ((hoff 14 (by kernel_rfl)).symm.trans h0_) (by decide)⟩
    refine steps_cons ?_ ?_
    · rintro b a w' ⟨gb, ha, Q_c0, Q_c1, Q_c2, Q_c3, Q_c4, Q_BK, Q_BB, Q_NB, Q_NG, Q_NN, Q_NV⟩ hb_ hon hoff
      refine ⟨_, rfl, fun K hK => ?_⟩
      have e33 : a.tmps[33]? = some (.string w4) := by rw [ha]; exact putSel_on (e := (10, 33, .string w4)) 10 rfl rfl (hon 10 (by kernel_rfl)) rfl
      replace ha := Aside0.mk ha
      have R_c0 := Q_c0 (hoff 14 (by kernel_rfl))
      have R_c1 := Q_c1 (hoff 14 (by kernel_rfl))
      have R_c2 := Q_c2 (hoff 14 (by kernel_rfl))
      have R_c3 := Q_c3 (hoff 14 (by kernel_rfl))
      have R_c4 := Q_c4 (hoff 14 (by kernel_rfl))
      have R_BK := Q_BK
      have R_BB := Q_BB
      replace R_BK := Aside0.mk R_BK
      replace R_BB := Aside0.mk R_BB
      refine goes_ Tryz.func23 (by kernel_rfl) rfl #[.string w4] (by rfl) rfl rfl (by first | (simp only [List.map_toArray, List.map_cons, List.map_nil, Act.eval, Array.getD_eq_getD_getElem?, Option.getD_some, e33]; done) | (simp only [List.map_toArray, List.map_cons, List.map_nil, Act.eval, Array.getD_eq_getD_getElem?, Option.getD_some, e33]; rfl)) ?_
      with_reducible refine (price_calls w4 _ (HG.out.below R_BB.out) (Nat.le_trans S4.out (by decide))).mono ?_
      rintro e v2 ⟨rfl, hb⟩
      refine ⟨_, rfl, ?_⟩
      refine hK.out _ _ ⟨gb, (by rw [ha.out]; exact putSel_upk 11 hb_ rfl rfl rfl), fun h0_ => (hb.cell (cell_lt (Q_c0 h0_))).trans (Q_c0 h0_), fun h0_ => (hb.cell (cell_lt (Q_c1 h0_))).trans (Q_c1 h0_), fun h0_ => (hb.cell (cell_lt (Q_c2 h0_))).trans (Q_c2 h0_), fun h0_ => (hb.cell (cell_lt (Q_c3 h0_))).trans (Q_c3 h0_), fun h0_ => (hb.cell (cell_lt (Q_c4 h0_))).trans (Q_c4 h0_), blk_below Q_BK hb, below_step Q_BB hb, fun h0_ h1_ => blk_below (Q_NB h0_ h1_) hb, Q_NG, Q_NN, fun h0_ => absurd ((hoff 14 (by kernel_rfl)).symm.trans h0_) (by decide)⟩
    refine steps_cons ?_ ?_
    · rintro b a w' ⟨gb, ha, Q_c0, Q_c1, Q_c2, Q_c3, Q_c4, Q_BK, Q_BB, Q_NB, Q_NG, Q_NN, Q_NV⟩ hb_ hon hoff
      refine ⟨_, rfl, fun K hK => ?_⟩
      have e24 : a.tmps[24]? = some (.string w0) := by rw [ha]; exact putSel_on (e := (1, 24, .string w0)) 1 rfl rfl (hon 1 (by kernel_rfl)) rfl
      have e27 : a.tmps[27]? = some (.int .i64 (countL (tl w1) 1000000000000)) := by rw [ha]; exact putSel_on (e := (4, 27, .int .i64 (countL (tl w1) 1000000000000))) 4 rfl rfl (hon 4 (by kernel_rfl)) rfl
      have e29 : a.tmps[29]? = some (.string w2') := by rw [ha]; exact putSel_on (e := (6, 29, .string w2')) 6 rfl rfl (hon 6 (by kernel_rfl)) rfl
      have e31 : a.tmps[31]? = some (.string w3) := by rw [ha]; exact putSel_on (e := (8, 31, .string w3)) 8 rfl rfl (hon 8 (by kernel_rfl)) rfl
      have e34 : a.tmps[34]? = some (.int .i64 (priceL (tl w4))) := by rw [ha]; exact putSel_on (e := (11, 34, .int .i64 (priceL (tl w4)))) 11 rfl rfl (hon 11 (by kernel_rfl)) rfl
      replace ha := Aside0.mk ha
      have R_c0 := Q_c0 (hoff 14 (by kernel_rfl))
      have R_c1 := Q_c1 (hoff 14 (by kernel_rfl))
      have R_c2 := Q_c2 (hoff 14 (by kernel_rfl))
      have R_c3 := Q_c3 (hoff 14 (by kernel_rfl))
      have R_c4 := Q_c4 (hoff 14 (by kernel_rfl))
      have R_BK := Q_BK
      have R_BB := Q_BB
      replace R_BK := Aside0.mk R_BK
      replace R_BB := Aside0.mk R_BB
      refine value_ (w1 := w') (v := .agg #[.string w0, .int .i64 (countL (tl w1) 1000000000000), .string w2', .string w3, .int .i64 (priceL (tl w4))]) (by rfl) rfl ?_ ?_
      · go_simp
        (try simp only [i64_w])
        try rfl
      refine hK.out _ _ ⟨gb, (by rw [ha.out]; exact putSel_upk 12 hb_ rfl rfl rfl), Q_c0, Q_c1, Q_c2, Q_c3, Q_c4, Q_BK, Q_BB, Q_NB, Q_NG, Q_NN, fun h0_ => absurd ((hoff 14 (by kernel_rfl)).symm.trans h0_) (by decide)⟩
    refine steps_cons ?_ ?_
    · rintro b a w' ⟨gb, ha, Q_c0, Q_c1, Q_c2, Q_c3, Q_c4, Q_BK, Q_BB, Q_NB, Q_NG, Q_NN, Q_NV⟩ hb_ hon hoff
      refine ⟨_, rfl, fun K hK => ?_⟩
      replace ha := Aside0.mk ha
      have R_c0 := Q_c0 (hoff 14 (by kernel_rfl))
      have R_c1 := Q_c1 (hoff 14 (by kernel_rfl))
      have R_c2 := Q_c2 (hoff 14 (by kernel_rfl))
      have R_c3 := Q_c3 (hoff 14 (by kernel_rfl))
      have R_c4 := Q_c4 (hoff 14 (by kernel_rfl))
      have R_BK := Q_BK
      have R_BB := Q_BB
      replace R_BK := Aside0.mk R_BK
      replace R_BB := Aside0.mk R_BB
      refine box_step ?hg (N := 7) ?hd (cs := #[.string ⟨#[]⟩, .int .i64 0, .string ⟨#[]⟩, .string ⟨#[]⟩, .int .i64 0]) (t := 23) ?hr ?_; (case hd => rfl); (case hg => rfl); (case hr => first | (go_simp; done) | (go_simp; rfl))
      intro ng hg v2 hbox hb
      refine hK.out _ _ ⟨ng, (by rw [ha.out]; exact putSel_upk 13 hb_ rfl rfl rfl), fun h0_ => (hb.cell (cell_lt (Q_c0 h0_))).trans (Q_c0 h0_), fun h0_ => (hb.cell (cell_lt (Q_c1 h0_))).trans (Q_c1 h0_), fun h0_ => (hb.cell (cell_lt (Q_c2 h0_))).trans (Q_c2 h0_), fun h0_ => (hb.cell (cell_lt (Q_c3 h0_))).trans (Q_c3 h0_), fun h0_ => (hb.cell (cell_lt (Q_c4 h0_))).trans (Q_c4 h0_), blk_below Q_BK hb, below_step Q_BB hb, fun _ _ => hbox, fun _ => by rw [hg]; exact R_BB.out.size, fun _ => by rw [hg]; exact Nat.ne_of_lt (blk_lt R_BK.out), fun h0_ => absurd ((hoff 14 (by kernel_rfl)).symm.trans h0_) (by decide)⟩
    refine steps_cons ?_ ?_
    · rintro b a w' ⟨gb, ha, Q_c0, Q_c1, Q_c2, Q_c3, Q_c4, Q_BK, Q_BB, Q_NB, Q_NG, Q_NN, Q_NV⟩ hb_ hon hoff
      refine ⟨_, rfl, fun K hK => ?_⟩
      have e7 : a.tmps[7]? = some (.pointer (some ⟨gb, 0, none⟩)) := by rw [ha]; exact putSel_on (e := (13, 7, .pointer (some ⟨gb, 0, none⟩))) 13 rfl rfl (hon 13 (by kernel_rfl)) rfl
      have e35 : a.tmps[35]? = some (.agg #[.string w0, .int .i64 (countL (tl w1) 1000000000000), .string w2', .string w3, .int .i64 (priceL (tl w4))]) := by rw [ha]; exact putSel_on (e := (12, 35, .agg #[.string w0, .int .i64 (countL (tl w1) 1000000000000), .string w2', .string w3, .int .i64 (priceL (tl w4))])) 12 rfl rfl (hon 12 (by kernel_rfl)) rfl
      replace ha := Aside0.mk ha
      have R_c0 := Q_c0 hb_
      have R_c1 := Q_c1 hb_
      have R_c2 := Q_c2 hb_
      have R_c3 := Q_c3 hb_
      have R_c4 := Q_c4 hb_
      have R_BK := Q_BK
      have R_BB := Q_BB
      have R_NB := Q_NB (hon 13 (by kernel_rfl)) hb_
      have R_NG := Q_NG (hon 13 (by kernel_rfl))
      have R_NN := Q_NN (hon 13 (by kernel_rfl))
      replace R_BK := Aside0.mk R_BK
      replace R_BB := Aside0.mk R_BB
      replace R_NB := Aside0.mk R_NB
      replace R_NG := Aside0.mk R_NG
      replace R_NN := Aside0.mk R_NN
      have q0 : w'.cell? ⟨gb, 0, none⟩ = some (.string ⟨#[]⟩) := (blk_cell R_NB.out 0).trans rfl
      have q1 : w'.cell? ⟨gb, 1, none⟩ = some (.int .i64 0) := (blk_cell R_NB.out 1).trans rfl
      have q2 : w'.cell? ⟨gb, 2, none⟩ = some (.string ⟨#[]⟩) := (blk_cell R_NB.out 2).trans rfl
      have q3 : w'.cell? ⟨gb, 3, none⟩ = some (.string ⟨#[]⟩) := (blk_cell R_NB.out 3).trans rfl
      have q4 : w'.cell? ⟨gb, 4, none⟩ = some (.int .i64 0) := (blk_cell R_NB.out 4).trans rfl
      have z0 := blk_frozen R_NB.out 0
      have z1 := blk_frozen R_NB.out 1
      have z2 := blk_frozen R_NB.out 2
      have z3 := blk_frozen R_NB.out 3
      have z4 := blk_frozen R_NB.out 4
      refine skip_ (w1 := ?_) (by rfl) rfl ?_ ?_
      rotate_left
      · go_simp
        rfl
      refine hK.out _ _ ⟨gb, (by rw [ha.out]; exact (putSel_same rfl).symm), fun h0_ => absurd ((up_self b 14).symm.trans h0_) (by decide), fun h0_ => absurd ((up_self b 14).symm.trans h0_) (by decide), fun h0_ => absurd ((up_self b 14).symm.trans h0_) (by decide), fun h0_ => absurd ((up_self b 14).symm.trans h0_) (by decide), fun h0_ => absurd ((up_self b 14).symm.trans h0_) (by decide), by rw [Below.heap_setCell _ _ _ _ R_NN.out, Below.heap_setCell _ _ _ _ R_NN.out, Below.heap_setCell _ _ _ _ R_NN.out, Below.heap_setCell _ _ _ _ R_NN.out, Below.heap_setCell _ _ _ _ R_NN.out]; exact R_BK.out, (five w w' gb _ _ _ _ _ (.string w0) (.int .i64 (countL (tl w1) 1000000000000)) (.string w2') (.string w3) (.int .i64 (priceL (tl w4))) 23 R_NB.out R_BB.out R_NG.out).2, fun h0_ h1_ => absurd ((up_self b 14).symm.trans h1_) (by decide), Q_NG, Q_NN, fun _ => (five w w' gb _ _ _ _ _ (.string w0) (.int .i64 (countL (tl w1) 1000000000000)) (.string w2') (.string w3) (.int .i64 (priceL (tl w4))) 23 R_NB.out R_BB.out R_NG.out).1⟩
    exact steps_nil
  rintro b a w9 hall ⟨gb, ha, Q_c0, Q_c1, Q_c2, Q_c3, Q_c4, Q_BK, Q_BB, Q_NB, Q_NG, Q_NN, Q_NV⟩
  have hb0_ := hall 0 (by kernel_rfl)
  have hb1_ := hall 1 (by kernel_rfl)
  have hb2_ := hall 2 (by kernel_rfl)
  have hb3_ := hall 3 (by kernel_rfl)
  have hb4_ := hall 4 (by kernel_rfl)
  have hb5_ := hall 5 (by kernel_rfl)
  have hb6_ := hall 6 (by kernel_rfl)
  have hb7_ := hall 7 (by kernel_rfl)
  have hb8_ := hall 8 (by kernel_rfl)
  have hb9_ := hall 9 (by kernel_rfl)
  have hb10_ := hall 10 (by kernel_rfl)
  have hb11_ := hall 11 (by kernel_rfl)
  have hb12_ := hall 12 (by kernel_rfl)
  have hb13_ := hall 13 (by kernel_rfl)
  have hb14_ := hall 14 (by kernel_rfl)
  subst ha
  clear Q_c0
  clear Q_c1
  clear Q_c2
  clear Q_c3
  clear Q_c4
  have BK := Aside0.mk (Q_BK)
  clear Q_BK
  have BB := Aside0.mk (Q_BB)
  clear Q_BB
  clear Q_NB
  have NG := Aside0.mk (Q_NG hb13_)
  clear Q_NG
  have NN := Aside0.mk (Q_NN hb13_)
  clear Q_NN
  have NV := Aside0.mk (Q_NV hb14_)
  clear Q_NV
  simp only [putSel, hb0_, hb1_, hb2_, hb3_, hb4_, hb5_, hb6_, hb7_, hb8_, hb9_, hb10_, hb11_, hb12_, hb13_, hb14_, if_true, Act.put, List.setIfInBounds_toArray, List.set_cons_zero, List.set_cons_succ]
  clear hall hb0_ hb1_ hb2_ hb3_ hb4_ hb5_ hb6_ hb7_ hb8_ hb9_ hb10_ hb11_ hb12_ hb13_ hb14_
  generalize hn : countL (tl w1) 1000000000000 = n at NV hr ⊢
  generalize hp : priceL (tl w4) = p at NV hr ⊢
  clear hn hp
  have y0 : w9.cell? ⟨gb, 0, none⟩ = some (.string w0) := (blk_cell NV.out 0).trans rfl
  have y1 : w9.cell? ⟨gb, 1, none⟩ = some (.int .i64 n) := (blk_cell NV.out 1).trans rfl
  have y2 : w9.cell? ⟨gb, 2, none⟩ = some (.string w2') := (blk_cell NV.out 2).trans rfl
  have y3 : w9.cell? ⟨gb, 3, none⟩ = some (.string w3) := (blk_cell NV.out 3).trans rfl
  have y4 : w9.cell? ⟨gb, 4, none⟩ = some (.int .i64 p) := (blk_cell NV.out 4).trans rfl
  go_wp2_with fail
  refine (wrong_calls w0 w2' w3 n p _).mono ?_
  rintro e v3 ⟨rfl, b3⟩
  have NV3 := Aside0.mk (blk_below NV.out b3)
  have BK3 := Aside0.mk (blk_below BK.out b3)
  have BB3 := Aside0.mk (below_step BB.out b3)
  clear b3 y0 y1 y2 y3 y4 NV BK BB Q3 K3 B3 K2 Q2 B2
  obtain ⟨x0, hx0⟩ : ∃ b, (!nameB w0) = b := ⟨_, rfl⟩
  obtain ⟨x1, hx1⟩ : ∃ b, badSeq n = b := ⟨_, rfl⟩
  obtain ⟨x2, hx2⟩ : ∃ b, (!nameB w2') = b := ⟨_, rfl⟩
  obtain ⟨x3, hx3⟩ : ∃ b, (!nameB w3) = b := ⟨_, rfl⟩
  obtain ⟨x4, hx4⟩ : ∃ b, badPrice p = b := ⟨_, rfl⟩
  rw [hx0, hx1, hx2, hx3, hx4] at hr
  rw [hx0, hx1, hx2, hx3, hx4]
  clear hx0 hx1 hx2 hx3 hx4
  go_wp2_with fail
  go_loop [8, 9, 38] (fun _ _ vi => ∃ i : Nat, vi = .int .i64 (i : Int) ∧ i ≤ 5 ∧ Aside0 (∀ j, j < i → bit [x0, x1, x2, x3, x4] j = false)) (fun _ _ vi => 5 - (intOf vi).toNat)
  case atStart => exact ⟨0, rfl, by omega, ⟨fun j h => absurd h (Nat.not_lt_zero j)⟩⟩
  case round =>
    obtain ⟨i, rfl, hi, hbs⟩ := hrel
    by_cases hlt : i < 5
    · have d1 : decide ((i : Int) < 5) = true := decide_eq_true (by omega)
      have hidx := idx5 x0 x1 x2 x3 x4 i hlt v3
      have hw1 : wrap64 ((i : Int) + 1) = ((i + 1 : Nat) : Int) := by unfold wrap64; omega
      cases hb : bit [x0, x1, x2, x3, x4] i with
      | true =>
        rw [hb] at hidx
        have hans := Aside0.mk (hr.out.trans (show _ = (zeroV, 112, (i : Int)) by rw [bad_at (by exact hlt) hb hbs.out]))
        clear hb hbs hr
        have q0 : v3.cell? ⟨B, 0, none⟩ = some (.string ⟨#[]⟩) := (blk_cell BK3.out 0).trans rfl
        have z0 := blk_frozen BK3.out 0
        have q1 : v3.cell? ⟨B, 1, none⟩ = some (.int .i64 0) := (blk_cell BK3.out 1).trans rfl
        have z1 := blk_frozen BK3.out 1
        have q2 : v3.cell? ⟨B, 2, none⟩ = some (.string ⟨#[]⟩) := (blk_cell BK3.out 2).trans rfl
        have z2 := blk_frozen BK3.out 2
        have q3 : v3.cell? ⟨B, 3, none⟩ = some (.string ⟨#[]⟩) := (blk_cell BK3.out 3).trans rfl
        have z3 := blk_frozen BK3.out 3
        have q4 : v3.cell? ⟨B, 4, none⟩ = some (.int .i64 0) := (blk_cell BK3.out 4).trans rfl
        have z4 := blk_frozen BK3.out 4
        go_wp2_with fail
        obtain ⟨K9, B9⟩ := five w v3 B _ _ _ _ _ (.string ⟨#[]⟩) (.int .i64 0) (.string ⟨#[]⟩) (.string ⟨#[]⟩) (.int .i64 0) 23 BK3.out BB3.out (by rw [HB.out]; exact Nat.le_refl _)
        clear q0 z0 q1 z1 q2 z2 q3 z3 q4 z4
        generalize (((((v3.setCell ⟨B, 0, none⟩ (.string ⟨#[]⟩)).setCell ⟨B, 1, none⟩ (.int .i64 0)).setCell ⟨B, 2, none⟩ (.string ⟨#[]⟩)).setCell ⟨B, 3, none⟩ (.string ⟨#[]⟩)).setCell ⟨B, 4, none⟩ (.int .i64 0)) = W9 at K9 B9 ⊢
        have q0 : W9.cell? ⟨B, 0, none⟩ = some (.string ⟨#[]⟩) := (blk_cell K9 0).trans rfl
        have q1 : W9.cell? ⟨B, 1, none⟩ = some (.int .i64 0) := (blk_cell K9 1).trans rfl
        have q2 : W9.cell? ⟨B, 2, none⟩ = some (.string ⟨#[]⟩) := (blk_cell K9 2).trans rfl
        have q3 : W9.cell? ⟨B, 3, none⟩ = some (.string ⟨#[]⟩) := (blk_cell K9 3).trans rfl
        have q4 : W9.cell? ⟨B, 4, none⟩ = some (.int .i64 0) := (blk_cell K9 4).trans rfl
        refine bodyPost_ret (v := .tuple #[zeroV, .int .i64 112, .int .i64 (i : Int)]) (by simp [results, Tryz.results11, go_sem, q0, q1, q2, q3, q4, zeroV, feedV]) rfl ?_
        exact ⟨by rw [hans.out], B9⟩
      | false =>
        rw [hb] at hidx
        have hbs' := Aside0.mk (show ∀ j, j < i + 1 → bit [x0, x1, x2, x3, x4] j = false from fun j hj => by
          by_cases e : j = i
          · rw [e]; exact hb
          · exact hbs.out j (by omega))
        clear hb hbs
        go_wp2_with fail
        go_round
        case rel => exact ⟨i + 1, rfl, by omega, hbs'⟩
        case measure => simp [intOf]; omega
    · obtain rfl : i = 5 := by omega
      have hans := Aside0.mk (hr.out.trans (show _ = (feedV w0 n w2' w3 p, 0, 0) by rw [bad_none (fun j hj => hbs.out j hj)]))
      clear hbs hr hlt
      have y0 : v3.cell? ⟨gb, 0, none⟩ = some (.string w0) := (blk_cell NV3.out 0).trans rfl
      have q0 : v3.cell? ⟨B, 0, none⟩ = some (.string ⟨#[]⟩) := (blk_cell BK3.out 0).trans rfl
      have z0 := blk_frozen BK3.out 0
      have y1 : v3.cell? ⟨gb, 1, none⟩ = some (.int .i64 n) := (blk_cell NV3.out 1).trans rfl
      have q1 : v3.cell? ⟨B, 1, none⟩ = some (.int .i64 0) := (blk_cell BK3.out 1).trans rfl
      have z1 := blk_frozen BK3.out 1
      have y2 : v3.cell? ⟨gb, 2, none⟩ = some (.string w2') := (blk_cell NV3.out 2).trans rfl
      have q2 : v3.cell? ⟨B, 2, none⟩ = some (.string ⟨#[]⟩) := (blk_cell BK3.out 2).trans rfl
      have z2 := blk_frozen BK3.out 2
      have y3 : v3.cell? ⟨gb, 3, none⟩ = some (.string w3) := (blk_cell NV3.out 3).trans rfl
      have q3 : v3.cell? ⟨B, 3, none⟩ = some (.string ⟨#[]⟩) := (blk_cell BK3.out 3).trans rfl
      have z3 := blk_frozen BK3.out 3
      have y4 : v3.cell? ⟨gb, 4, none⟩ = some (.int .i64 p) := (blk_cell NV3.out 4).trans rfl
      have q4 : v3.cell? ⟨B, 4, none⟩ = some (.int .i64 0) := (blk_cell BK3.out 4).trans rfl
      have z4 := blk_frozen BK3.out 4
      go_wp2_with fail
      obtain ⟨K9, B9⟩ := five w v3 B _ _ _ _ _ (.string w0) (.int .i64 n) (.string w2') (.string w3) (.int .i64 p) 23 BK3.out BB3.out (by rw [HB.out]; exact Nat.le_refl _)
      clear q0 z0 q1 z1 q2 z2 q3 z3 q4 z4
      generalize (((((v3.setCell ⟨B, 0, none⟩ (.string w0)).setCell ⟨B, 1, none⟩ (.int .i64 n)).setCell ⟨B, 2, none⟩ (.string w2')).setCell ⟨B, 3, none⟩ (.string w3)).setCell ⟨B, 4, none⟩ (.int .i64 p)) = W9 at K9 B9 ⊢
      have q0 : W9.cell? ⟨B, 0, none⟩ = some (.string w0) := (blk_cell K9 0).trans rfl
      have q1 : W9.cell? ⟨B, 1, none⟩ = some (.int .i64 n) := (blk_cell K9 1).trans rfl
      have q2 : W9.cell? ⟨B, 2, none⟩ = some (.string w2') := (blk_cell K9 2).trans rfl
      have q3 : W9.cell? ⟨B, 3, none⟩ = some (.string w3) := (blk_cell K9 3).trans rfl
      have q4 : W9.cell? ⟨B, 4, none⟩ = some (.int .i64 p) := (blk_cell K9 4).trans rfl
      refine bodyPost_ret (v := .tuple #[feedV w0 n w2' w3 p, .int .i64 0, .int .i64 0]) (by simp [results, Tryz.results11, go_sem, q0, q1, q2, q3, q4, zeroV, feedV]) rfl ?_
      exact ⟨by rw [hans.out], B9⟩
theorem decode_calls0 (s : ByteArray) (w : World) (hG : G w) :
    Calls Tryz.prog 11 #[.string s] w fun e w' => e = .returned (.tuple #[(decodeV s).1, .int .i64 (decodeV s).2.1, .int .i64 (decodeV s).2.2]) ∧ Below w.heap.size w w' := by
  by_cases h1 : 100 < s.size
  · exact FeedDg.decode_long s w h1
  · by_cases h5 : (wordsOf s).length = 5
    · match h : wordsOf s, h5 with
      | [w0, w1, w2, w3, w4], _ => exact decode_five s w hG (by omega) w0 w1 w2 w3 w4 h
    · exact FeedDg.decode_fields s w hG (by omega) h5
open Go.Proofs.YtbecemdehelooaaGreatDoor.FeedPm in
theorem decode_calls (s : ByteArray) (w : World) (hG : G w) :
    Calls Tryz.prog 11 #[.string s] w fun e w' => e = .returned (.tuple #[.agg #[.string (decodeN s).1.so, .int .i64 (decodeN s).1.n, .string (decodeN s).1.sk, .string (decodeN s).1.se, .int .i64 (decodeN s).1.p], .int .i64 (decodeN s).2.1, .int .i64 (decodeN s).2.2]) ∧ Below w.heap.size w w' := by
  have h := decode_calls0 s w hG
  rw [decode_N] at h
  exact h
end Go.Proofs.YtbecemdehelooaaGreatDoor.FeedDh
