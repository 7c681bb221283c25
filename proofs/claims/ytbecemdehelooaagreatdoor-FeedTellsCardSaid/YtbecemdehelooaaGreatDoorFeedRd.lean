/- The document's Decode. -/
import Derived.Test.YtbecemdehelooaaGreatDoorFeedRf
import Derived.Test.YtbecemdehelooaaGreatDoorFeedDh
namespace Go.Proofs.YtbecemdehelooaaGreatDoor.FeedRd
open Go.RowKit Go.Proofs.YtbecemdehelooaaGreatDoor.FrameS Go.Proofs.YtbecemdehelooaaGreatDoor.FrameP Go.Proofs.YtbecemdehelooaaGreatDoor.FeedG Go.Proofs.YtbecemdehelooaaGreatDoor.FeedD Go.Proofs.YtbecemdehelooaaGreatDoor.FeedT Go.Proofs.YtbecemdehelooaaGreatDoor.FeedP Go.Proofs.YtbecemdehelooaaGreatDoor.FeedQ Go.Proofs.YtbecemdehelooaaGreatDoor.FeedX Go.Proofs.YtbecemdehelooaaGreatDoor.FeedN Go.Proofs.YtbecemdehelooaaGreatDoor.FeedW Go.Proofs.YtbecemdehelooaaGreatDoor.FeedE Go.Proofs.YtbecemdehelooaaGreatDoor.FeedDe Go.Proofs.YtbecemdehelooaaGreatDoor.FeedDh Go.Proofs.YtbecemdehelooaaGreatDoor.FeedPl Go.Proofs.YtbecemdehelooaaGreatDoor.FeedR Go.Proofs.YtbecemdehelooaaGreatDoor.FeedRn Go.Proofs.YtbecemdehelooaaGreatDoor.FeedRp Go.Proofs.YtbecemdehelooaaGreatDoor.FeedRc Go.Proofs.YtbecemdehelooaaGreatDoor.FeedRf Go.Proofs.YtbecemdehelooaaGreatDoorW.PrintWords Go.Proofs.YtbecemdehelooaaGreatDoorW.PrintLast Go.Proofs.YtbecemdehelooaaGreatDoorW.PrintMore
set_option linter.unusedVariables false
set_option linter.unusedSimpArgs false
set_option maxHeartbeats 1000000 in
set_option maxRecDepth 100000 in
theorem refdec_long (s : ByteArray) (w : World) (hs : 100 < s.size) :
    Calls Tryz.prog 12 #[.string s] w fun e w' => e = .returned (.tuple #[(decodeV s).1, .int .i64 (decodeV s).2.1, .int .i64 (decodeV s).2.2]) ∧ Below w.heap.size w w' := by
  have hans := Aside0.mk (show decodeV s = (zeroV, 60, 0) by unfold decodeV; rw [if_pos hs])
  have d0 : decide (100 < (s.size : Int)) = true := decide_eq_true (by omega)
  clear hs
  go_enter Tryz.func12, Tryz.ntmps12
  go_wp2_with fail
  have B9 := below_alloc (Below.refl w.heap.size w) (.cells #[.string ⟨#[]⟩, .int .i64 0, .string ⟨#[]⟩, .string ⟨#[]⟩, .int .i64 0] 23)
  have K9 := blk_new w (.cells #[.string ⟨#[]⟩, .int .i64 0, .string ⟨#[]⟩, .string ⟨#[]⟩, .int .i64 0] 23)
  generalize w.alloc (.cells #[.string ⟨#[]⟩, .int .i64 0, .string ⟨#[]⟩, .string ⟨#[]⟩, .int .i64 0] 23) = W9 at K9 B9 ⊢
  obtain ⟨B, hB⟩ : ∃ B, w.heap.size = B := ⟨_, rfl⟩
  rw [hB] at K9 B9 ⊢
  clear hB
  have q0 : W9.cell? ⟨B, 0, none⟩ = some (.string ⟨#[]⟩) := (blk_cell K9 0).trans rfl
  have q1 : W9.cell? ⟨B, 1, none⟩ = some (.int .i64 0) := (blk_cell K9 1).trans rfl
  have q2 : W9.cell? ⟨B, 2, none⟩ = some (.string ⟨#[]⟩) := (blk_cell K9 2).trans rfl
  have q3 : W9.cell? ⟨B, 3, none⟩ = some (.string ⟨#[]⟩) := (blk_cell K9 3).trans rfl
  have q4 : W9.cell? ⟨B, 4, none⟩ = some (.int .i64 0) := (blk_cell K9 4).trans rfl
  refine bodyPost_ret (v := .tuple #[zeroV, .int .i64 60, .int .i64 0]) (by simp [results, Tryz.results12, go_sem, q0, q1, q2, q3, q4, zeroV, feedV]) rfl ?_
  exact ⟨by rw [hans.out], B9⟩
set_option maxHeartbeats 2000000 in
set_option maxRecDepth 100000 in
theorem refdec_fields (s : ByteArray) (w : World) (hs : s.size ≤ 100) (h5 : (wordsOf s).length ≠ 5) :
    Calls Tryz.prog 12 #[.string s] w fun e w' => e = .returned (.tuple #[(decodeV s).1, .int .i64 (decodeV s).2.1, .int .i64 (decodeV s).2.2]) ∧ Below w.heap.size w w' := by
  have hans := Aside0.mk (show decodeV s = (zeroV, 111, 0) by unfold decodeV; rw [if_neg (by omega), if_pos h5])
  have d0 : decide (100 < (s.size : Int)) = false := decide_eq_false (by omega)
  obtain ⟨n, hn⟩ : ∃ n, (wordsOf s).length = n := ⟨_, rfl⟩
  have d1 : ((n : Int) != 5) = true := bne_iff_ne.2 (by omega)
  have HN := Aside0.mk hn
  have HF := Aside0.mk (fun w0 => reffields_calls s hs w0)
  clear hs h5 hn
  obtain ⟨B, hB⟩ : ∃ B, B = w.heap.size := ⟨_, rfl⟩
  obtain ⟨W1, hW1⟩ : ∃ W, w.alloc (.cells #[.string ⟨#[]⟩, .int .i64 0, .string ⟨#[]⟩, .string ⟨#[]⟩, .int .i64 0] 23) = W := ⟨_, rfl⟩
  have K1 := Aside0.mk (show W1.heap[B]? = some (.cells #[.string ⟨#[]⟩, .int .i64 0, .string ⟨#[]⟩, .string ⟨#[]⟩, .int .i64 0] 23 (0, 0)) by rw [← hW1, hB]; exact blk_new w _)
  have B1 := Aside0.mk (show Below w.heap.size w W1 by rw [← hW1]; exact below_alloc (Below.refl _ _) _)
  have HB := Aside0.mk hB
  have HW1 := Aside0.mk hW1
  clear hB hW1
  go_enter Tryz.func12, Tryz.ntmps12
  go_wp2_with fail
  rw [HW1.out, ← HB.out]
  refine (HF.out _).mono ?_
  rintro e w2 ⟨v, rfl, hr, b⟩
  obtain ⟨a, cap, rfl⟩ := hr.val
  rw [HN.out]
  have K2 := Aside0.mk (blk_below K1.out b)
  have B2 := Aside0.mk (below_step B1.out b)
  clear hr b
  have q0 : w2.cell? ⟨B, 0, none⟩ = some (.string ⟨#[]⟩) := (blk_cell K2.out 0).trans rfl
  have z0 := blk_frozen K2.out 0
  have q1 : w2.cell? ⟨B, 1, none⟩ = some (.int .i64 0) := (blk_cell K2.out 1).trans rfl
  have z1 := blk_frozen K2.out 1
  have q2 : w2.cell? ⟨B, 2, none⟩ = some (.string ⟨#[]⟩) := (blk_cell K2.out 2).trans rfl
  have z2 := blk_frozen K2.out 2
  have q3 : w2.cell? ⟨B, 3, none⟩ = some (.string ⟨#[]⟩) := (blk_cell K2.out 3).trans rfl
  have z3 := blk_frozen K2.out 3
  have q4 : w2.cell? ⟨B, 4, none⟩ = some (.int .i64 0) := (blk_cell K2.out 4).trans rfl
  have z4 := blk_frozen K2.out 4
  go_wp2_with fail
  obtain ⟨K9, B9⟩ := five w w2 B _ _ _ _ _ (.string ⟨#[]⟩) (.int .i64 0) (.string ⟨#[]⟩) (.string ⟨#[]⟩) (.int .i64 0) 23 K2.out B2.out (by rw [HB.out]; exact Nat.le_refl _)
  clear q0 z0 q1 z1 q2 z2 q3 z3 q4 z4
  generalize (((((w2.setCell ⟨B, 0, none⟩ (.string ⟨#[]⟩)).setCell ⟨B, 1, none⟩ (.int .i64 0)).setCell ⟨B, 2, none⟩ (.string ⟨#[]⟩)).setCell ⟨B, 3, none⟩ (.string ⟨#[]⟩)).setCell ⟨B, 4, none⟩ (.int .i64 0)) = W9 at K9 B9 ⊢
  have q0 : W9.cell? ⟨B, 0, none⟩ = some (.string ⟨#[]⟩) := (blk_cell K9 0).trans rfl
  have q1 : W9.cell? ⟨B, 1, none⟩ = some (.int .i64 0) := (blk_cell K9 1).trans rfl
  have q2 : W9.cell? ⟨B, 2, none⟩ = some (.string ⟨#[]⟩) := (blk_cell K9 2).trans rfl
  have q3 : W9.cell? ⟨B, 3, none⟩ = some (.string ⟨#[]⟩) := (blk_cell K9 3).trans rfl
  have q4 : W9.cell? ⟨B, 4, none⟩ = some (.int .i64 0) := (blk_cell K9 4).trans rfl
  refine bodyPost_ret (v := .tuple #[zeroV, .int .i64 111, .int .i64 0]) (by simp [results, Tryz.results12, go_sem, q0, q1, q2, q3, q4, zeroV, feedV]) rfl ?_
  exact ⟨by rw [hans.out], B9⟩
/-- What is asked of the five words, as the document asks. -/
theorem seq_ok (x : ByteArray) : badSeq (countL (tl x) 1000000000000) = !decide (0 < seqR x) ∧ (0 < seqR x → seqR x = countL (tl x) 1000000000000) := by
  have h := (count_le (tl x) 1000000000000 (by decide)).1
  unfold seqR badSeq
  by_cases c : countL (tl x) 1000000000000 < 1
  · rw [if_pos c, decide_eq_true c]
    exact ⟨rfl, fun e => absurd e (by decide)⟩
  · rw [if_neg c, decide_eq_false c, decide_eq_false (by omega), decide_eq_true (by omega)]
    exact ⟨rfl, fun _ => rfl⟩
theorem parse_big (l : List UInt8) (h : (parseL l).2 = 0) : (parseL l).1 ≤ 1000000000000 := by
  cases hb : parseB l with
  | false => rw [parse_no hb] at h; exact absurd h (by decide)
  | true =>
    rw [parse_yes hb]
    have h1 := hb
    unfold parseB at h1
    simp only [Bool.and_eq_true, beq_iff_eq, decide_eq_true_eq] at h1
    obtain ⟨⟨⟨h1, -⟩, -⟩, h4⟩ := h1
    have hne := whole_ne h1
    show amountL l ≤ _
    cases hi : InMoney (amountL l) with
    | true => unfold InMoney at hi; simp at hi; omega
    | false =>
      unfold textL at h4
      rw [hi] at h4
      exact absurd h4.symm hne
theorem price_ok (x : ByteArray) : badPrice (priceL (tl x)) = !decide (0 ≤ priceR x) ∧ (0 ≤ priceR x → priceR x = priceL (tl x)) := by
  unfold priceL priceR badPrice
  by_cases hg : tl x = goneL
  · rw [if_pos hg, if_pos hg]; exact ⟨rfl, fun _ => rfl⟩
  · rw [if_neg hg, if_neg hg]
    by_cases h0 : (parseL (tl x)).2 = 0
    · have hb := parse_big _ h0
      by_cases h1 : 1 ≤ (parseL (tl x)).1
      · rw [if_pos ⟨h0, by omega⟩, if_pos ⟨h0, h1⟩, decide_eq_false (by omega), decide_eq_false (by omega), decide_eq_true (by omega)]
        exact ⟨rfl, fun _ => rfl⟩
      · by_cases h2 : (parseL (tl x)).1 = 0
        · rw [if_neg (fun h => h.2 h2), if_neg (fun h => h1 h.2)]
          exact ⟨rfl, fun e => absurd e (by decide)⟩
        · rw [if_pos ⟨h0, h2⟩, if_neg (fun h => h1 h.2), decide_eq_true (by omega : (parseL (tl x)).1 < 0)]
          exact ⟨rfl, fun e => absurd e (by decide)⟩
    · rw [if_neg (fun h => h0 h.1), if_neg (fun h => h0 h.1)]
      exact ⟨rfl, fun e => absurd e (by decide)⟩
theorem bool5 (x0 x1 x2 x3 x4 : Bool) (i : Nat) (hi : i < 5) : (#[.bool x0, .bool x1, .bool x2, .bool x3, .bool x4] : Array Value)[i]? = some (.bool (!(bit [!x0, !x1, !x2, !x3, !x4] i))) := by
  match i, hi with
  | 0, _ => cases x0 <;> rfl
  | 1, _ => cases x1 <;> rfl
  | 2, _ => cases x2 <;> rfl
  | 3, _ => cases x3 <;> rfl
  | 4, _ => cases x4 <;> rfl
def tD6.T : Bool × List (List Nat × List Nat) := (true, [([], []), ([0], [0]), ([1], [1]), ([], []), ([3], [3]), ([4], [4]), ([5], [5]), ([], []), ([7], [7]), ([8], [8]), ([], []), ([10], [10]), ([11], [11]), ([], []), ([13], [13]), ([14], [14]), ([15, 6], [15]), ([2, 6, 9, 12, 16], [2, 6, 9, 12, 16]), ([], []), ([18, 17, 16, 0, 1, 2, 3, 4, 5, 6, 7, 8, 9, 10, 11, 12, 13, 14, 15, 16, 17, 18], [17, 18])])
def tD6.B : List Nat := [0, 1, 3, 0, 8, 24, 56, 0, 128, 384, 0, 1024, 3072, 0, 8192, 24576, 57464, 131071, 0, 524287]
theorem tD6.tab : rtab .any (opsOf Tryz.f12 6) = tD6.T := by kernel_rfl
theorem tD6.bits : waitsOk tD6.T.2 tD6.B = true := by kernel_rfl
def tD7.T : Bool × List (List Nat × List Nat) := (true, [([], []), ([0], [0]), ([1], [1]), ([], []), ([3], [3]), ([4], [4]), ([], []), ([6], [6]), ([7, 2], [7]), ([], []), ([9], [9]), ([10, 8], [10]), ([], []), ([12], [12]), ([13], [13]), ([2, 5, 8, 11, 14], [2, 5, 8, 11, 14]), ([15, 11, 0, 1, 2, 3, 4, 5, 6, 7, 8, 9, 10, 11, 12, 13, 14, 15], [15])])
def tD7.B : List Nat := [0, 1, 3, 0, 8, 24, 0, 64, 199, 0, 512, 1991, 0, 4096, 12288, 32767, 65535]
theorem tD7.tab : rtab .any (opsOf Tryz.f12 7) = tD7.T := by kernel_rfl
theorem tD7.bits : waitsOk tD7.T.2 tD7.B = true := by kernel_rfl
theorem row5s {W : World} {base g cap : Nat} {xs : List Value} (h : W.ownsRow base 9 1 (.slice (some ⟨g, 0, none⟩) 5 cap) 5 xs) : ∃ cur, W.heap[g]? = some (.cells cur 9 (0, 0)) ∧ ∀ i, i < 5 → cur[i]? = xs[i]? := by
  obtain ⟨-, ⟨h1, h2⟩ | ⟨g', cap', cur, h1, h2, h3, h4, h5, h6, h7⟩⟩ := h
  · omega
  · injection h1 with e1 e2 e3
    injection e1 with e1
    injection e1 with e1
    subst e1
    refine ⟨cur, h3, fun i hi => ?_⟩
    rw [← h7, List.getElem?_take, if_pos (by omega), Array.getElem?_toList]
set_option maxHeartbeats 8000000 in
set_option maxRecDepth 100000 in
theorem refdec_five (s : ByteArray) (w : World) (hs : s.size ≤ 100) (w0 w1 w2' w3 w4 : ByteArray) (hw : wordsOf s = [w0, w1, w2', w3, w4]) :
    Calls Tryz.prog 12 #[.string s] w fun e w' => e = .returned (.tuple #[(decodeV s).1, .int .i64 (decodeV s).2.1, .int .i64 (decodeV s).2.2]) ∧ Below w.heap.size w w' := by
  have d0 : decide (100 < (s.size : Int)) = false := decide_eq_false (by omega)
  have hsz : ∀ x ∈ wordsOf s, x.size ≤ s.size := fun x hx => FrameP.word_size s x hx
  have s4 : w4.size ≤ 100 := Nat.le_trans (hsz w4 (by rw [hw]; simp)) hs
  obtain ⟨a1, a2⟩ := seq_ok w1
  obtain ⟨b1, b2⟩ := price_ok w4
  have HN0 := fun w0 => refseq_calls w1 w0
  have HP0 := fun w0 => refprice_calls w4 (by omega) w0
  obtain ⟨n, hn⟩ : ∃ n, seqR w1 = n := ⟨_, rfl⟩
  obtain ⟨p, hp⟩ : ∃ p, priceR w4 = p := ⟨_, rfl⟩
  rw [hn] at a1 a2 HN0
  rw [hp] at b1 b2 HP0
  obtain ⟨x0, hx0⟩ : ∃ x, nameB w0 = x := ⟨_, rfl⟩
  obtain ⟨x1, hx1⟩ : ∃ x, decide (0 < n) = x := ⟨_, rfl⟩
  obtain ⟨x2, hx2⟩ : ∃ x, nameB w2' = x := ⟨_, rfl⟩
  obtain ⟨x3, hx3⟩ : ∃ x, nameB w3 = x := ⟨_, rfl⟩
  obtain ⟨x4, hx4⟩ : ∃ x, decide (0 ≤ p) = x := ⟨_, rfl⟩
  have hr := Aside0.mk (show decodeV s = (match firstBad [!x0, !x1, !x2, !x3, !x4] with | some i => (zeroV, 112, (i : Int)) | none => (feedV w0 n w2' w3 p, 0, 0)) by
    have e : decodeV s = (match firstBad [!nameB w0, badSeq (countL (tl w1) 1000000000000), !nameB w2', !nameB w3, badPrice (priceL (tl w4))] with | some i => (zeroV, 112, (i : Int)) | none => (feedV w0 (countL (tl w1) 1000000000000) w2' w3 (priceL (tl w4)), 0, 0)) := by
      unfold decodeV; rw [if_neg (by omega), if_neg (by rw [hw]; simp), hw]; rfl
    rw [e]
    rw [a1, b1, hx0, hx1, hx2, hx3, hx4]
    cases x1 with
    | false =>
      have hno : firstBad [!x0, !false, !x2, !x3, !x4] ≠ none := fun h => by
        have := FeedPm.firstBad_none.1 h
        simp at this
      cases hf : firstBad [!x0, !false, !x2, !x3, !x4] with
      | none => exact absurd hf hno
      | some i => rfl
    | true =>
      cases x4 with
      | false =>
        have hno : firstBad [!x0, !true, !x2, !x3, !false] ≠ none := fun h => by
          have := FeedPm.firstBad_none.1 h
          simp at this
        cases hf : firstBad [!x0, !true, !x2, !x3, !false] with
        | none => exact absurd hf hno
        | some i => rfl
      | true => rw [a2 (of_decide_eq_true hx1), b2 (of_decide_eq_true hx4)])
  have HW := Aside0.mk hw
  have HN := Aside0.mk HN0
  have HP := Aside0.mk HP0
  have N0 := Aside0.mk (fun v => hx0 ▸ refname_calls w0 v)
  have N2 := Aside0.mk (fun v => hx2 ▸ refname_calls w2' v)
  have N3 := Aside0.mk (fun v => hx3 ▸ refname_calls w3 v)
  have X1 := Aside0.mk hx1
  have X4 := Aside0.mk hx4
  have HF := Aside0.mk (fun w0 => reffields_calls s hs w0)
  clear hs hw hsz s4 a1 a2 b1 b2 hn hp HN0 HP0 hx0 hx1 hx2 hx3 hx4
  obtain ⟨B, hB⟩ : ∃ B, B = w.heap.size := ⟨_, rfl⟩
  obtain ⟨W1, hW1⟩ : ∃ W, w.alloc (.cells #[.string ⟨#[]⟩, .int .i64 0, .string ⟨#[]⟩, .string ⟨#[]⟩, .int .i64 0] 23) = W := ⟨_, rfl⟩
  have K1 := Aside0.mk (show W1.heap[B]? = some (.cells #[.string ⟨#[]⟩, .int .i64 0, .string ⟨#[]⟩, .string ⟨#[]⟩, .int .i64 0] 23 (0, 0)) by rw [← hW1, hB]; exact blk_new w _)
  have B1 := Aside0.mk (show Below w.heap.size w W1 by rw [← hW1]; exact below_alloc (Below.refl _ _) _)
  have HB := Aside0.mk hB
  have HW1 := Aside0.mk hW1
  clear hB hW1
  go_enter Tryz.func12, Tryz.ntmps12
  go_wp2_with fail
  rw [HW1.out, ← HB.out]
  refine (HF.out _).mono ?_
  rintro e w2 ⟨v, rfl, hr2, b⟩
  obtain ⟨a, cap, rfl⟩ := hr2.val
  have hr3 := hr2
  unfold SRow at hr3
  rw [HW.out] at hr3 ⊢
  obtain ⟨g, rfl⟩ : ∃ g, a = some ⟨g, 0, none⟩ := by
    rcases hr3.2 with ⟨h1, h2⟩ | ⟨g, cap', cur, h1, _⟩
    · exact absurd h2 (by simp)
    · injection h1 with e1 e2 e3; exact ⟨g, e1⟩
  obtain ⟨cur, hg, hcur0⟩ := row5s hr3
  have hcur := Aside0.mk (show ∀ i, i < 5 → cur[i]? = ([w0, w1, w2', w3, w4].map Value.string)[i]? from hcur0)
  have Q3 := Aside0.mk hg
  have K3 := Aside0.mk (blk_below K1.out b)
  have B3 := Aside0.mk (below_step B1.out b)
  clear hr2 hr3 b hg hcur0
  go_wp2_with fail
  refine start_ (n := 20) (S := fun w' => True) (ds := []) #[false, false, false, false, false, false, false, false, false, false, false, false, false, false, false, false, false, false, false, false] (by kernel_rfl) rfl rfl trivial (fun hHeld => ?_); refine with_tabW tD6.tab tD6.bits (fun HT_ HW_ => ?_)
  refine inv_at [0, 1, 2, 3, 4, 5, 6, 7, 8, 9, 10, 11, 12, 13, 14, 15, 16, 17, 18, 19] (fun a0_ b a w' => ∃ (gb : Nat), a = putSel a0_ b [(0, 19, .slice (some ⟨g, 0, none⟩) 5 cap), (1, 20, .pointer (some ⟨g, 0, none⟩)), (2, 21, .string w0), (3, 22, .slice (some ⟨g, 0, none⟩) 5 cap), (4, 23, .pointer (some ⟨g, 1, none⟩)), (5, 24, .string w1), (6, 25, .int .i64 n), (7, 26, .slice (some ⟨g, 0, none⟩) 5 cap), (8, 27, .pointer (some ⟨g, 2, none⟩)), (9, 28, .string w2'), (10, 29, .slice (some ⟨g, 0, none⟩) 5 cap), (11, 30, .pointer (some ⟨g, 3, none⟩)), (12, 31, .string w3), (13, 32, .slice (some ⟨g, 0, none⟩) 5 cap), (14, 33, .pointer (some ⟨g, 4, none⟩)), (15, 34, .string w4), (16, 35, .int .i64 p), (17, 36, .agg #[.string w0, .int .i64 n, .string w2', .string w3, .int .i64 p]), (18, 6, .pointer (some ⟨gb, 0, none⟩))] ∧ (w'.heap[g]? = some (.cells cur 9 (0, 0))) ∧ (w'.heap[B]? = some (.cells #[.string ⟨#[]⟩, .int .i64 0, .string ⟨#[]⟩, .string ⟨#[]⟩, .int .i64 0] 23 (0, 0))) ∧ (Below w.heap.size w w') ∧ (b 18 = true → b 19 = false → w'.heap[gb]? = some (.cells #[.string ⟨#[]⟩, .int .i64 0, .string ⟨#[]⟩, .string ⟨#[]⟩, .int .i64 0] 23 (0, 0))) ∧ (b 18 = true → w.heap.size ≤ gb) ∧ (b 18 = true → B ≠ gb) ∧ (b 18 = true → g ≠ gb) ∧ (b 19 = true → w'.heap[gb]? = some (.cells #[.string w0, .int .i64 n, .string w2', .string w3, .int .i64 p] 23 (0, 0)))) HT_.out HW_.out (by kernel_rfl) (by kernel_rfl) ?_ ?_ ?_
  · exact ⟨0, by simp only [putSel, Bool.false_eq_true, if_false], Q3.out, K3.out, (by apply below_drew1; exact B3.out), fun h_ => absurd h_ (by decide), fun h_ => absurd h_ (by decide), fun h_ => absurd h_ (by decide), fun h_ => absurd h_ (by decide), fun h_ => absurd h_ (by decide)⟩
  · skip
    refine steps_cons ?_ ?_
    · rintro b a w' ⟨gb, ha, Q_RW, Q_BK, Q_BB, Q_NB, Q_NG, Q_NN, Q_NR, Q_NV⟩ hb_ hon hoff
      refine ⟨_, rfl, fun K hK => ?_⟩
      have e5 : a.tmps[5]? = some (.slice (some ⟨g, 0, none⟩) 5 cap) := by rw [ha]; exact (putSel_off rfl).trans rfl
      replace ha := Aside0.mk ha
      have R_RW := Q_RW
      have R_BK := Q_BK
      have R_BB := Q_BB
      replace R_RW := Aside0.mk R_RW
      replace R_BK := Aside0.mk R_BK
      replace R_BB := Aside0.mk R_BB
      refine value_ (w1 := w') (v := .slice (some ⟨g, 0, none⟩) 5 cap) (by rfl) rfl ?_ ?_
      · go_simp
        (try simp only [i64_w])
        try rfl
      refine hK.out _ _ ⟨gb, (by rw [ha.out]; exact putSel_upk 0 hb_ rfl rfl rfl), Q_RW, Q_BK, Q_BB, Q_NB, Q_NG, Q_NN, Q_NR, fun h0_ => absurd ((hoff 19 (by kernel_rfl)).symm.trans h0_) (by decide)⟩
    refine steps_cons ?_ ?_
    · rintro b a w' ⟨gb, ha, Q_RW, Q_BK, Q_BB, Q_NB, Q_NG, Q_NN, Q_NR, Q_NV⟩ hb_ hon hoff
      refine ⟨_, rfl, fun K hK => ?_⟩
      have e19 : a.tmps[19]? = some (.slice (some ⟨g, 0, none⟩) 5 cap) := by rw [ha]; exact putSel_on (e := (0, 19, .slice (some ⟨g, 0, none⟩) 5 cap)) 0 rfl rfl (hon 0 (by kernel_rfl)) rfl
      replace ha := Aside0.mk ha
      have R_RW := Q_RW
      have R_BK := Q_BK
      have R_BB := Q_BB
      replace R_RW := Aside0.mk R_RW
      replace R_BK := Aside0.mk R_BK
      replace R_BB := Aside0.mk R_BB
      refine value_ (w1 := w') (v := .pointer (some ⟨g, 0, none⟩)) (by rfl) rfl ?_ ?_
      · go_simp
        (try simp only [i64_w])
        try rfl
      refine hK.out _ _ ⟨gb, (by rw [ha.out]; exact putSel_upk 1 hb_ rfl rfl rfl), Q_RW, Q_BK, Q_BB, Q_NB, Q_NG, Q_NN, Q_NR, fun h0_ => absurd ((hoff 19 (by kernel_rfl)).symm.trans h0_) (by decide)⟩
    refine steps_cons ?_ ?_
    · rintro b a w' ⟨gb, ha, Q_RW, Q_BK, Q_BB, Q_NB, Q_NG, Q_NN, Q_NR, Q_NV⟩ hb_ hon hoff
      refine ⟨_, rfl, fun K hK => ?_⟩
      have e20 : a.tmps[20]? = some (.pointer (some ⟨g, 0, none⟩)) := by rw [ha]; exact putSel_on (e := (1, 20, .pointer (some ⟨g, 0, none⟩))) 1 rfl rfl (hon 1 (by kernel_rfl)) rfl
      replace ha := Aside0.mk ha
      have R_RW := Q_RW
      have R_BK := Q_BK
      have R_BB := Q_BB
      replace R_RW := Aside0.mk R_RW
      replace R_BK := Aside0.mk R_BK
      replace R_BB := Aside0.mk R_BB
      have c := (blk_cell R_RW.out 0).trans (hcur.out 0 (by decide))
      refine value_ (w1 := w') (v := .string w0) (by rfl) rfl ?_ ?_
      · go_simp
        (try simp only [i64_w])
        try rfl
      refine hK.out _ _ ⟨gb, (by rw [ha.out]; exact putSel_upk 2 hb_ rfl rfl rfl), Q_RW, Q_BK, Q_BB, Q_NB, Q_NG, Q_NN, Q_NR, fun h0_ => absurd ((hoff 19 (by kernel_rfl)).symm.trans h0_) (by decide)⟩
    refine steps_cons ?_ ?_
    · rintro b a w' ⟨gb, ha, Q_RW, Q_BK, Q_BB, Q_NB, Q_NG, Q_NN, Q_NR, Q_NV⟩ hb_ hon hoff
      refine ⟨_, rfl, fun K hK => ?_⟩
      have e5 : a.tmps[5]? = some (.slice (some ⟨g, 0, none⟩) 5 cap) := by rw [ha]; exact (putSel_off rfl).trans rfl
      replace ha := Aside0.mk ha
      have R_RW := Q_RW
      have R_BK := Q_BK
      have R_BB := Q_BB
      replace R_RW := Aside0.mk R_RW
      replace R_BK := Aside0.mk R_BK
      replace R_BB := Aside0.mk R_BB
      refine value_ (w1 := w') (v := .slice (some ⟨g, 0, none⟩) 5 cap) (by rfl) rfl ?_ ?_
      · go_simp
        (try simp only [i64_w])
        try rfl
      refine hK.out _ _ ⟨gb, (by rw [ha.out]; exact putSel_upk 3 hb_ rfl rfl rfl), Q_RW, Q_BK, Q_BB, Q_NB, Q_NG, Q_NN, Q_NR, fun h0_ => absurd ((hoff 19 (by kernel_rfl)).symm.trans h0_) (by decide)⟩
    refine steps_cons ?_ ?_
    · rintro b a w' ⟨gb, ha, Q_RW, Q_BK, Q_BB, Q_NB, Q_NG, Q_NN, Q_NR, Q_NV⟩ hb_ hon hoff
      refine ⟨_, rfl, fun K hK => ?_⟩
      have e22 : a.tmps[22]? = some (.slice (some ⟨g, 0, none⟩) 5 cap) := by rw [ha]; exact putSel_on (e := (3, 22, .slice (some ⟨g, 0, none⟩) 5 cap)) 3 rfl rfl (hon 3 (by kernel_rfl)) rfl
      replace ha := Aside0.mk ha
      have R_RW := Q_RW
      have R_BK := Q_BK
      have R_BB := Q_BB
      replace R_RW := Aside0.mk R_RW
      replace R_BK := Aside0.mk R_BK
      replace R_BB := Aside0.mk R_BB
      refine value_ (w1 := w') (v := .pointer (some ⟨g, 1, none⟩)) (by rfl) rfl ?_ ?_
      · go_simp
        (try simp only [i64_w])
        try rfl
      refine hK.out _ _ ⟨gb, (by rw [ha.out]; exact putSel_upk 4 hb_ rfl rfl rfl), Q_RW, Q_BK, Q_BB, Q_NB, Q_NG, Q_NN, Q_NR, fun h0_ => absurd ((hoff 19 (by kernel_rfl)).symm.trans h0_) (by decide)⟩
    refine steps_cons ?_ ?_
    · rintro b a w' ⟨gb, ha, Q_RW, Q_BK, Q_BB, Q_NB, Q_NG, Q_NN, Q_NR, Q_NV⟩ hb_ hon hoff
      refine ⟨_, rfl, fun K hK => ?_⟩
      have e23 : a.tmps[23]? = some (.pointer (some ⟨g, 1, none⟩)) := by rw [ha]; exact putSel_on (e := (4, 23, .pointer (some ⟨g, 1, none⟩))) 4 rfl rfl (hon 4 (by kernel_rfl)) rfl
      replace ha := Aside0.mk ha
      have R_RW := Q_RW
      have R_BK := Q_BK
      have R_BB := Q_BB
      replace R_RW := Aside0.mk R_RW
      replace R_BK := Aside0.mk R_BK
      replace R_BB := Aside0.mk R_BB
      have c := (blk_cell R_RW.out 1).trans (hcur.out 1 (by decide))
      refine value_ (w1 := w') (v := .string w1) (by rfl) rfl ?_ ?_
      · go_simp
        (try simp only [i64_w])
        try rfl
      refine hK.out _ _ ⟨gb, (by rw [ha.out]; exact putSel_upk 5 hb_ rfl rfl rfl), Q_RW, Q_BK, Q_BB, Q_NB, Q_NG, Q_NN, Q_NR, fun h0_ => absurd ((hoff 19 (by kernel_rfl)).symm.trans h0_) (by decide)⟩
    refine steps_cons ?_ ?_
    · rintro b a w' ⟨gb, ha, Q_RW, Q_BK, Q_BB, Q_NB, Q_NG, Q_NN, Q_NR, Q_NV⟩ hb_ hon hoff
      refine ⟨_, rfl, fun K hK => ?_⟩
      have e24 : a.tmps[24]? = some (.string w1) := by rw [ha]; exact putSel_on (e := (5, 24, .string w1)) 5 rfl rfl (hon 5 (by kernel_rfl)) rfl
      replace ha := Aside0.mk ha
      have R_RW := Q_RW
      have R_BK := Q_BK
      have R_BB := Q_BB
      replace R_RW := Aside0.mk R_RW
      replace R_BK := Aside0.mk R_BK
      replace R_BB := Aside0.mk R_BB
      refine goes_ Tryz.func25 (by kernel_rfl) rfl #[.string w1] (by rfl) rfl rfl (by first | (simp only [List.map_toArray, List.map_cons, List.map_nil, Act.eval, Array.getD_eq_getD_getElem?, Option.getD_some, e24]; done) | (simp only [List.map_toArray, List.map_cons, List.map_nil, Act.eval, Array.getD_eq_getD_getElem?, Option.getD_some, e24]; rfl)) ?_
      with_reducible refine (HN.out _).mono ?_
      rintro e v2 ⟨rfl, rfl⟩
      refine ⟨_, rfl, ?_⟩
      refine hK.out _ _ ⟨gb, (by rw [ha.out]; exact putSel_upk 6 hb_ rfl rfl rfl), Q_RW, Q_BK, Q_BB, Q_NB, Q_NG, Q_NN, Q_NR, fun h0_ => absurd ((hoff 19 (by kernel_rfl)).symm.trans h0_) (by decide)⟩
    refine steps_cons ?_ ?_
    · rintro b a w' ⟨gb, ha, Q_RW, Q_BK, Q_BB, Q_NB, Q_NG, Q_NN, Q_NR, Q_NV⟩ hb_ hon hoff
      refine ⟨_, rfl, fun K hK => ?_⟩
      have e5 : a.tmps[5]? = some (.slice (some ⟨g, 0, none⟩) 5 cap) := by rw [ha]; exact (putSel_off rfl).trans rfl
      replace ha := Aside0.mk ha
      have R_RW := Q_RW
      have R_BK := Q_BK
      have R_BB := Q_BB
      replace R_RW := Aside0.mk R_RW
      replace R_BK := Aside0.mk R_BK
      replace R_BB := Aside0.mk R_BB
      refine value_ (w1 := w') (v := .slice (some ⟨g, 0, none⟩) 5 cap) (by rfl) rfl ?_ ?_
      · go_simp
        (try simp only [i64_w])
        try rfl
      refine hK.out _ _ ⟨gb, (by rw [ha.out]; exact putSel_upk 7 hb_ rfl rfl rfl), Q_RW, Q_BK, Q_BB, Q_NB, Q_NG, Q_NN, Q_NR, fun h0_ => absurd ((hoff 19 (by kernel_rfl)).symm.trans h0_) (by decide)⟩
    refine steps_cons ?_ ?_
    · rintro b a w' ⟨gb, ha, Q_RW, Q_BK, Q_BB, Q_NB, Q_NG, Q_NN, Q_NR, Q_NV⟩ hb_ hon hoff
      refine ⟨_, rfl, fun K hK => ?_⟩
      have e26 : a.tmps[26]? = some (.slice (some ⟨g, 0, none⟩) 5 cap) := by rw [ha]; exact putSel_on (e := (7, 26, .slice (some ⟨g, 0, none⟩) 5 cap)) 7 rfl rfl (hon 7 (by kernel_rfl)) rfl
      replace ha := Aside0.mk ha
      have R_RW := Q_RW
      have R_BK := Q_BK
      have R_BB := Q_BB
      replace R_RW := Aside0.mk R_RW
      replace R_BK := Aside0.mk R_BK
      replace R_BB := Aside0.mk R_BB
      refine value_ (w1 := w') (v := .pointer (some ⟨g, 2, none⟩)) (by rfl) rfl ?_ ?_
      · go_simp
        (try simp only [i64_w])
        try rfl
      refine hK.out _ _ ⟨gb, (by rw [ha.out]; exact putSel_upk 8 hb_ rfl rfl rfl), Q_RW, Q_BK, Q_BB, Q_NB, Q_NG, Q_NN, Q_NR, fun h0_ => absurd ((hoff 19 (by kernel_rfl)).symm.trans h0_) (by decide)⟩
    refine steps_cons ?_ ?_
    · rintro b a w' ⟨gb, ha, Q_RW, Q_BK, Q_BB, Q_NB, Q_NG, Q_NN, Q_NR, Q_NV⟩ hb_ hon hoff
      refine ⟨_, rfl, fun K hK => ?_⟩
      have e27 : a.tmps[27]? = some (.pointer (some ⟨g, 2, none⟩)) := by rw [ha]; exact putSel_on (e := (8, 27, .pointer (some ⟨g, 2, none⟩))) 8 rfl rfl (hon 8 (by kernel_rfl)) rfl
      replace ha := Aside0.mk ha
      have R_RW := Q_RW
      have R_BK := Q_BK
      have R_BB := Q_BB
      replace R_RW := Aside0.mk R_RW
      replace R_BK := Aside0.mk R_BK
      replace R_BB := Aside0.mk R_BB
      have c := (blk_cell R_RW.out 2).trans (hcur.out 2 (by decide))
      refine value_ (w1 := w') (v := .string w2') (by rfl) rfl ?_ ?_
      · go_simp
        (try simp only [i64_w])
        try rfl
      refine hK.out _ _ ⟨gb, (by rw [ha.out]; exact putSel_upk 9 hb_ rfl rfl rfl), Q_RW, Q_BK, Q_BB, Q_NB, Q_NG, Q_NN, Q_NR, fun h0_ => absurd ((hoff 19 (by kernel_rfl)).symm.trans h0_) (by decide)⟩
    refine steps_cons ?_ ?_
    · rintro b a w' ⟨gb, ha, Q_RW, Q_BK, Q_BB, Q_NB, Q_NG, Q_NN, Q_NR, Q_NV⟩ hb_ hon hoff
      refine ⟨_, rfl, fun K hK => ?_⟩
      have e5 : a.tmps[5]? = some (.slice (some ⟨g, 0, none⟩) 5 cap) := by rw [ha]; exact (putSel_off rfl).trans rfl
      replace ha := Aside0.mk ha
      have R_RW := Q_RW
      have R_BK := Q_BK
      have R_BB := Q_BB
      replace R_RW := Aside0.mk R_RW
      replace R_BK := Aside0.mk R_BK
      replace R_BB := Aside0.mk R_BB
      refine value_ (w1 := w') (v := .slice (some ⟨g, 0, none⟩) 5 cap) (by rfl) rfl ?_ ?_
      · go_simp
        (try simp only [i64_w])
        try rfl
      refine hK.out _ _ ⟨gb, (by rw [ha.out]; exact putSel_upk 10 hb_ rfl rfl rfl), Q_RW, Q_BK, Q_BB, Q_NB, Q_NG, Q_NN, Q_NR, fun h0_ => absurd ((hoff 19 (by kernel_rfl)).symm.trans h0_) (by decide)⟩
    refine steps_cons ?_ ?_
    · rintro b a w' ⟨gb, ha, Q_RW, Q_BK, Q_BB, Q_NB, Q_NG, Q_NN, Q_NR, Q_NV⟩ hb_ hon hoff
      refine ⟨_, rfl, fun K hK => ?_⟩
      have e29 : a.tmps[29]? = some (.slice (some ⟨g, 0, none⟩) 5 cap) := by rw [ha]; exact putSel_on (e := (10, 29, .slice (some ⟨g, 0, none⟩) 5 cap)) 10 rfl rfl (hon 10 (by kernel_rfl)) rfl
      replace ha := Aside0.mk ha
      have R_RW := Q_RW
      have R_BK := Q_BK
      have R_BB := Q_BB
      replace R_RW := Aside0.mk R_RW
      replace R_BK := Aside0.mk R_BK
      replace R_BB := Aside0.mk R_BB
      refine value_ (w1 := w') (v := .pointer (some ⟨g, 3, none⟩)) (by rfl) rfl ?_ ?_
      · go_simp
        (try simp only [i64_w])
        try rfl
      refine hK.out _ _ ⟨gb, (by rw [ha.out]; exact putSel_upk 11 hb_ rfl rfl rfl), Q_RW, Q_BK, Q_BB, Q_NB, Q_NG, Q_NN, Q_NR, fun h0_ => absurd ((hoff 19 (by kernel_rfl)).symm.trans h0_) (by decide)⟩
    refine steps_cons ?_ ?_
    · rintro b a w' ⟨gb, ha, Q_RW, Q_BK, Q_BB, Q_NB, Q_NG, Q_NN, Q_NR, Q_NV⟩ hb_ hon hoff
      refine ⟨_, rfl, fun K hK => ?_⟩
      have e30 : a.tmps[30]? = some (.pointer (some ⟨g, 3, none⟩)) := by rw [ha]; exact putSel_on (e := (11, 30, .pointer (some ⟨g, 3, none⟩))) 11 rfl rfl (hon 11 (by kernel_rfl)) rfl
      replace ha := Aside0.mk ha
      have R_RW := Q_RW
      have R_BK := Q_BK
      have R_BB := Q_BB
      replace R_RW := Aside0.mk R_RW
      replace R_BK := Aside0.mk R_BK
      replace R_BB := Aside0.mk R_BB
      have c := (blk_cell R_RW.out 3).trans (hcur.out 3 (by decide))
      refine value_ (w1 := w') (v := .string w3) (by rfl) rfl ?_ ?_
      · go_simp
        (try simp only [i64_w])
        try rfl
      refine hK.out _ _ ⟨gb, (by rw [ha.out]; exact putSel_upk 12 hb_ rfl rfl rfl), Q_RW, Q_BK, Q_BB, Q_NB, Q_NG, Q_NN, Q_NR, fun h0_ => absurd ((hoff 19 (by kernel_rfl)).symm.trans h0_) (by decide)⟩
    refine steps_cons ?_ ?_
    · rintro b a w' ⟨gb, ha, Q_RW, Q_BK, Q_BB, Q_NB, Q_NG, Q_NN, Q_NR, Q_NV⟩ hb_ hon hoff
      refine ⟨_, rfl, fun K hK => ?_⟩
      have e5 : a.tmps[5]? = some (.slice (some ⟨g, 0, none⟩) 5 cap) := by rw [ha]; exact (putSel_off rfl).trans rfl
      replace ha := Aside0.mk ha
      have R_RW := Q_RW
      have R_BK := Q_BK
      have R_BB := Q_BB
      replace R_RW := Aside0.mk R_RW
      replace R_BK := Aside0.mk R_BK
      replace R_BB := Aside0.mk R_BB
      refine value_ (w1 := w') (v := .slice (some ⟨g, 0, none⟩) 5 cap) (by rfl) rfl ?_ ?_
      · go_simp
        (try simp only [i64_w])
        try rfl
      refine hK.out _ _ ⟨gb, (by rw [ha.out]; exact putSel_upk 13 hb_ rfl rfl rfl), Q_RW, Q_BK, Q_BB, Q_NB, Q_NG, Q_NN, Q_NR, fun h0_ => absurd ((hoff 19 (by kernel_rfl)).symm.trans h0_) (by decide)⟩
    refine steps_cons ?_ ?_
    · rintro b a w' ⟨gb, ha, Q_RW, Q_BK, Q_BB, Q_NB, Q_NG, Q_NN, Q_NR, Q_NV⟩ hb_ hon hoff
      refine ⟨_, rfl, fun K hK => ?_⟩
      have e32 : a.tmps[32]? = some (.slice (some ⟨g, 0, none⟩) 5 cap) := by rw [ha]; exact putSel_on (e := (13, 32, .slice (some ⟨g, 0, none⟩) 5 cap)) 13 rfl rfl (hon 13 (by kernel_rfl)) rfl
      replace ha := Aside0.mk ha
      have R_RW := Q_RW
      have R_BK := Q_BK
      have R_BB := Q_BB
      replace R_RW := Aside0.mk R_RW
      replace R_BK := Aside0.mk R_BK
      replace R_BB := Aside0.mk R_BB
      refine value_ (w1 := w') (v := .pointer (some ⟨g, 4, none⟩)) (by rfl) rfl ?_ ?_
      · go_simp
        (try simp only [i64_w])
        try rfl
      refine hK.out _ _ ⟨gb, (by rw [ha.out]; exact putSel_upk 14 hb_ rfl rfl rfl), Q_RW, Q_BK, Q_BB, Q_NB, Q_NG, Q_NN, Q_NR, fun h0_ => absurd ((hoff 19 (by kernel_rfl)).symm.trans h0_) (by decide)⟩
    refine steps_cons ?_ ?_
    · rintro b a w' ⟨gb, ha, Q_RW, Q_BK, Q_BB, Q_NB, Q_NG, Q_NN, Q_NR, Q_NV⟩ hb_ hon hoff
      refine ⟨_, rfl, fun K hK => ?_⟩
      have e33 : a.tmps[33]? = some (.pointer (some ⟨g, 4, none⟩)) := by rw [ha]; exact putSel_on (e := (14, 33, .pointer (some ⟨g, 4, none⟩))) 14 rfl rfl (hon 14 (by kernel_rfl)) rfl
      replace ha := Aside0.mk ha
      have R_RW := Q_RW
      have R_BK := Q_BK
      have R_BB := Q_BB
      replace R_RW := Aside0.mk R_RW
      replace R_BK := Aside0.mk R_BK
      replace R_BB := Aside0.mk R_BB
      have c := (blk_cell R_RW.out 4).trans (hcur.out 4 (by decide))
      refine value_ (w1 := w') (v := .string w4) (by rfl) rfl ?_ ?_
      · go_simp
        (try simp only [i64_w])
        try rfl
      refine hK.out _ _ ⟨gb, (by rw [ha.out]; exact putSel_upk 15 hb_ rfl rfl rfl), Q_RW, Q_BK, Q_BB, Q_NB, Q_NG, Q_NN, Q_NR, fun h0_ => absurd ((hoff 19 (by kernel_rfl)).symm.trans h0_) (by decide)⟩
    refine steps_cons ?_ ?_
    · rintro b a w' ⟨gb, ha, Q_RW, Q_BK, Q_BB, Q_NB, Q_NG, Q_NN, Q_NR, Q_NV⟩ hb_ hon hoff
      refine ⟨_, rfl, fun K hK => ?_⟩
      have e34 : a.tmps[34]? = some (.string w4) := by rw [ha]; exact putSel_on (e := (15, 34, .string w4)) 15 rfl rfl (hon 15 (by kernel_rfl)) rfl
      replace ha := Aside0.mk ha
      have R_RW := Q_RW
      have R_BK := Q_BK
      have R_BB := Q_BB
      replace R_RW := Aside0.mk R_RW
      replace R_BK := Aside0.mk R_BK
      replace R_BB := Aside0.mk R_BB
      refine goes_ Tryz.func26 (by kernel_rfl) rfl #[.string w4] (by rfl) rfl rfl (by first | (simp only [List.map_toArray, List.map_cons, List.map_nil, Act.eval, Array.getD_eq_getD_getElem?, Option.getD_some, e34]; done) | (simp only [List.map_toArray, List.map_cons, List.map_nil, Act.eval, Array.getD_eq_getD_getElem?, Option.getD_some, e34]; rfl)) ?_
      with_reducible refine (HP.out _).mono ?_
      rintro e v2 ⟨rfl, hb⟩
      refine ⟨_, rfl, ?_⟩
      refine hK.out _ _ ⟨gb, (by rw [ha.out]; exact putSel_upk 16 hb_ rfl rfl rfl), blk_below Q_RW hb, blk_below Q_BK hb, below_step Q_BB hb, fun h0_ h1_ => blk_below (Q_NB h0_ h1_) hb, Q_NG, Q_NN, Q_NR, fun h0_ => absurd ((hoff 19 (by kernel_rfl)).symm.trans h0_) (by decide)⟩
    refine steps_cons ?_ ?_
    · rintro b a w' ⟨gb, ha, Q_RW, Q_BK, Q_BB, Q_NB, Q_NG, Q_NN, Q_NR, Q_NV⟩ hb_ hon hoff
      refine ⟨_, rfl, fun K hK => ?_⟩
      have e21 : a.tmps[21]? = some (.string w0) := by rw [ha]; exact putSel_on (e := (2, 21, .string w0)) 2 rfl rfl (hon 2 (by kernel_rfl)) rfl
      have e25 : a.tmps[25]? = some (.int .i64 n) := by rw [ha]; exact putSel_on (e := (6, 25, .int .i64 n)) 6 rfl rfl (hon 6 (by kernel_rfl)) rfl
      have e28 : a.tmps[28]? = some (.string w2') := by rw [ha]; exact putSel_on (e := (9, 28, .string w2')) 9 rfl rfl (hon 9 (by kernel_rfl)) rfl
      have e31 : a.tmps[31]? = some (.string w3) := by rw [ha]; exact putSel_on (e := (12, 31, .string w3)) 12 rfl rfl (hon 12 (by kernel_rfl)) rfl
      have e35 : a.tmps[35]? = some (.int .i64 p) := by rw [ha]; exact putSel_on (e := (16, 35, .int .i64 p)) 16 rfl rfl (hon 16 (by kernel_rfl)) rfl
      replace ha := Aside0.mk ha
      have R_RW := Q_RW
      have R_BK := Q_BK
      have R_BB := Q_BB
      replace R_RW := Aside0.mk R_RW
      replace R_BK := Aside0.mk R_BK
      replace R_BB := Aside0.mk R_BB
      refine value_ (w1 := w') (v := .agg #[.string w0, .int .i64 n, .string w2', .string w3, .int .i64 p]) (by rfl) rfl ?_ ?_
      · go_simp
        (try simp only [i64_w])
        try rfl
      refine hK.out _ _ ⟨gb, (by rw [ha.out]; exact putSel_upk 17 hb_ rfl rfl rfl), Q_RW, Q_BK, Q_BB, Q_NB, Q_NG, Q_NN, Q_NR, fun h0_ => absurd ((hoff 19 (by kernel_rfl)).symm.trans h0_) (by decide)⟩
    refine steps_cons ?_ ?_
    · rintro b a w' ⟨gb, ha, Q_RW, Q_BK, Q_BB, Q_NB, Q_NG, Q_NN, Q_NR, Q_NV⟩ hb_ hon hoff
      refine ⟨_, rfl, fun K hK => ?_⟩
      replace ha := Aside0.mk ha
      have R_RW := Q_RW
      have R_BK := Q_BK
      have R_BB := Q_BB
      replace R_RW := Aside0.mk R_RW
      replace R_BK := Aside0.mk R_BK
      replace R_BB := Aside0.mk R_BB
      refine box_step ?hg (N := 6) ?hd (cs := #[.string ⟨#[]⟩, .int .i64 0, .string ⟨#[]⟩, .string ⟨#[]⟩, .int .i64 0]) (t := 23) ?hr ?_; (case hd => rfl); (case hg => rfl); (case hr => first | (go_simp; done) | (go_simp; rfl))
      intro ng hg v2 hbox hb
      refine hK.out _ _ ⟨ng, (by rw [ha.out]; exact putSel_upk 18 hb_ rfl rfl rfl), blk_below Q_RW hb, blk_below Q_BK hb, below_step Q_BB hb, fun _ _ => hbox, fun _ => by rw [hg]; exact R_BB.out.size, fun _ => by rw [hg]; exact Nat.ne_of_lt (blk_lt R_BK.out), fun _ => by rw [hg]; exact Nat.ne_of_lt (blk_lt R_RW.out), fun h0_ => absurd ((hoff 19 (by kernel_rfl)).symm.trans h0_) (by decide)⟩
    refine steps_cons ?_ ?_
    · rintro b a w' ⟨gb, ha, Q_RW, Q_BK, Q_BB, Q_NB, Q_NG, Q_NN, Q_NR, Q_NV⟩ hb_ hon hoff
      refine ⟨_, rfl, fun K hK => ?_⟩
      have e6 : a.tmps[6]? = some (.pointer (some ⟨gb, 0, none⟩)) := by rw [ha]; exact putSel_on (e := (18, 6, .pointer (some ⟨gb, 0, none⟩))) 18 rfl rfl (hon 18 (by kernel_rfl)) rfl
      have e36 : a.tmps[36]? = some (.agg #[.string w0, .int .i64 n, .string w2', .string w3, .int .i64 p]) := by rw [ha]; exact putSel_on (e := (17, 36, .agg #[.string w0, .int .i64 n, .string w2', .string w3, .int .i64 p])) 17 rfl rfl (hon 17 (by kernel_rfl)) rfl
      replace ha := Aside0.mk ha
      have R_RW := Q_RW
      have R_BK := Q_BK
      have R_BB := Q_BB
      have R_NB := Q_NB (hon 18 (by kernel_rfl)) hb_
      have R_NG := Q_NG (hon 18 (by kernel_rfl))
      have R_NN := Q_NN (hon 18 (by kernel_rfl))
      have R_NR := Q_NR (hon 18 (by kernel_rfl))
      replace R_RW := Aside0.mk R_RW
      replace R_BK := Aside0.mk R_BK
      replace R_BB := Aside0.mk R_BB
      replace R_NB := Aside0.mk R_NB
      replace R_NG := Aside0.mk R_NG
      replace R_NN := Aside0.mk R_NN
      replace R_NR := Aside0.mk R_NR
      have q0 : w'.cell? ⟨gb, 0, none⟩ = some (.string ⟨#[]⟩) := (blk_cell R_NB.out 0).trans rfl
      have q1 : w'.cell? ⟨gb, 1, none⟩ = some (.int .i64 0) := (blk_cell R_NB.out 1).trans rfl
      have q2 : w'.cell? ⟨gb, 2, none⟩ = some (.string ⟨#[]⟩) := (blk_cell R_NB.out 2).trans rfl
      have q3 : w'.cell? ⟨gb, 3, none⟩ = some (.string ⟨#[]⟩) := (blk_cell R_NB.out 3).trans rfl
      have q4 : w'.cell? ⟨gb, 4, none⟩ = some (.int .i64 0) := (blk_cell R_NB.out 4).trans rfl
      have z0 := blk_frozen R_NB.out 0
      have z1 := blk_frozen R_NB.out 1
      have z2 := blk_frozen R_NB.out 2
      have z3 := blk_frozen R_NB.out 3
      have z4 := blk_frozen R_NB.out 4
      refine skip_ (w1 := ?_) (by rfl) rfl ?_ ?_
      rotate_left
      · go_simp
        rfl
      refine hK.out _ _ ⟨gb, (by rw [ha.out]; exact (putSel_same rfl).symm), by rw [Below.heap_setCell _ _ _ _ R_NR.out, Below.heap_setCell _ _ _ _ R_NR.out, Below.heap_setCell _ _ _ _ R_NR.out, Below.heap_setCell _ _ _ _ R_NR.out, Below.heap_setCell _ _ _ _ R_NR.out]; exact R_RW.out, by rw [Below.heap_setCell _ _ _ _ R_NN.out, Below.heap_setCell _ _ _ _ R_NN.out, Below.heap_setCell _ _ _ _ R_NN.out, Below.heap_setCell _ _ _ _ R_NN.out, Below.heap_setCell _ _ _ _ R_NN.out]; exact R_BK.out, (five w w' gb _ _ _ _ _ (.string w0) (.int .i64 n) (.string w2') (.string w3) (.int .i64 p) 23 R_NB.out R_BB.out R_NG.out).2, fun h0_ h1_ => absurd ((up_self b 19).symm.trans h1_) (by decide), Q_NG, Q_NN, Q_NR, fun _ => (five w w' gb _ _ _ _ _ (.string w0) (.int .i64 n) (.string w2') (.string w3) (.int .i64 p) 23 R_NB.out R_BB.out R_NG.out).1⟩
    exact steps_nil
  rintro b a w9 hall ⟨gb, ha, Q_RW, Q_BK, Q_BB, Q_NB, Q_NG, Q_NN, Q_NR, Q_NV⟩
  have hb0_ := hall 0 (by kernel_rfl)
  have hb1_ := hall 1 (by kernel_rfl)
  have hb2_ := hall 2 (by kernel_rfl)
  have hb3_ := hall 3 (by kernel_rfl)
  have hb4_ := hall 4 (by kernel_rfl)
  have hb5_ := hall 5 (by kernel_rfl)
  have hb6_ := hall 6 (by kernel_rfl)
  have hb7_ := hall 7 (by kernel_rfl)
  have hb8_ := hall 8 (by kernel_rfl)
  have hb9_ := hall 9 (by kernel_rfl)
  have hb10_ := hall 10 (by kernel_rfl)
  have hb11_ := hall 11 (by kernel_rfl)
  have hb12_ := hall 12 (by kernel_rfl)
  have hb13_ := hall 13 (by kernel_rfl)
  have hb14_ := hall 14 (by kernel_rfl)
  have hb15_ := hall 15 (by kernel_rfl)
  have hb16_ := hall 16 (by kernel_rfl)
  have hb17_ := hall 17 (by kernel_rfl)
  have hb18_ := hall 18 (by kernel_rfl)
  have hb19_ := hall 19 (by kernel_rfl)
  subst ha
  have RW := Aside0.mk (Q_RW)
  clear Q_RW
  have BK := Aside0.mk (Q_BK)
  clear Q_BK
  have BB := Aside0.mk (Q_BB)
  clear Q_BB
  clear Q_NB
  have NG := Aside0.mk (Q_NG hb18_)
  clear Q_NG
  have NN := Aside0.mk (Q_NN hb18_)
  clear Q_NN
  have NR := Aside0.mk (Q_NR hb18_)
  clear Q_NR
  have NV := Aside0.mk (Q_NV hb19_)
  clear Q_NV
  simp only [putSel, hb0_, hb1_, hb2_, hb3_, hb4_, hb5_, hb6_, hb7_, hb8_, hb9_, hb10_, hb11_, hb12_, hb13_, hb14_, hb15_, hb16_, hb17_, hb18_, hb19_, if_true, Act.put, List.setIfInBounds_toArray, List.set_cons_zero, List.set_cons_succ]
  clear hall hb0_ hb1_ hb2_ hb3_ hb4_ hb5_ hb6_ hb7_ hb8_ hb9_ hb10_ hb11_ hb12_ hb13_ hb14_ hb15_ hb16_ hb17_ hb18_ hb19_
  have NV9 := NV
  have BK9 := BK
  have BB9 := BB
  clear NV BK BB NG NN NR RW
  go_wp2_with fail
  refine start_ (n := 17) (S := fun w' => True) (ds := []) #[false, false, false, false, false, false, false, false, false, false, false, false, false, false, false, false, false] (by kernel_rfl) rfl rfl trivial (fun hHeld => ?_); refine with_tabW tD7.tab tD7.bits (fun HT_ HW_ => ?_)
  refine inv_at [0, 1, 2, 3, 4, 5, 6, 7, 8, 9, 10, 11, 12, 13, 14, 15, 16] (fun a0_ b a w' => ∃ (gq : Nat) (m16 : Value), a = putSel a0_ b [(0, 37, .pointer (some ⟨gb, 0, none⟩)), (1, 38, .string w0), (2, 39, .bool x0), (3, 40, .pointer (some ⟨gb, 1, none⟩)), (4, 41, .int .i64 n), (5, 42, .bool x1), (6, 43, .pointer (some ⟨gb, 2, none⟩)), (7, 44, .string w2'), (8, 45, .bool x2), (9, 46, .pointer (some ⟨gb, 3, none⟩)), (10, 47, .string w3), (11, 48, .bool x3), (12, 49, .pointer (some ⟨gb, 4, none⟩)), (13, 50, .int .i64 p), (14, 51, .bool x4), (15, 52, .slice (some ⟨gq, 0, none⟩) 5 5), (16, 7, m16)] ∧ (w'.heap[gb]? = some (.cells #[.string w0, .int .i64 n, .string w2', .string w3, .int .i64 p] 23 (0, 0))) ∧ (w'.heap[B]? = some (.cells #[.string ⟨#[]⟩, .int .i64 0, .string ⟨#[]⟩, .string ⟨#[]⟩, .int .i64 0] 23 (0, 0))) ∧ (Below w.heap.size w w') ∧ (b 15 = true → w'.heap[gq]? = some (.cells #[.bool x0, .bool x1, .bool x2, .bool x3, .bool x4] 4 (0, 0))) ∧ (b 16 = true → m16 = .slice (some ⟨gq, 0, none⟩) 5 5)) HT_.out HW_.out (by kernel_rfl) (by kernel_rfl) ?_ ?_ ?_
  · exact ⟨0, .bool false, by simp only [putSel, Bool.false_eq_true, if_false], NV9.out, BK9.out, (by apply below_drew1; exact BB9.out), fun h_ => absurd h_ (by decide), fun h_ => absurd h_ (by decide)⟩
  · skip
    refine steps_cons ?_ ?_
    · rintro b a w' ⟨gq, m16, ha, Q_NV, Q_BK, Q_BB, Q_QB, Q_P16⟩ hb_ hon hoff
      refine ⟨_, rfl, fun K hK => ?_⟩
      have e6 : a.tmps[6]? = some (.pointer (some ⟨gb, 0, none⟩)) := by rw [ha]; exact (putSel_off rfl).trans rfl
      replace ha := Aside0.mk ha
      have R_NV := Q_NV
      have R_BK := Q_BK
      have R_BB := Q_BB
      replace R_NV := Aside0.mk R_NV
      replace R_BK := Aside0.mk R_BK
      replace R_BB := Aside0.mk R_BB
      refine value_ (w1 := w') (v := .pointer (some ⟨gb, 0, none⟩)) (by rfl) rfl ?_ ?_
      · go_simp
        (try simp only [i64_w])
        try rfl
      refine hK.out _ _ ⟨gq, m16, (by rw [ha.out]; exact putSel_upk 0 hb_ rfl rfl rfl), Q_NV, Q_BK, Q_BB, fun h0_ => absurd ((hoff 15 (by kernel_rfl)).symm.trans h0_) (by decide), fun h0_ => absurd ((hoff 16 (by kernel_rfl)).symm.trans h0_) (by decide)⟩
    refine steps_cons ?_ ?_
    · rintro b a w' ⟨gq, m16, ha, Q_NV, Q_BK, Q_BB, Q_QB, Q_P16⟩ hb_ hon hoff
      refine ⟨_, rfl, fun K hK => ?_⟩
      have e37 : a.tmps[37]? = some (.pointer (some ⟨gb, 0, none⟩)) := by rw [ha]; exact putSel_on (e := (0, 37, .pointer (some ⟨gb, 0, none⟩))) 0 rfl rfl (hon 0 (by kernel_rfl)) rfl
      replace ha := Aside0.mk ha
      have R_NV := Q_NV
      have R_BK := Q_BK
      have R_BB := Q_BB
      replace R_NV := Aside0.mk R_NV
      replace R_BK := Aside0.mk R_BK
      replace R_BB := Aside0.mk R_BB
      have c := (blk_cell R_NV.out 0).trans (show _ = some (.string w0) from rfl)
      refine value_ (w1 := w') (v := .string w0) (by rfl) rfl ?_ ?_
      · go_simp
        (try simp only [i64_w])
        try rfl
      refine hK.out _ _ ⟨gq, m16, (by rw [ha.out]; exact putSel_upk 1 hb_ rfl rfl rfl), Q_NV, Q_BK, Q_BB, fun h0_ => absurd ((hoff 15 (by kernel_rfl)).symm.trans h0_) (by decide), fun h0_ => absurd ((hoff 16 (by kernel_rfl)).symm.trans h0_) (by decide)⟩
    refine steps_cons ?_ ?_
    · rintro b a w' ⟨gq, m16, ha, Q_NV, Q_BK, Q_BB, Q_QB, Q_P16⟩ hb_ hon hoff
      refine ⟨_, rfl, fun K hK => ?_⟩
      have e38 : a.tmps[38]? = some (.string w0) := by rw [ha]; exact putSel_on (e := (1, 38, .string w0)) 1 rfl rfl (hon 1 (by kernel_rfl)) rfl
      replace ha := Aside0.mk ha
      have R_NV := Q_NV
      have R_BK := Q_BK
      have R_BB := Q_BB
      replace R_NV := Aside0.mk R_NV
      replace R_BK := Aside0.mk R_BK
      replace R_BB := Aside0.mk R_BB
      refine goes_ Tryz.func20 (by kernel_rfl) rfl #[.string w0] (by rfl) rfl rfl (by first | (simp only [List.map_toArray, List.map_cons, List.map_nil, Act.eval, Array.getD_eq_getD_getElem?, Option.getD_some, e38]; done) | (simp only [List.map_toArray, List.map_cons, List.map_nil, Act.eval, Array.getD_eq_getD_getElem?, Option.getD_some, e38]; rfl)) ?_
      with_reducible refine (N0.out _).mono ?_
      rintro e v2 ⟨rfl, hb⟩
      refine ⟨_, rfl, ?_⟩
      refine hK.out _ _ ⟨gq, m16, (by rw [ha.out]; exact putSel_upk 2 hb_ rfl rfl rfl), blk_below Q_NV hb, blk_below Q_BK hb, below_step Q_BB hb, fun h0_ => absurd ((hoff 15 (by kernel_rfl)).symm.trans h0_) (by decide), fun h0_ => absurd ((hoff 16 (by kernel_rfl)).symm.trans h0_) (by decide)⟩
    refine steps_cons ?_ ?_
    · rintro b a w' ⟨gq, m16, ha, Q_NV, Q_BK, Q_BB, Q_QB, Q_P16⟩ hb_ hon hoff
      refine ⟨_, rfl, fun K hK => ?_⟩
      have e6 : a.tmps[6]? = some (.pointer (some ⟨gb, 0, none⟩)) := by rw [ha]; exact (putSel_off rfl).trans rfl
      replace ha := Aside0.mk ha
      have R_NV := Q_NV
      have R_BK := Q_BK
      have R_BB := Q_BB
      replace R_NV := Aside0.mk R_NV
      replace R_BK := Aside0.mk R_BK
      replace R_BB := Aside0.mk R_BB
      refine value_ (w1 := w') (v := .pointer (some ⟨gb, 1, none⟩)) (by rfl) rfl ?_ ?_
      · go_simp
        (try simp only [i64_w])
        try rfl
      refine hK.out _ _ ⟨gq, m16, (by rw [ha.out]; exact putSel_upk 3 hb_ rfl rfl rfl), Q_NV, Q_BK, Q_BB, fun h0_ => absurd ((hoff 15 (by kernel_rfl)).symm.trans h0_) (by decide), fun h0_ => absurd ((hoff 16 (by kernel_rfl)).symm.trans h0_) (by decide)⟩
    refine steps_cons ?_ ?_
    · rintro b a w' ⟨gq, m16, ha, Q_NV, Q_BK, Q_BB, Q_QB, Q_P16⟩ hb_ hon hoff
      refine ⟨_, rfl, fun K hK => ?_⟩
      have e40 : a.tmps[40]? = some (.pointer (some ⟨gb, 1, none⟩)) := by rw [ha]; exact putSel_on (e := (3, 40, .pointer (some ⟨gb, 1, none⟩))) 3 rfl rfl (hon 3 (by kernel_rfl)) rfl
      replace ha := Aside0.mk ha
      have R_NV := Q_NV
      have R_BK := Q_BK
      have R_BB := Q_BB
      replace R_NV := Aside0.mk R_NV
      replace R_BK := Aside0.mk R_BK
      replace R_BB := Aside0.mk R_BB
      have c := (blk_cell R_NV.out 1).trans (show _ = some (.int .i64 n) from rfl)
      refine value_ (w1 := w') (v := .int .i64 n) (by rfl) rfl ?_ ?_
      · go_simp
        (try simp only [i64_w])
        try rfl
      refine hK.out _ _ ⟨gq, m16, (by rw [ha.out]; exact putSel_upk 4 hb_ rfl rfl rfl), Q_NV, Q_BK, Q_BB, fun h0_ => absurd ((hoff 15 (by kernel_rfl)).symm.trans h0_) (by decide), fun h0_ => absurd ((hoff 16 (by kernel_rfl)).symm.trans h0_) (by decide)⟩
    refine steps_cons ?_ ?_
    · rintro b a w' ⟨gq, m16, ha, Q_NV, Q_BK, Q_BB, Q_QB, Q_P16⟩ hb_ hon hoff
      refine ⟨_, rfl, fun K hK => ?_⟩
      have e41 : a.tmps[41]? = some (.int .i64 n) := by rw [ha]; exact putSel_on (e := (4, 41, .int .i64 n)) 4 rfl rfl (hon 4 (by kernel_rfl)) rfl
      replace ha := Aside0.mk ha
      have R_NV := Q_NV
      have R_BK := Q_BK
      have R_BB := Q_BB
      replace R_NV := Aside0.mk R_NV
      replace R_BK := Aside0.mk R_BK
      replace R_BB := Aside0.mk R_BB
      refine value_ (w1 := w') (v := .bool x1) (by rfl) rfl ?_ ?_
      · go_simp
        (try simp only [i64_w])
        try rfl
        rw [X1.out]
      refine hK.out _ _ ⟨gq, m16, (by rw [ha.out]; exact putSel_upk 5 hb_ rfl rfl rfl), Q_NV, Q_BK, Q_BB, fun h0_ => absurd ((hoff 15 (by kernel_rfl)).symm.trans h0_) (by decide), fun h0_ => absurd ((hoff 16 (by kernel_rfl)).symm.trans h0_) (by decide)⟩
    refine steps_cons ?_ ?_
    · rintro b a w' ⟨gq, m16, ha, Q_NV, Q_BK, Q_BB, Q_QB, Q_P16⟩ hb_ hon hoff
      refine ⟨_, rfl, fun K hK => ?_⟩
      have e6 : a.tmps[6]? = some (.pointer (some ⟨gb, 0, none⟩)) := by rw [ha]; exact (putSel_off rfl).trans rfl
      replace ha := Aside0.mk ha
      have R_NV := Q_NV
      have R_BK := Q_BK
      have R_BB := Q_BB
      replace R_NV := Aside0.mk R_NV
      replace R_BK := Aside0.mk R_BK
      replace R_BB := Aside0.mk R_BB
      refine value_ (w1 := w') (v := .pointer (some ⟨gb, 2, none⟩)) (by rfl) rfl ?_ ?_
      · go_simp
        (try simp only [i64_w])
        try rfl
      refine hK.out _ _ ⟨gq, m16, (by rw [ha.out]; exact putSel_upk 6 hb_ rfl rfl rfl), Q_NV, Q_BK, Q_BB, fun h0_ => absurd ((hoff 15 (by kernel_rfl)).symm.trans h0_) (by decide), fun h0_ => absurd ((hoff 16 (by kernel_rfl)).symm.trans h0_) (by decide)⟩
    refine steps_cons ?_ ?_
    · rintro b a w' ⟨gq, m16, ha, Q_NV, Q_BK, Q_BB, Q_QB, Q_P16⟩ hb_ hon hoff
      refine ⟨_, rfl, fun K hK => ?_⟩
      have e43 : a.tmps[43]? = some (.pointer (some ⟨gb, 2, none⟩)) := by rw [ha]; exact putSel_on (e := (6, 43, .pointer (some ⟨gb, 2, none⟩))) 6 rfl rfl (hon 6 (by kernel_rfl)) rfl
      replace ha := Aside0.mk ha
      have R_NV := Q_NV
      have R_BK := Q_BK
      have R_BB := Q_BB
      replace R_NV := Aside0.mk R_NV
      replace R_BK := Aside0.mk R_BK
      replace R_BB := Aside0.mk R_BB
      have c := (blk_cell R_NV.out 2).trans (show _ = some (.string w2') from rfl)
      refine value_ (w1 := w') (v := .string w2') (by rfl) rfl ?_ ?_
      · go_simp
        (try simp only [i64_w])
        try rfl
      refine hK.out _ _ ⟨gq, m16, (by rw [ha.out]; exact putSel_upk 7 hb_ rfl rfl rfl), Q_NV, Q_BK, Q_BB, fun h0_ => absurd ((hoff 15 (by kernel_rfl)).symm.trans h0_) (by decide), fun h0_ => absurd ((hoff 16 (by kernel_rfl)).symm.trans h0_) (by decide)⟩
    refine steps_cons ?_ ?_
    · rintro b a w' ⟨gq, m16, ha, Q_NV, Q_BK, Q_BB, Q_QB, Q_P16⟩ hb_ hon hoff
      refine ⟨_, rfl, fun K hK => ?_⟩
      have e44 : a.tmps[44]? = some (.string w2') := by rw [ha]; exact putSel_on (e := (7, 44, .string w2')) 7 rfl rfl (hon 7 (by kernel_rfl)) rfl
      replace ha := Aside0.mk ha
      have R_NV := Q_NV
      have R_BK := Q_BK
      have R_BB := Q_BB
      replace R_NV := Aside0.mk R_NV
      replace R_BK := Aside0.mk R_BK
      replace R_BB := Aside0.mk R_BB
      refine goes_ Tryz.func20 (by kernel_rfl) rfl #[.string w2'] (by rfl) rfl rfl (by first | (simp only [List.map_toArray, List.map_cons, List.map_nil, Act.eval, Array.getD_eq_getD_getElem?, Option.getD_some, e44]; done) | (simp only [List.map_toArray, List.map_cons, List.map_nil, Act.eval, Array.getD_eq_getD_getElem?, Option.getD_some, e44]; rfl)) ?_
      with_reducible refine (N2.out _).mono ?_
      rintro e v2 ⟨rfl, hb⟩
      refine ⟨_, rfl, ?_⟩
      refine hK.out _ _ ⟨gq, m16, (by rw [ha.out]; exact putSel_upk 8 hb_ rfl rfl rfl), blk_below Q_NV hb, blk_below Q_BK hb, below_step Q_BB hb, fun h0_ => absurd ((hoff 15 (by kernel_rfl)).symm.trans h0_) (by decide), fun h0_ => absurd ((hoff 16 (by kernel_rfl)).symm.trans h0_) (by decide)⟩
    refine steps_cons ?_ ?_
    · rintro b a w' ⟨gq, m16, ha, Q_NV, Q_BK, Q_BB, Q_QB, Q_P16⟩ hb_ hon hoff
      refine ⟨_, rfl, fun K hK => ?_⟩
      have e6 : a.tmps[6]? = some (.pointer (some ⟨gb, 0, none⟩)) := by rw [ha]; exact (putSel_off rfl).trans rfl
      replace ha := Aside0.mk ha
      have R_NV := Q_NV
      have R_BK := Q_BK
      have R_BB := Q_BB
      replace R_NV := Aside0.mk R_NV
      replace R_BK := Aside0.mk R_BK
      replace R_BB := Aside0.mk R_BB
      refine value_ (w1 := w') (v := .pointer (some ⟨gb, 3, none⟩)) (by rfl) rfl ?_ ?_
      · go_simp
        (try simp only [i64_w])
        try rfl
      refine hK.out _ _ ⟨gq, m16, (by rw [ha.out]; exact putSel_upk 9 hb_ rfl rfl rfl), Q_NV, Q_BK, Q_BB, fun h0_ => absurd ((hoff 15 (by kernel_rfl)).symm.trans h0_) (by decide), fun h0_ => absurd ((hoff 16 (by kernel_rfl)).symm.trans h0_) (by decide)⟩
    refine steps_cons ?_ ?_
    · rintro b a w' ⟨gq, m16, ha, Q_NV, Q_BK, Q_BB, Q_QB, Q_P16⟩ hb_ hon hoff
      refine ⟨_, rfl, fun K hK => ?_⟩
      have e46 : a.tmps[46]? = some (.pointer (some ⟨gb, 3, none⟩)) := by rw [ha]; exact putSel_on (e := (9, 46, .pointer (some ⟨gb, 3, none⟩))) 9 rfl rfl (hon 9 (by kernel_rfl)) rfl
      replace ha := Aside0.mk ha
      have R_NV := Q_NV
      have R_BK := Q_BK
      have R_BB := Q_BB
      replace R_NV := Aside0.mk R_NV
      replace R_BK := Aside0.mk R_BK
      replace R_BB := Aside0.mk R_BB
      have c := (blk_cell R_NV.out 3).trans (show _ = some (.string w3) from rfl)
      refine value_ (w1 := w') (v := .string w3) (by rfl) rfl ?_ ?_
      · go_simp
        (try simp only [i64_w])
        try rfl
      refine hK.out _ _ ⟨gq, m16, (by rw [ha.out]; exact putSel_upk 10 hb_ rfl rfl rfl), Q_NV, Q_BK, Q_BB, fun h0_ => absurd ((hoff 15 (by kernel_rfl)).symm.trans h0_) (by decide), fun h0_ => absurd ((hoff 16 (by kernel_rfl)).symm.trans h0_) (by decide)⟩
    refine steps_cons ?_ ?_
    · rintro b a w' ⟨gq, m16, ha, Q_NV, Q_BK, Q_BB, Q_QB, Q_P16⟩ hb_ hon hoff
      refine ⟨_, rfl, fun K hK => ?_⟩
      have e47 : a.tmps[47]? = some (.string w3) := by rw [ha]; exact putSel_on (e := (10, 47, .string w3)) 10 rfl rfl (hon 10 (by kernel_rfl)) rfl
      replace ha := Aside0.mk ha
      have R_NV := Q_NV
      have R_BK := Q_BK
      have R_BB := Q_BB
      replace R_NV := Aside0.mk R_NV
      replace R_BK := Aside0.mk R_BK
      replace R_BB := Aside0.mk R_BB
      refine goes_ Tryz.func20 (by kernel_rfl) rfl #[.string w3] (by rfl) rfl rfl (by first | (simp only [List.map_toArray, List.map_cons, List.map_nil, Act.eval, Array.getD_eq_getD_getElem?, Option.getD_some, e47]; done) | (simp only [List.map_toArray, List.map_cons, List.map_nil, Act.eval, Array.getD_eq_getD_getElem?, Option.getD_some, e47]; rfl)) ?_
      with_reducible refine (N3.out _).mono ?_
      rintro e v2 ⟨rfl, hb⟩
      refine ⟨_, rfl, ?_⟩
      refine hK.out _ _ ⟨gq, m16, (by rw [ha.out]; exact putSel_upk 11 hb_ rfl rfl rfl), blk_below Q_NV hb, blk_below Q_BK hb, below_step Q_BB hb, fun h0_ => absurd ((hoff 15 (by kernel_rfl)).symm.trans h0_) (by decide), fun h0_ => absurd ((hoff 16 (by kernel_rfl)).symm.trans h0_) (by decide)⟩
    refine steps_cons ?_ ?_
    · rintro b a w' ⟨gq, m16, ha, Q_NV, Q_BK, Q_BB, Q_QB, Q_P16⟩ hb_ hon hoff
      refine ⟨_, rfl, fun K hK => ?_⟩
      have e6 : a.tmps[6]? = some (.pointer (some ⟨gb, 0, none⟩)) := by rw [ha]; exact (putSel_off rfl).trans rfl
      replace ha := Aside0.mk ha
      have R_NV := Q_NV
      have R_BK := Q_BK
      have R_BB := Q_BB
      replace R_NV := Aside0.mk R_NV
      replace R_BK := Aside0.mk R_BK
      replace R_BB := Aside0.mk R_BB
      refine value_ (w1 := w') (v := .pointer (some ⟨gb, 4, none⟩)) (by rfl) rfl ?_ ?_
      · go_simp
        (try simp only [i64_w])
        try rfl
      refine hK.out _ _ ⟨gq, m16, (by rw [ha.out]; exact putSel_upk 12 hb_ rfl rfl rfl), Q_NV, Q_BK, Q_BB, fun h0_ => absurd ((hoff 15 (by kernel_rfl)).symm.trans h0_) (by decide), fun h0_ => absurd ((hoff 16 (by kernel_rfl)).symm.trans h0_) (by decide)⟩
    refine steps_cons ?_ ?_
    · rintro b a w' ⟨gq, m16, ha, Q_NV, Q_BK, Q_BB, Q_QB, Q_P16⟩ hb_ hon hoff
      refine ⟨_, rfl, fun K hK => ?_⟩
      have e49 : a.tmps[49]? = some (.pointer (some ⟨gb, 4, none⟩)) := by rw [ha]; exact putSel_on (e := (12, 49, .pointer (some ⟨gb, 4, none⟩))) 12 rfl rfl (hon 12 (by kernel_rfl)) rfl
      replace ha := Aside0.mk ha
      have R_NV := Q_NV
      have R_BK := Q_BK
      have R_BB := Q_BB
      replace R_NV := Aside0.mk R_NV
      replace R_BK := Aside0.mk R_BK
      replace R_BB := Aside0.mk R_BB
      have c := (blk_cell R_NV.out 4).trans (show _ = some (.int .i64 p) from rfl)
      refine value_ (w1 := w') (v := .int .i64 p) (by rfl) rfl ?_ ?_
      · go_simp
        (try simp only [i64_w])
        try rfl
      refine hK.out _ _ ⟨gq, m16, (by rw [ha.out]; exact putSel_upk 13 hb_ rfl rfl rfl), Q_NV, Q_BK, Q_BB, fun h0_ => absurd ((hoff 15 (by kernel_rfl)).symm.trans h0_) (by decide), fun h0_ => absurd ((hoff 16 (by kernel_rfl)).symm.trans h0_) (by decide)⟩
    refine steps_cons ?_ ?_
    · rintro b a w' ⟨gq, m16, ha, Q_NV, Q_BK, Q_BB, Q_QB, Q_P16⟩ hb_ hon hoff
      refine ⟨_, rfl, fun K hK => ?_⟩
      have e50 : a.tmps[50]? = some (.int .i64 p) := by rw [ha]; exact putSel_on (e := (13, 50, .int .i64 p)) 13 rfl rfl (hon 13 (by kernel_rfl)) rfl
      replace ha := Aside0.mk ha
      have R_NV := Q_NV
      have R_BK := Q_BK
      have R_BB := Q_BB
      replace R_NV := Aside0.mk R_NV
      replace R_BK := Aside0.mk R_BK
      replace R_BB := Aside0.mk R_BB
      refine value_ (w1 := w') (v := .bool x4) (by rfl) rfl ?_ ?_
      · go_simp
        (try simp only [i64_w])
        try rfl
        rw [X4.out]
      refine hK.out _ _ ⟨gq, m16, (by rw [ha.out]; exact putSel_upk 14 hb_ rfl rfl rfl), Q_NV, Q_BK, Q_BB, fun h0_ => absurd ((hoff 15 (by kernel_rfl)).symm.trans h0_) (by decide), fun h0_ => absurd ((hoff 16 (by kernel_rfl)).symm.trans h0_) (by decide)⟩
    refine steps_cons ?_ ?_
    · rintro b a w' ⟨gq, m16, ha, Q_NV, Q_BK, Q_BB, Q_QB, Q_P16⟩ hb_ hon hoff
      refine ⟨_, rfl, fun K hK => ?_⟩
      have e39 : a.tmps[39]? = some (.bool x0) := by rw [ha]; exact putSel_on (e := (2, 39, .bool x0)) 2 rfl rfl (hon 2 (by kernel_rfl)) rfl
      have e42 : a.tmps[42]? = some (.bool x1) := by rw [ha]; exact putSel_on (e := (5, 42, .bool x1)) 5 rfl rfl (hon 5 (by kernel_rfl)) rfl
      have e45 : a.tmps[45]? = some (.bool x2) := by rw [ha]; exact putSel_on (e := (8, 45, .bool x2)) 8 rfl rfl (hon 8 (by kernel_rfl)) rfl
      have e48 : a.tmps[48]? = some (.bool x3) := by rw [ha]; exact putSel_on (e := (11, 48, .bool x3)) 11 rfl rfl (hon 11 (by kernel_rfl)) rfl
      have e51 : a.tmps[51]? = some (.bool x4) := by rw [ha]; exact putSel_on (e := (14, 51, .bool x4)) 14 rfl rfl (hon 14 (by kernel_rfl)) rfl
      replace ha := Aside0.mk ha
      have R_NV := Q_NV
      have R_BK := Q_BK
      have R_BB := Q_BB
      replace R_NV := Aside0.mk R_NV
      replace R_BK := Aside0.mk R_BK
      replace R_BB := Aside0.mk R_BB
      refine value_ (w1 := w'.alloc (.cells #[.bool x0, .bool x1, .bool x2, .bool x3, .bool x4] 4)) (v := .slice (some ⟨w'.heap.size, 0, none⟩) 5 5) (by rfl) rfl ?_ ?_
      · go_simp
        (try simp only [i64_w])
        try rfl
      have hb : Below w'.heap.size w' (w'.alloc (.cells #[.bool x0, .bool x1, .bool x2, .bool x3, .bool x4] 4)) := below_alloc (Below.refl _ _) _
      refine hK.out _ _ ⟨w'.heap.size, m16, (by rw [ha.out]; exact putSel_upk 15 hb_ rfl rfl rfl), blk_below Q_NV hb, blk_below Q_BK hb, below_step Q_BB hb, fun _ => blk_new w' _, fun h0_ => absurd ((hoff 16 (by kernel_rfl)).symm.trans h0_) (by decide)⟩
    refine steps_cons ?_ ?_
    · rintro b a w' ⟨gq, m16, ha, Q_NV, Q_BK, Q_BB, Q_QB, Q_P16⟩ hb_ hon hoff
      refine ⟨_, rfl, fun K hK => ?_⟩
      have e52 : a.tmps[52]? = some (.slice (some ⟨gq, 0, none⟩) 5 5) := by rw [ha]; exact putSel_on (e := (15, 52, .slice (some ⟨gq, 0, none⟩) 5 5)) 15 rfl rfl (hon 15 (by kernel_rfl)) rfl
      replace ha := Aside0.mk ha
      have R_NV := Q_NV
      have R_BK := Q_BK
      have R_BB := Q_BB
      have R_QB := Q_QB (hon 15 (by kernel_rfl))
      replace R_NV := Aside0.mk R_NV
      replace R_BK := Aside0.mk R_BK
      replace R_BB := Aside0.mk R_BB
      replace R_QB := Aside0.mk R_QB
      refine value_ (w1 := w') (v := .slice (some ⟨gq, 0, none⟩) 5 5) (by rfl) rfl ?_ ?_
      · go_simp
        (try simp only [i64_w])
        try rfl
      refine hK.out _ _ ⟨gq, .slice (some ⟨gq, 0, none⟩) 5 5, (by rw [ha.out]; exact putSel_upk 16 hb_ rfl rfl rfl), Q_NV, Q_BK, Q_BB, Q_QB, fun _ => rfl⟩
    exact steps_nil
  rintro b a v3 hall ⟨gq, m16, ha, Q_NV, Q_BK, Q_BB, Q_QB, Q_P16⟩
  have hb0_ := hall 0 (by kernel_rfl)
  have hb1_ := hall 1 (by kernel_rfl)
  have hb2_ := hall 2 (by kernel_rfl)
  have hb3_ := hall 3 (by kernel_rfl)
  have hb4_ := hall 4 (by kernel_rfl)
  have hb5_ := hall 5 (by kernel_rfl)
  have hb6_ := hall 6 (by kernel_rfl)
  have hb7_ := hall 7 (by kernel_rfl)
  have hb8_ := hall 8 (by kernel_rfl)
  have hb9_ := hall 9 (by kernel_rfl)
  have hb10_ := hall 10 (by kernel_rfl)
  have hb11_ := hall 11 (by kernel_rfl)
  have hb12_ := hall 12 (by kernel_rfl)
  have hb13_ := hall 13 (by kernel_rfl)
  have hb14_ := hall 14 (by kernel_rfl)
  have hb15_ := hall 15 (by kernel_rfl)
  have hb16_ := hall 16 (by kernel_rfl)
  subst ha
  have NV := Aside0.mk (Q_NV)
  clear Q_NV
  have BK := Aside0.mk (Q_BK)
  clear Q_BK
  have BB := Aside0.mk (Q_BB)
  clear Q_BB
  have QB := Aside0.mk (Q_QB hb15_)
  clear Q_QB
  have P16 := Aside0.mk (Q_P16 hb16_)
  clear Q_P16
  simp only [putSel, hb0_, hb1_, hb2_, hb3_, hb4_, hb5_, hb6_, hb7_, hb8_, hb9_, hb10_, hb11_, hb12_, hb13_, hb14_, hb15_, hb16_, if_true, Act.put, List.setIfInBounds_toArray, List.set_cons_zero, List.set_cons_succ]
  clear hall hb0_ hb1_ hb2_ hb3_ hb4_ hb5_ hb6_ hb7_ hb8_ hb9_ hb10_ hb11_ hb12_ hb13_ hb14_ hb15_ hb16_
  have E16 := P16.out
  subst E16
  clear P16 NV9 BK9 BB9
  go_wp2_with fail
  go_loopw [8] (fun vi wx => ∃ i : Nat, vi = .int .i64 (i : Int) ∧ i ≤ 5 ∧ Aside0 (∀ j, j < i → bit [!x0, !x1, !x2, !x3, !x4] j = false) ∧ v3 = wx) (fun vi _ => 5 - (intOf vi).toNat)
  case atStart => exact ⟨0, rfl, by omega, ⟨fun j h => absurd h (Nat.not_lt_zero j)⟩, rfl⟩
  case round =>
    obtain ⟨i, rfl, hi, hbs, rfl⟩ := hrel
    by_cases hlt : i < 5
    · have d1 : decide ((i : Int) < 5) = true := decide_eq_true (by omega)
      have l5 : (5 ≤ (i : Int)) = False := eq_false (by omega)
      have hcell := (blk_cell QB.out i).trans (bool5 x0 x1 x2 x3 x4 i hlt)
      have hw1 : wrap64 ((i : Int) + 1) = ((i + 1 : Nat) : Int) := by unfold wrap64; omega
      cases hb : bit [!x0, !x1, !x2, !x3, !x4] i with
      | true =>
        rw [hb] at hcell
        have hans := Aside0.mk (hr.out.trans (show _ = (zeroV, 112, (i : Int)) by rw [bad_at (by exact hlt) hb hbs.out]))
        have hcell2 : v3.cell? ⟨gq, i, none⟩ = some (.bool false) := hcell
        clear hb hbs hr hcell
        have q0 : v3.cell? ⟨B, 0, none⟩ = some (.string ⟨#[]⟩) := (blk_cell BK.out 0).trans rfl
        have z0 := blk_frozen BK.out 0
        have q1 : v3.cell? ⟨B, 1, none⟩ = some (.int .i64 0) := (blk_cell BK.out 1).trans rfl
        have z1 := blk_frozen BK.out 1
        have q2 : v3.cell? ⟨B, 2, none⟩ = some (.string ⟨#[]⟩) := (blk_cell BK.out 2).trans rfl
        have z2 := blk_frozen BK.out 2
        have q3 : v3.cell? ⟨B, 3, none⟩ = some (.string ⟨#[]⟩) := (blk_cell BK.out 3).trans rfl
        have z3 := blk_frozen BK.out 3
        have q4 : v3.cell? ⟨B, 4, none⟩ = some (.int .i64 0) := (blk_cell BK.out 4).trans rfl
        have z4 := blk_frozen BK.out 4
        go_wp2_with fail
        obtain ⟨K9, B9⟩ := five w v3 B _ _ _ _ _ (.string ⟨#[]⟩) (.int .i64 0) (.string ⟨#[]⟩) (.string ⟨#[]⟩) (.int .i64 0) 23 BK.out BB.out (by rw [HB.out]; exact Nat.le_refl _)
        clear q0 z0 q1 z1 q2 z2 q3 z3 q4 z4
        generalize (((((v3.setCell ⟨B, 0, none⟩ (.string ⟨#[]⟩)).setCell ⟨B, 1, none⟩ (.int .i64 0)).setCell ⟨B, 2, none⟩ (.string ⟨#[]⟩)).setCell ⟨B, 3, none⟩ (.string ⟨#[]⟩)).setCell ⟨B, 4, none⟩ (.int .i64 0)) = W9 at K9 B9 ⊢
        have q0 : W9.cell? ⟨B, 0, none⟩ = some (.string ⟨#[]⟩) := (blk_cell K9 0).trans rfl
        have q1 : W9.cell? ⟨B, 1, none⟩ = some (.int .i64 0) := (blk_cell K9 1).trans rfl
        have q2 : W9.cell? ⟨B, 2, none⟩ = some (.string ⟨#[]⟩) := (blk_cell K9 2).trans rfl
        have q3 : W9.cell? ⟨B, 3, none⟩ = some (.string ⟨#[]⟩) := (blk_cell K9 3).trans rfl
        have q4 : W9.cell? ⟨B, 4, none⟩ = some (.int .i64 0) := (blk_cell K9 4).trans rfl
        refine bodyPost_ret (v := .tuple #[zeroV, .int .i64 112, .int .i64 (i : Int)]) (by simp [results, Tryz.results12, go_sem, q0, q1, q2, q3, q4, zeroV, feedV]) rfl ?_
        exact ⟨by rw [hans.out], B9⟩
      | false =>
        rw [hb] at hcell
        have hcell2 : v3.cell? ⟨gq, i, none⟩ = some (.bool true) := hcell
        have hbs' := Aside0.mk (show ∀ j, j < i + 1 → bit [!x0, !x1, !x2, !x3, !x4] j = false from fun j hj => by
          by_cases e : j = i
          · rw [e]; exact hb
          · exact hbs.out j (by omega))
        clear hb hbs hcell
        go_wp2_with fail
        go_roundw
        case rel => exact ⟨i + 1, by first | rfl | (push_cast; rfl), by omega, hbs', by first | rfl | trivial⟩
        case measure => simp [intOf]; omega
    · obtain rfl : i = 5 := by omega
      have hans := Aside0.mk (hr.out.trans (show _ = (feedV w0 n w2' w3 p, 0, 0) by rw [bad_none (fun j hj => hbs.out j hj)]))
      clear hbs hr hlt
      have y0 : v3.cell? ⟨gb, 0, none⟩ = some (.string w0) := (blk_cell NV.out 0).trans rfl
      have q0 : v3.cell? ⟨B, 0, none⟩ = some (.string ⟨#[]⟩) := (blk_cell BK.out 0).trans rfl
      have z0 := blk_frozen BK.out 0
      have y1 : v3.cell? ⟨gb, 1, none⟩ = some (.int .i64 n) := (blk_cell NV.out 1).trans rfl
      have q1 : v3.cell? ⟨B, 1, none⟩ = some (.int .i64 0) := (blk_cell BK.out 1).trans rfl
      have z1 := blk_frozen BK.out 1
      have y2 : v3.cell? ⟨gb, 2, none⟩ = some (.string w2') := (blk_cell NV.out 2).trans rfl
      have q2 : v3.cell? ⟨B, 2, none⟩ = some (.string ⟨#[]⟩) := (blk_cell BK.out 2).trans rfl
      have z2 := blk_frozen BK.out 2
      have y3 : v3.cell? ⟨gb, 3, none⟩ = some (.string w3) := (blk_cell NV.out 3).trans rfl
      have q3 : v3.cell? ⟨B, 3, none⟩ = some (.string ⟨#[]⟩) := (blk_cell BK.out 3).trans rfl
      have z3 := blk_frozen BK.out 3
      have y4 : v3.cell? ⟨gb, 4, none⟩ = some (.int .i64 p) := (blk_cell NV.out 4).trans rfl
      have q4 : v3.cell? ⟨B, 4, none⟩ = some (.int .i64 0) := (blk_cell BK.out 4).trans rfl
      have z4 := blk_frozen BK.out 4
      go_wp2_with fail
      obtain ⟨K9, B9⟩ := five w v3 B _ _ _ _ _ (.string w0) (.int .i64 n) (.string w2') (.string w3) (.int .i64 p) 23 BK.out BB.out (by rw [HB.out]; exact Nat.le_refl _)
      clear q0 z0 q1 z1 q2 z2 q3 z3 q4 z4
      generalize (((((v3.setCell ⟨B, 0, none⟩ (.string w0)).setCell ⟨B, 1, none⟩ (.int .i64 n)).setCell ⟨B, 2, none⟩ (.string w2')).setCell ⟨B, 3, none⟩ (.string w3)).setCell ⟨B, 4, none⟩ (.int .i64 p)) = W9 at K9 B9 ⊢
      have q0 : W9.cell? ⟨B, 0, none⟩ = some (.string w0) := (blk_cell K9 0).trans rfl
      have q1 : W9.cell? ⟨B, 1, none⟩ = some (.int .i64 n) := (blk_cell K9 1).trans rfl
      have q2 : W9.cell? ⟨B, 2, none⟩ = some (.string w2') := (blk_cell K9 2).trans rfl
      have q3 : W9.cell? ⟨B, 3, none⟩ = some (.string w3) := (blk_cell K9 3).trans rfl
      have q4 : W9.cell? ⟨B, 4, none⟩ = some (.int .i64 p) := (blk_cell K9 4).trans rfl
      refine bodyPost_ret (v := .tuple #[feedV w0 n w2' w3 p, .int .i64 0, .int .i64 0]) (by simp [results, Tryz.results12, go_sem, q0, q1, q2, q3, q4, zeroV, feedV]) rfl ?_
      exact ⟨by rw [hans.out], B9⟩
theorem refdec0 (s : ByteArray) (w : World) :
    Calls Tryz.prog 12 #[.string s] w fun e w' => e = .returned (.tuple #[(decodeV s).1, .int .i64 (decodeV s).2.1, .int .i64 (decodeV s).2.2]) ∧ Below w.heap.size w w' := by
  by_cases h1 : 100 < s.size
  · exact refdec_long s w h1
  · by_cases h5 : (wordsOf s).length = 5
    · match h : wordsOf s, h5 with
      | [w0, w1, w2, w3, w4], _ => exact refdec_five s w (by omega) w0 w1 w2 w3 w4 h
    · exact refdec_fields s w (by omega) h5
open Go.Proofs.YtbecemdehelooaaGreatDoor.FeedPm in
theorem refdecode_calls (s : ByteArray) (w : World) :
    Calls Tryz.prog 12 #[.string s] w fun e w' => e = .returned (.tuple #[.agg #[.string (decodeN s).1.so, .int .i64 (decodeN s).1.n, .string (decodeN s).1.sk, .string (decodeN s).1.se, .int .i64 (decodeN s).1.p], .int .i64 (decodeN s).2.1, .int .i64 (decodeN s).2.2]) ∧ Below w.heap.size w w' := by
  have h := refdec0 s w
  rw [decode_N] at h
  exact h
end Go.Proofs.YtbecemdehelooaaGreatDoor.FeedRd
