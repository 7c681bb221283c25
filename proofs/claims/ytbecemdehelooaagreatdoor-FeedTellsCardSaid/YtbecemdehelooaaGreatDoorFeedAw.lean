/- First calls, whose answers are fixed. -/
import Derived.Test.YtbecemdehelooaaGreatDoorFeedDh
namespace Go.Proofs.YtbecemdehelooaaGreatDoor.FeedAw
open Go.RowKit Go.Proofs.YtbecemdehelooaaGreatDoor.FrameS Go.Proofs.YtbecemdehelooaaGreatDoor.FeedG Go.Proofs.YtbecemdehelooaaGreatDoor.FeedD Go.Proofs.YtbecemdehelooaaGreatDoor.FeedN Go.Proofs.YtbecemdehelooaaGreatDoor.FeedW Go.Proofs.YtbecemdehelooaaGreatDoor.FeedE Go.Proofs.YtbecemdehelooaaGreatDoor.FeedDe Go.Proofs.YtbecemdehelooaaGreatDoor.FeedDh Go.Proofs.YtbecemdehelooaaGreatDoor.FeedPm Go.Proofs.YtbecemdehelooaaGreatDoorW.PrintWords Go.Proofs.YtbecemdehelooaaGreatDoorW.PrintLast Go.Proofs.YtbecemdehelooaaGreatDoorW.PrintMore
set_option linter.unusedVariables false
set_option linter.unusedSimpArgs false
theorem ok1 : (⟨⟨#[97, 99, 109, 101]⟩, 7, ⟨#[109, 117, 103]⟩, ⟨#[98, 111, 98]⟩, 499⟩ : Ln).ok = true := by decide +kernel
theorem ok2 : (⟨⟨#[97, 99, 109, 101]⟩, 8, ⟨#[109, 117, 103]⟩, ⟨#[98, 111, 98]⟩, 0⟩ : Ln).ok = true := by decide +kernel
theorem line1 : (⟨⟨#[97, 99, 109, 101]⟩, 7, ⟨#[109, 117, 103]⟩, ⟨#[98, 111, 98]⟩, 499⟩ : Ln).line = [97, 99, 109, 101, 32, 55, 32, 109, 117, 103, 32, 98, 111, 98, 32, 52, 46, 57, 57] := by decide +kernel
theorem line2 : (⟨⟨#[97, 99, 109, 101]⟩, 8, ⟨#[109, 117, 103]⟩, ⟨#[98, 111, 98]⟩, 0⟩ : Ln).line = [97, 99, 109, 101, 32, 56, 32, 109, 117, 103, 32, 98, 111, 98, 32, 103, 111, 110, 101] := by decide +kernel
theorem d1 : decodeN ⟨#[97, 99, 109, 101, 32, 55, 32, 109, 117, 103, 32, 98, 111, 98, 32, 52, 46, 57, 57]⟩ = (⟨⟨#[97, 99, 109, 101]⟩, 7, ⟨#[109, 117, 103]⟩, ⟨#[98, 111, 98]⟩, 499⟩, 0, 0) := by
  have := back ok1; rw [line1] at this; exact this
theorem d2 : decodeN ⟨#[97, 99, 109, 101, 32, 56, 32, 109, 117, 103, 32, 98, 111, 98, 32, 103, 111, 110, 101]⟩ = (⟨⟨#[97, 99, 109, 101]⟩, 8, ⟨#[109, 117, 103]⟩, ⟨#[98, 111, 98]⟩, 0⟩, 0, 0) := by
  have := back ok2; rw [line2] at this; exact this
theorem words3 : wordsOf ⟨#[97, 99, 109, 101, 32, 48, 55, 32, 109, 117, 103, 32, 105, 102, 32, 52, 46, 57, 57]⟩ = [⟨#[97, 99, 109, 101]⟩, ⟨#[48, 55]⟩, ⟨#[109, 117, 103]⟩, ⟨#[105, 102]⟩, ⟨#[52, 46, 57, 57]⟩] := by decide +kernel
theorem d3 : decodeN ⟨#[97, 99, 109, 101, 32, 48, 55, 32, 109, 117, 103, 32, 105, 102, 32, 52, 46, 57, 57]⟩ = ((⟨⟨#[]⟩, 0, ⟨#[]⟩, ⟨#[]⟩, 0⟩ : Ln), 112, 1) := by
  show _ = (zeroLn, (112 : Int), (1 : Int))
  have hb : firstBad (bads (wordsOf ⟨#[97, 99, 109, 101, 32, 48, 55, 32, 109, 117, 103, 32, 105, 102, 32, 52, 46, 57, 57]⟩)) = some 1 := by rw [words3]; decide +kernel
  unfold decodeN
  rw [if_neg (by decide), if_neg (by rw [words3]; decide), hb]
  rfl
theorem words4 : wordsOf ⟨#[97, 99, 109, 101]⟩ = [⟨#[97, 99, 109, 101]⟩] := by decide +kernel
theorem d4 : decodeN ⟨#[97, 99, 109, 101]⟩ = ((⟨⟨#[]⟩, 0, ⟨#[]⟩, ⟨#[]⟩, 0⟩ : Ln), 111, 0) := by
  show _ = (zeroLn, (111 : Int), (0 : Int))
  unfold decodeN
  rw [if_neg (by decide), if_pos (by rw [words4]; decide)]
theorem r0 : rightF ⟨#[]⟩ ⟨#[]⟩ ⟨#[]⟩ 0 0 = false := by decide +kernel
theorem eqF (w : World) : (Op.equalIn 10000 23 (.agg #[.string ⟨#[97, 99, 109, 101]⟩, .int .i64 7, .string ⟨#[109, 117, 103]⟩, .string ⟨#[98, 111, 98]⟩, .int .i64 499]) (.agg #[.string ⟨#[97, 99, 109, 101]⟩, .int .i64 7, .string ⟨#[109, 117, 103]⟩, .string ⟨#[98, 111, 98]⟩, .int .i64 499])).run Tryz.prog w = .ok true w := by kernel_rfl
set_option maxHeartbeats 4000000 in
set_option maxRecDepth 100000 in
theorem awake_calls (w : World) (hG : G w) : Calls Tryz.prog 4 #[] w fun e w' => e = .returned (.bool true) ∧ Below w.heap.size w w' := by
  have HG := Aside0.mk hG
  clear hG
  go_enter Tryz.func4, Tryz.ntmps4
  go_wp2_with fail
  refine (decode_calls ⟨#[97, 99, 109, 101, 32, 55, 32, 109, 117, 103, 32, 98, 111, 98, 32, 52, 46, 57, 57]⟩ _ (HG.out.below (Below.refl _ _))).mono ?_
  rintro e w1 ⟨rfl, b⟩
  rw [d1]
  have B1 := Aside0.mk (below_step (Below.refl _ _) b)
  clear b
  have K1_19 := Aside0.mk (blk_new w1 (.cells #[.string ⟨#[97, 99, 109, 101]⟩, .int .i64 7, .string ⟨#[109, 117, 103]⟩, .string ⟨#[98, 111, 98]⟩, .int .i64 499] 23))
  have B19 := Aside0.mk (below_alloc B1.out (.cells #[.string ⟨#[97, 99, 109, 101]⟩, .int .i64 7, .string ⟨#[109, 117, 103]⟩, .string ⟨#[98, 111, 98]⟩, .int .i64 499] 23))
  go_wp2_with fail
  obtain ⟨g1, hg1⟩ : ∃ g, w1.heap.size = g := ⟨_, rfl⟩
  obtain ⟨W1, hW1⟩ : ∃ W, w1.alloc (.cells #[.string ⟨#[97, 99, 109, 101]⟩, .int .i64 7, .string ⟨#[109, 117, 103]⟩, .string ⟨#[98, 111, 98]⟩, .int .i64 499] 23) = W := ⟨_, rfl⟩
  rw [hW1] at B19  K1_19 ⊢
  rw [hg1] at K1_19 ⊢
  clear hg1 hW1
  refine (decode_calls ⟨#[97, 99, 109, 101, 32, 56, 32, 109, 117, 103, 32, 98, 111, 98, 32, 103, 111, 110, 101]⟩ _ (HG.out.below B19.out)).mono ?_
  rintro e w2 ⟨rfl, b⟩
  rw [d2]
  have B2 := Aside0.mk (below_step B19.out b)
  have K1_2 := Aside0.mk (blk_below K1_19.out b)
  clear b
  have K2_29 := Aside0.mk (blk_new w2 (.cells #[.string ⟨#[97, 99, 109, 101]⟩, .int .i64 8, .string ⟨#[109, 117, 103]⟩, .string ⟨#[98, 111, 98]⟩, .int .i64 0] 23))
  have K1_29 := Aside0.mk (blk_alloc K1_2.out (.cells #[.string ⟨#[97, 99, 109, 101]⟩, .int .i64 8, .string ⟨#[109, 117, 103]⟩, .string ⟨#[98, 111, 98]⟩, .int .i64 0] 23))
  have B29 := Aside0.mk (below_alloc B2.out (.cells #[.string ⟨#[97, 99, 109, 101]⟩, .int .i64 8, .string ⟨#[109, 117, 103]⟩, .string ⟨#[98, 111, 98]⟩, .int .i64 0] 23))
  go_wp2_with fail
  obtain ⟨g2, hg2⟩ : ∃ g, w2.heap.size = g := ⟨_, rfl⟩
  obtain ⟨W2, hW2⟩ : ∃ W, w2.alloc (.cells #[.string ⟨#[97, 99, 109, 101]⟩, .int .i64 8, .string ⟨#[109, 117, 103]⟩, .string ⟨#[98, 111, 98]⟩, .int .i64 0] 23) = W := ⟨_, rfl⟩
  rw [hW2] at B29 K1_29 K2_29 ⊢
  rw [hg2] at K2_29 ⊢
  clear hg2 hW2
  refine (decode_calls ⟨#[97, 99, 109, 101, 32, 48, 55, 32, 109, 117, 103, 32, 105, 102, 32, 52, 46, 57, 57]⟩ _ (HG.out.below B29.out)).mono ?_
  rintro e w3 ⟨rfl, b⟩
  rw [d3]
  have B3 := Aside0.mk (below_step B29.out b)
  have K1_3 := Aside0.mk (blk_below K1_29.out b)
  have K2_3 := Aside0.mk (blk_below K2_29.out b)
  clear b
  have K3_39 := Aside0.mk (blk_new w3 (.cells #[.string ⟨#[]⟩, .int .i64 0, .string ⟨#[]⟩, .string ⟨#[]⟩, .int .i64 0] 23))
  have K1_39 := Aside0.mk (blk_alloc K1_3.out (.cells #[.string ⟨#[]⟩, .int .i64 0, .string ⟨#[]⟩, .string ⟨#[]⟩, .int .i64 0] 23))
  have K2_39 := Aside0.mk (blk_alloc K2_3.out (.cells #[.string ⟨#[]⟩, .int .i64 0, .string ⟨#[]⟩, .string ⟨#[]⟩, .int .i64 0] 23))
  have B39 := Aside0.mk (below_alloc B3.out (.cells #[.string ⟨#[]⟩, .int .i64 0, .string ⟨#[]⟩, .string ⟨#[]⟩, .int .i64 0] 23))
  go_wp2_with fail
  obtain ⟨g3, hg3⟩ : ∃ g, w3.heap.size = g := ⟨_, rfl⟩
  obtain ⟨W3, hW3⟩ : ∃ W, w3.alloc (.cells #[.string ⟨#[]⟩, .int .i64 0, .string ⟨#[]⟩, .string ⟨#[]⟩, .int .i64 0] 23) = W := ⟨_, rfl⟩
  rw [hW3] at B39 K1_39 K2_39 K3_39 ⊢
  rw [hg3] at K3_39 ⊢
  clear hg3 hW3
  refine (decode_calls ⟨#[97, 99, 109, 101]⟩ _ (HG.out.below B39.out)).mono ?_
  rintro e w4 ⟨rfl, b⟩
  rw [d4]
  have B4 := Aside0.mk (below_step B39.out b)
  have K1_4 := Aside0.mk (blk_below K1_39.out b)
  have K2_4 := Aside0.mk (blk_below K2_39.out b)
  clear b
  have K4_49 := Aside0.mk (blk_new w4 (.cells #[.string ⟨#[]⟩, .int .i64 0, .string ⟨#[]⟩, .string ⟨#[]⟩, .int .i64 0] 23))
  have K1_49 := Aside0.mk (blk_alloc K1_4.out (.cells #[.string ⟨#[]⟩, .int .i64 0, .string ⟨#[]⟩, .string ⟨#[]⟩, .int .i64 0] 23))
  have K2_49 := Aside0.mk (blk_alloc K2_4.out (.cells #[.string ⟨#[]⟩, .int .i64 0, .string ⟨#[]⟩, .string ⟨#[]⟩, .int .i64 0] 23))
  have B49 := Aside0.mk (below_alloc B4.out (.cells #[.string ⟨#[]⟩, .int .i64 0, .string ⟨#[]⟩, .string ⟨#[]⟩, .int .i64 0] 23))
  have c0 : World.cell? (w4.alloc (.cells #[.string ⟨#[]⟩, .int .i64 0, .string ⟨#[]⟩, .string ⟨#[]⟩, .int .i64 0] 23)) ⟨g1, 0, none⟩ = some (.string ⟨#[97, 99, 109, 101]⟩) := (blk_cell K1_49.out 0).trans rfl
  have c1 : World.cell? (w4.alloc (.cells #[.string ⟨#[]⟩, .int .i64 0, .string ⟨#[]⟩, .string ⟨#[]⟩, .int .i64 0] 23)) ⟨g1, 1, none⟩ = some (.int .i64 7) := (blk_cell K1_49.out 1).trans rfl
  have c2 : World.cell? (w4.alloc (.cells #[.string ⟨#[]⟩, .int .i64 0, .string ⟨#[]⟩, .string ⟨#[]⟩, .int .i64 0] 23)) ⟨g1, 2, none⟩ = some (.string ⟨#[109, 117, 103]⟩) := (blk_cell K1_49.out 2).trans rfl
  have c3 : World.cell? (w4.alloc (.cells #[.string ⟨#[]⟩, .int .i64 0, .string ⟨#[]⟩, .string ⟨#[]⟩, .int .i64 0] 23)) ⟨g1, 3, none⟩ = some (.string ⟨#[98, 111, 98]⟩) := (blk_cell K1_49.out 3).trans rfl
  have c4 : World.cell? (w4.alloc (.cells #[.string ⟨#[]⟩, .int .i64 0, .string ⟨#[]⟩, .string ⟨#[]⟩, .int .i64 0] 23)) ⟨g1, 4, none⟩ = some (.int .i64 499) := (blk_cell K1_49.out 4).trans rfl
  go_wp2_with fail
  refine (encode_calls ⟨#[97, 99, 109, 101]⟩ ⟨#[109, 117, 103]⟩ ⟨#[98, 111, 98]⟩ 7 499 _ (HG.out.below B49.out)).mono ?_
  rintro e w5 ⟨rfl, b⟩
  rw [if_pos (show rightF ⟨#[97, 99, 109, 101]⟩ ⟨#[109, 117, 103]⟩ ⟨#[98, 111, 98]⟩ 7 499 = true from ok1), show (⟨(lineL ⟨#[97, 99, 109, 101]⟩ ⟨#[109, 117, 103]⟩ ⟨#[98, 111, 98]⟩ 7 499).toArray⟩ : ByteArray) = ⟨#[97, 99, 109, 101, 32, 55, 32, 109, 117, 103, 32, 98, 111, 98, 32, 52, 46, 57, 57]⟩ by rw [show lineL ⟨#[97, 99, 109, 101]⟩ ⟨#[109, 117, 103]⟩ ⟨#[98, 111, 98]⟩ 7 499 = _ from line1]]
  have B5 := Aside0.mk (below_step B49.out b)
  have K1_5 := Aside0.mk (blk_below K1_49.out b)
  have K2_5 := Aside0.mk (blk_below K2_49.out b)
  clear b c0 c1 c2 c3 c4
  have c0 : w5.cell? ⟨g1, 0, none⟩ = some (.string ⟨#[97, 99, 109, 101]⟩) := (blk_cell K1_5.out 0).trans rfl
  have c1 : w5.cell? ⟨g1, 1, none⟩ = some (.int .i64 7) := (blk_cell K1_5.out 1).trans rfl
  have c2 : w5.cell? ⟨g1, 2, none⟩ = some (.string ⟨#[109, 117, 103]⟩) := (blk_cell K1_5.out 2).trans rfl
  have c3 : w5.cell? ⟨g1, 3, none⟩ = some (.string ⟨#[98, 111, 98]⟩) := (blk_cell K1_5.out 3).trans rfl
  have c4 : w5.cell? ⟨g1, 4, none⟩ = some (.int .i64 499) := (blk_cell K1_5.out 4).trans rfl
  have e1 : w5.cell? ⟨g2, 1, none⟩ = some (.int .i64 8) := (blk_cell K2_5.out 1).trans rfl
  have e4 : w5.cell? ⟨g2, 4, none⟩ = some (.int .i64 0) := (blk_cell K2_5.out 4).trans rfl
  have hq := eqF w5
  go_wp2_with fail
  refine (right_calls ⟨#[97, 99, 109, 101]⟩ ⟨#[109, 117, 103]⟩ ⟨#[98, 111, 98]⟩ 7 499 _).mono ?_
  rintro e w6 ⟨rfl, b⟩
  rw [show rightF ⟨#[97, 99, 109, 101]⟩ ⟨#[109, 117, 103]⟩ ⟨#[98, 111, 98]⟩ 7 499 = true from ok1]
  have B6 := Aside0.mk (below_step B5.out b)
  clear b hq
  go_wp2_with fail
  refine (right_calls ⟨#[]⟩ ⟨#[]⟩ ⟨#[]⟩ 0 0 _).mono ?_
  rintro e w7 ⟨rfl, b⟩
  rw [r0]
  have B7 := Aside0.mk (below_step B6.out b)
  clear b
  go_wp2_with fail
  go_ret
  exact ⟨rfl, B7.out⟩
end Go.Proofs.YtbecemdehelooaaGreatDoor.FeedAw
