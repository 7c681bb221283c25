/- Lines, read: too long ones. -/
import Derived.Test.YtbecemdehelooaaGreatDoorFeedDe
namespace Go.Proofs.YtbecemdehelooaaGreatDoor.FeedDg
open Go.RowKit Go.Proofs.YtbecemdehelooaaGreatDoor.FrameS Go.Proofs.YtbecemdehelooaaGreatDoor.FeedG Go.Proofs.YtbecemdehelooaaGreatDoor.FeedD Go.Proofs.YtbecemdehelooaaGreatDoor.FeedN Go.Proofs.YtbecemdehelooaaGreatDoor.FeedW Go.Proofs.YtbecemdehelooaaGreatDoor.FeedQ Go.Proofs.YtbecemdehelooaaGreatDoor.FeedDe Go.Proofs.YtbecemdehelooaaGreatDoorW.PrintWords Go.Proofs.YtbecemdehelooaaGreatDoorW.PrintLast Go.Proofs.YtbecemdehelooaaGreatDoorW.PrintMore
set_option linter.unusedVariables false
set_option linter.unusedSimpArgs false
set_option maxHeartbeats 1000000 in
set_option maxRecDepth 100000 in
theorem decode_long (s : ByteArray) (w : World) (hs : 100 < s.size) :
    Calls Tryz.prog 11 #[.string s] w fun e w' => e = .returned (.tuple #[(decodeV s).1, .int .i64 (decodeV s).2.1, .int .i64 (decodeV s).2.2]) ∧ Below w.heap.size w w' := by
  have hr := Aside0.mk (show decodeV s = (zeroV, 60, 0) by unfold decodeV; rw [if_pos hs])
  have d0 : decide (100 < (s.size : Int)) = true := decide_eq_true (by omega)
  clear hs
  go_enter Tryz.func11, Tryz.ntmps11
  go_wp2_with fail
  have BW := Aside0.mk (below_alloc (Below.refl w.heap.size w) (.cells #[.string ⟨#[]⟩, .int .i64 0, .string ⟨#[]⟩, .string ⟨#[]⟩, .int .i64 0] 23))
  have K := blk_new w (.cells #[.string ⟨#[]⟩, .int .i64 0, .string ⟨#[]⟩, .string ⟨#[]⟩, .int .i64 0] 23)
  generalize w.alloc (.cells #[.string ⟨#[]⟩, .int .i64 0, .string ⟨#[]⟩, .string ⟨#[]⟩, .int .i64 0] 23) = W9 at K BW ⊢
  have y0 : W9.cell? ⟨w.heap.size, 0, none⟩ = some (.string ⟨#[]⟩) := (blk_cell K 0).trans rfl
  have y1 : W9.cell? ⟨w.heap.size, 1, none⟩ = some (.int .i64 0) := (blk_cell K 1).trans rfl
  have y2 : W9.cell? ⟨w.heap.size, 2, none⟩ = some (.string ⟨#[]⟩) := (blk_cell K 2).trans rfl
  have y3 : W9.cell? ⟨w.heap.size, 3, none⟩ = some (.string ⟨#[]⟩) := (blk_cell K 3).trans rfl
  have y4 : W9.cell? ⟨w.heap.size, 4, none⟩ = some (.int .i64 0) := (blk_cell K 4).trans rfl
  refine bodyPost_ret (v := .tuple #[zeroV, .int .i64 60, .int .i64 0]) (by simp [results, Tryz.results11, go_sem, y0, y1, y2, y3, y4, zeroV, feedV]) rfl ?_
  exact ⟨by rw [hr.out], BW.out⟩
set_option maxHeartbeats 1000000 in
set_option maxRecDepth 100000 in
theorem decode_fields (s : ByteArray) (w : World) (hG : G w) (hs : s.size ≤ 100) (h5 : (wordsOf s).length ≠ 5) :
    Calls Tryz.prog 11 #[.string s] w fun e w' => e = .returned (.tuple #[(decodeV s).1, .int .i64 (decodeV s).2.1, .int .i64 (decodeV s).2.2]) ∧ Below w.heap.size w w' := by
  have hr := Aside0.mk (show decodeV s = (zeroV, 111, 0) by unfold decodeV; rw [if_neg (by omega), if_pos h5])
  have d0 : decide (100 < (s.size : Int)) = false := decide_eq_false (by omega)
  obtain ⟨n, hn⟩ : ∃ n, (wordsOf s).length = n := ⟨_, rfl⟩
  have d1 : ((n : Int) != 5) = true := bne_iff_ne.2 (by omega)
  have HN := Aside0.mk hn
  have HG := Aside0.mk hG
  have HS := Aside0.mk hs
  clear hG hs h5 hn
  obtain ⟨B, hB⟩ : ∃ B, B = w.heap.size := ⟨_, rfl⟩
  obtain ⟨W1, hW1⟩ : ∃ W, w.alloc (.cells #[.string ⟨#[]⟩, .int .i64 0, .string ⟨#[]⟩, .string ⟨#[]⟩, .int .i64 0] 23) = W := ⟨_, rfl⟩
  have K1 := Aside0.mk (show W1.heap[B]? = some (.cells #[.string ⟨#[]⟩, .int .i64 0, .string ⟨#[]⟩, .string ⟨#[]⟩, .int .i64 0] 23 (0, 0)) by rw [← hW1, hB]; exact blk_new w _)
  have B1 := Aside0.mk (show Below w.heap.size w W1 by rw [← hW1]; exact below_alloc (Below.refl _ _) _)
  have HB := Aside0.mk hB
  have HW1 := Aside0.mk hW1
  clear hB hW1
  go_enter Tryz.func11, Tryz.ntmps11
  go_wp2_with fail
  rw [HW1.out, ← HB.out]
  refine (split_calls s _ (HG.out.below B1.out) (by have := HS.out; omega)).mono ?_
  rintro e w2 ⟨rfl, h2⟩
  rw [HN.out]
  have K2 := blk_alloc K1.out (.cells ((wordsOf s).map Value.string).toArray 9)
  rw [← h2] at K2
  have B2 := Aside0.mk (show Below w.heap.size w w2 by rw [h2]; exact below_alloc B1.out _)
  clear h2
  obtain ⟨b1, hb1⟩ : ∃ b, W1.heap.size = b := ⟨_, rfl⟩
  rw [hb1]
  clear hb1
  have y0 : w2.cell? ⟨B, 0, none⟩ = some (.string ⟨#[]⟩) := (blk_cell K2 0).trans rfl
  have y1 : w2.cell? ⟨B, 1, none⟩ = some (.int .i64 0) := (blk_cell K2 1).trans rfl
  have y2 : w2.cell? ⟨B, 2, none⟩ = some (.string ⟨#[]⟩) := (blk_cell K2 2).trans rfl
  have y3 : w2.cell? ⟨B, 3, none⟩ = some (.string ⟨#[]⟩) := (blk_cell K2 3).trans rfl
  have y4 : w2.cell? ⟨B, 4, none⟩ = some (.int .i64 0) := (blk_cell K2 4).trans rfl
  have z0 := blk_frozen K2 0
  have z1 := blk_frozen K2 1
  have z2 := blk_frozen K2 2
  have z3 := blk_frozen K2 3
  have z4 := blk_frozen K2 4
  have HK2 := Aside0.mk K2
  have lt := blk_lt K2
  clear K2
  go_wp2_with fail
  obtain ⟨K9, B9⟩ := five w w2 B _ _ _ _ _ (.string ⟨#[]⟩) (.int .i64 0) (.string ⟨#[]⟩) (.string ⟨#[]⟩) (.int .i64 0) 23 HK2.out B2.out (by rw [HB.out]; exact Nat.le_refl _)
  have K10 := blk_alloc K9 (.cells #[.string ⟨#[]⟩, .string ⟨#[]⟩, .string ⟨#[]⟩, .string ⟨#[]⟩, .string ⟨#[]⟩] 43)
  have B10 := below_alloc B9 (.cells #[.string ⟨#[]⟩, .string ⟨#[]⟩, .string ⟨#[]⟩, .string ⟨#[]⟩, .string ⟨#[]⟩] 43)
  clear y0 y1 y2 y3 y4 z0 z1 z2 z3 z4
  generalize (World.alloc _ (.cells #[.string ⟨#[]⟩, .string ⟨#[]⟩, .string ⟨#[]⟩, .string ⟨#[]⟩, .string ⟨#[]⟩] 43)) = W9 at K10 B10 ⊢
  have y0 : W9.cell? ⟨B, 0, none⟩ = some (.string ⟨#[]⟩) := (blk_cell K10 0).trans rfl
  have y1 : W9.cell? ⟨B, 1, none⟩ = some (.int .i64 0) := (blk_cell K10 1).trans rfl
  have y2 : W9.cell? ⟨B, 2, none⟩ = some (.string ⟨#[]⟩) := (blk_cell K10 2).trans rfl
  have y3 : W9.cell? ⟨B, 3, none⟩ = some (.string ⟨#[]⟩) := (blk_cell K10 3).trans rfl
  have y4 : W9.cell? ⟨B, 4, none⟩ = some (.int .i64 0) := (blk_cell K10 4).trans rfl
  refine bodyPost_ret (v := .tuple #[zeroV, .int .i64 111, .int .i64 0]) (by simp [results, Tryz.results11, go_sem, y0, y1, y2, y3, y4, zeroV, feedV]) rfl ?_
  exact ⟨by rw [hr.out], B10⟩
end Go.Proofs.YtbecemdehelooaaGreatDoor.FeedDg
