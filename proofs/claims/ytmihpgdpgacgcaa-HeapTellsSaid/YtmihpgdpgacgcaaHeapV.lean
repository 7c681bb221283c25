/- The laws' first calls, whose answers are fixed. -/
import Derived.Test.YtmihpgdpgacgcaaHeapU
namespace Go.Proofs.Ytmihpgdpgacgcaa.HeapC
open Go.RowKit Go.Proofs.Ytmihpgdpgacgcaa.HeapT Go.Proofs.Ytmihpgdpgacgcaa.HeapM Go.Proofs.YtmihpgdpgacgcaaW.PrintWords Go.Proofs.YtmihpgdpgacgcaaW.PrintLast Go.Proofs.YtmihpgdpgacgcaaW.PrintMore
set_option linter.unusedVariables false
set_option linter.unusedSimpArgs false

theorem most_is {C : Int → Option Int} {k p k0 p0 : Int} (h : Most C k p) (h0 : C k0 = some p0) (hm : ∀ k' p', C k' = some p' → ¬ (k' = k0 ∧ p' = p0) → Ahead (k0, p0) (k', p')) : k = k0 ∧ p = p0 := by
  by_cases e : k = k0 ∧ p = p0
  · exact e
  · exact absurd (hm k p h.1 e) (h.2 k0 p0 h0)

def aw3 : Int → Option Int := upd (upd (upd (fun _ => none) 3 (some 5)) 1 (some 7)) 2 (some 7)
theorem aw3_most {k p : Int} (h : Most aw3 k p) : k = 1 ∧ p = 7 := by
  refine most_is h (by simp [aw3, upd]) fun k' p' e n => ?_
  unfold aw3 upd at e
  unfold Ahead
  repeat' split at e
  all_goals first | (injection e with e; simp at *; omega) | exact absurd e (by simp)

theorem aw4_most {k p : Int} (h : Most (upd aw3 1 none) k p) : k = 2 ∧ p = 7 := by
  refine most_is h (by simp [aw3, upd]) fun k' p' e n => ?_
  unfold aw3 upd at e
  unfold Ahead
  repeat' split at e
  all_goals first | (injection e with e; simp at *; omega) | exact absurd e (by simp)

set_option maxHeartbeats 4000000 in
theorem awake_calls (w : World) : Calls Try.prog 9 #[] w fun e w' => e = .returned (.bool true) ∧ Below w.heap.size w w' := by
  go_enter Try.func9, Try.ntmps9
  go_wp2_with fail
  refine (held_new 3 w (by decide) (by decide) (fun k => k < w.heap.size) (fun _ e => e)).mono ?_
  rintro e w1 ⟨g, rfl, H1, K1⟩
  go_wp2_with fail
  refine (H1.push_ok (by decide) (by decide) 3 5 (by decide) rfl (by decide)).mono ?_
  rintro e w2 ⟨rfl, H2, K2⟩
  go_wp2_with fail
  refine (H2.push_ok (by decide) (by decide) 1 7 (by decide) rfl (by decide)).mono ?_
  rintro e w3 ⟨rfl, H3, K3⟩
  go_wp2_with fail
  refine (H3.push_ok (by decide) (by decide) 2 7 (by decide) rfl (by decide)).mono ?_
  rintro e w4 ⟨rfl, H4, K4⟩
  go_wp2_with fail
  refine (H4.push_there 2 9 (by decide) (by simp [upd])).mono ?_
  rintro e w5 ⟨rfl, rfl⟩
  go_wp2_with fail
  refine (H4.push_full 4 9 (by decide) (by simp [upd]) (by decide)).mono ?_
  rintro e w6 ⟨rfl, B6⟩
  have H6 := H4.below B6
  have K6 : Kept w w6 (fun k => k < w.heap.size) := (((K1.trans K2).trans K3).trans K4).trans (Kept.of_below B6)
  obtain ⟨k7, p7, m7, -, P7⟩ := H6.pop_some (by decide) (by decide) (by decide)
  obtain ⟨rfl, rfl⟩ := aw3_most m7
  have K6' := Aside0.mk K6
  have P7' := Lib.hid P7
  clear H1 H2 H3 H4 K1 K2 K3 K4 B6 H6 m7 P7 K6
  go_wp2_with fail
  refine P7'.out.mono ?_
  rintro e w7 ⟨rfl, H7, K7⟩
  have K7' := Aside0.mk (K6'.out.trans K7)
  obtain ⟨W8, hW8⟩ : ∃ W8, W8 = w7.alloc (.cells #[.int .i64 1, .int .i64 7] 36) := ⟨_, rfl⟩
  have bX := HeapM.blk_new w7 (.cells #[.int .i64 1, .int .i64 7] 36 (0, 0))
  have B8 : Below w7.heap.size w7 W8 := by rw [hW8]; apply below_alloc; exact Below.refl _ _
  have H8 := H7.below B8
  have K8 := Aside0.mk (K7'.out.trans (Kept.of_below B8))
  obtain ⟨k9, p9, m9, -, P9⟩ := H8.top_some (by decide)
  obtain ⟨rfl, rfl⟩ := aw4_most m9
  have P9' := Lib.hid P9
  have bX' : Aside0 (W8.heap[w7.heap.size]? = some (.cells #[.int .i64 1, .int .i64 7] 36 (0, 0))) := ⟨by rw [hW8]; exact bX⟩
  have hW8' := Aside0.mk hW8
  have H8' := Aside0.mk H8
  clear H7 K7 P7' bX B8 H8 m9 P9 hW8
  go_wp2_with fail
  rw [← hW8'.out]
  refine P9'.out.mono ?_
  rintro e w9 ⟨rfl, B9⟩
  obtain ⟨W10, hW10⟩ : ∃ W10, W10 = w9.alloc (.cells #[.int .i64 2, .int .i64 7] 36) := ⟨_, rfl⟩
  have B10 : Below w9.heap.size w9 W10 := by rw [hW10]; apply below_alloc; exact Below.refl _ _
  have bX9 := HeapM.blk_alloc ((B9.block _ (HeapM.blk_lt bX'.out)).trans bX'.out) (.cells #[.int .i64 2, .int .i64 7] 36 (0, 0))
  have bY9 := HeapM.blk_new w9 (.cells #[.int .i64 2, .int .i64 7] 36 (0, 0))
  rw [show w9.alloc (.cells #[.int .i64 2, .int .i64 7] 36 (0, 0)) = W10 from hW10.symm] at bX9 bY9
  have H10 := (H8'.out.below B9).below B10
  have K10 := Aside0.mk ((K8.out.trans (Kept.of_below B9)).trans (Kept.of_below B10))
  have bX9' := Aside0.mk bX9
  have bY9' := Aside0.mk bY9
  have H10' := Aside0.mk H10
  have hW10' := Aside0.mk hW10
  clear B9 B10 bX9 bY9 H10 hW10
  go_wp2_with fail
  rw [← hW10'.out]
  refine (show Calls Try.prog _ _ W10 (fun e w' => e = .returned (.tuple #[.int .i64 5, .bool true]) ∧ W10 = w') from H10'.out.prio 3 (by decide)).mono ?_
  rintro e w11 ⟨rfl, rfl⟩
  obtain ⟨X, hX⟩ : ∃ X, X = w7.heap.size := ⟨_, rfl⟩
  obtain ⟨Y, hY⟩ : ∃ Y, Y = w9.heap.size := ⟨_, rfl⟩
  rw [← hX] at bX9'
  rw [← hY] at bY9'
  rw [← hX, ← hY]
  have cX0 : W10.cell? ⟨X, 0, none⟩ = some (.int .i64 1) := (HeapM.blk_cell bX9'.out 0).trans rfl
  have cX1 : W10.cell? ⟨X, 1, none⟩ = some (.int .i64 7) := (HeapM.blk_cell bX9'.out 1).trans rfl
  have cY0 : W10.cell? ⟨Y, 0, none⟩ = some (.int .i64 2) := (HeapM.blk_cell bY9'.out 0).trans rfl
  clear hX hY
  go_wp2_with fail
  refine (H10'.out.len).mono ?_
  rintro e w12 ⟨rfl, rfl⟩
  go_wp2_with fail
  refine (H10'.out.change_some (by decide) (by decide) 3 8 (by decide) (by simp [upd])).mono ?_
  rintro e w13 ⟨rfl, H13, K13⟩
  have K13' := Aside0.mk (K10.out.trans K13)
  clear K13 cX0 cX1 cY0
  go_wp2_with fail
  refine (H13.remove_some (by decide) (by decide) 2 (by decide) (by simp [upd])).mono ?_
  rintro e w14 ⟨rfl, -, H14, K14⟩
  have K14' := Aside0.mk (K13'.out.trans K14)
  clear K14 H13
  go_wp2_with fail
  refine (H14.remove_none 2 (by decide) (by simp [upd])).mono ?_
  rintro e w15 ⟨rfl, rfl⟩
  go_wp2_with fail
  refine (new_nil 0 w14 (by decide)).mono ?_
  rintro e w16 ⟨rfl, B16⟩
  have H16 := H14.below B16
  have K16 := Aside0.mk (K14'.out.trans (Kept.of_below B16))
  clear H14 B16
  go_wp2_with fail
  refine (H16.all (by decide)).mono ?_
  rintro e w17 ⟨v, ys, rfl, S17, L17, R17, B17⟩
  have K17 := Aside0.mk (K16.out.trans (Kept.of_below B17))
  obtain ⟨a, cap, rfl⟩ : ∃ a cap, v = .slice a 1 cap := by
    rcases R17.2 with ⟨h1, h2⟩ | ⟨r, cap, cur, h1, _⟩
    · exact absurd h2 (by decide)
    · exact ⟨_, _, h1⟩
  clear H16 S17 L17 R17 B17
  go_wp2_with fail
  go_ret
  exact ⟨rfl, K17.out.below (Nat.le_refl _) (fun _ e => e)⟩
end Go.Proofs.Ytmihpgdpgacgcaa.HeapC
