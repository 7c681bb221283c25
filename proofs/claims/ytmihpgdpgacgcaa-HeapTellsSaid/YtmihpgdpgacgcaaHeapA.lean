/- Lists of items that are only read; Same, count; HeapKeeps' walk. -/
import Derived.Test.YtmihpgdpgacgcaaHeapY
namespace Go.Proofs.Ytmihpgdpgacgcaa.HeapC
open Go.RowKit Go.Proofs.Ytmihpgdpgacgcaa.HeapT Go.Proofs.Ytmihpgdpgacgcaa.HeapM Go.Proofs.YtmihpgdpgacgcaaW.PrintWords Go.Proofs.YtmihpgdpgacgcaaW.PrintLast Go.Proofs.YtmihpgdpgacgcaaW.PrintMore
set_option linter.unusedVariables false
set_option linter.unusedSimpArgs false

/-- A slice of the items ys, in blocks of D. -/
def Its (w : World) (D : Nat → Prop) (v : Value) (ys : List Itm) : Prop :=
  ∃ a cap, v = .slice a ys.length cap ∧ ys.length ≤ maxLen ∧ ∀ i, i < ys.length → ∃ b, a = some ⟨b, 0, none⟩ ∧ D b ∧ b < w.heap.size ∧ w.cell? ⟨b, i * 2, none⟩ = some (.int .i64 (it ys i).1) ∧ w.cell? ⟨b, i * 2 + 1, none⟩ = some (.int .i64 (it ys i).2)
theorem Its.kept {w w' : World} {D : Nat → Prop} {v : Value} {ys : List Itm} (h : Its w D v ys) (k : Kept w w' D) : Its w' D v ys := by
  obtain ⟨a, cap, h1, h2, h3⟩ := h
  refine ⟨a, cap, h1, h2, fun i hi => ?_⟩
  obtain ⟨b, e1, e2, e3, e4, e5⟩ := h3 i hi
  exact ⟨b, e1, e2, Nat.lt_of_lt_of_le e3 k.size, (k.cell e3 e2 _).trans e4, (k.cell e3 e2 _).trans e5⟩
theorem Its.mono {w : World} {D D' : Nat → Prop} {v : Value} {ys : List Itm} (h : Its w D v ys) (k : ∀ b, D b → D' b) : Its w D' v ys := by
  obtain ⟨a, cap, h1, h2, h3⟩ := h
  refine ⟨a, cap, h1, h2, fun i hi => ?_⟩
  obtain ⟨b, e1, e2, e3, e4, e5⟩ := h3 i hi
  exact ⟨b, e1, k b e2, e3, e4, e5⟩
theorem its_of {w : World} {base n : Nat} {v : Value} {ys : List Itm} (h : w.ownsRow base 36 2 v n (cellsL ys)) (hl : ys.length = n) (hm : n ≤ maxLen) : Its w (fun k => v.ownBlock = some k) v ys := by
  obtain ⟨-, ⟨rfl, rfl⟩ | ⟨g, cap, cur, rfl, hg, hb, h1, h2, h3, h4⟩⟩ := h
  · refine ⟨none, 0, by rw [hl], by omega, fun i hi => by omega⟩
  · refine ⟨_, cap, by rw [hl], by omega, fun i hi => ⟨g, rfl, rfl, HeapM.blk_lt hb, ?_, ?_⟩⟩
    · exact (HeapM.blk_cell hb _).trans (cur_get (by rw [hl]; exact h4) i hi).1
    · exact (HeapM.blk_cell hb _).trans (cur_get (by rw [hl]; exact h4) i hi).2
section
variable {w : World} {g : Nat} {C : Int → Option Int} {most : Int} {n N : Nat} {D : Nat → Prop}
theorem Held.all_its (h : Held w g C most n N D) (hn : n ≤ 1000000) :
    Calls Try.prog 27 #[.pointer (some ⟨g, 0, none⟩)] w fun e w' => ∃ v ys D', e = .returned v ∧ SortedOf C ys ∧ ys.length = n ∧ Its w' D' v ys ∧ Held w' g C most n N D' ∧ (∀ k, D k → D' k) ∧ Kept w w' D := by
  refine (h.all hn).mono ?_
  rintro e w' ⟨v, ys, rfl, S, hl, ho, B⟩
  obtain ⟨F, h1, h2, h3⟩ := h
  refine ⟨v, ys, fun k => D k ∨ v.ownBlock = some k, rfl, S, hl, (its_of ho hl (by have : (1000000 : Nat) ≤ maxLen := by decide
                                                                                   omega)).mono (fun b e => .inr e), ⟨F, h1.below B, ?_, ?_⟩, fun k e => .inl e, Kept.of_below B⟩
  · rintro k f (d | d)
    · exact h2 k f d
    · have := h1.lt k f
      have := (ho.lt k d).1
      omega
  · rintro k (d | d)
    · exact Nat.lt_of_lt_of_le (h3 k d) B.size
    · exact (ho.lt k d).2
end

theorem count_true (w : World) : Calls Try.prog 29 #[.bool true] w fun e w' => e = .returned (.int .i64 1) ∧ w = w' := by
  go_enter Try.func29, Try.ntmps29
  go_wp2
  go_returns
  exact ⟨rfl, rfl⟩
theorem count_false (w : World) : Calls Try.prog 29 #[.bool false] w fun e w' => e = .returned (.int .i64 0) ∧ w = w' := by
  go_enter Try.func29, Try.ntmps29
  go_wp2
  go_returns
  exact ⟨rfl, rfl⟩
set_option maxHeartbeats 1000000 in
theorem same_calls (w : World) (D D' : Nat → Prop) (u v : Value) (ys : List Itm) (hu : Its w D u ys) (hv : Its w D' v ys) (hl : ys.length ≤ 1000000) :
    Calls Try.prog 26 #[u, v] w fun e w' => e = .returned (.bool true) ∧ Below w.heap.size w w' := by
  obtain ⟨a, cap, rfl, -, h1⟩ := hu
  obtain ⟨b, cap2, rfl, -, h2⟩ := hv
  obtain ⟨n, hn⟩ : ∃ n, ys.length = n := ⟨_, rfl⟩
  have h1' := Aside0.mk h1
  have h2' := Aside0.mk h2
  rw [hn] at h1' h2' hl ⊢
  have HB := Aside0.mk (Below.refl w.heap.size w)
  clear h1 h2 hn
  go_enter Try.func26, Try.ntmps26
  go_wp2_with fail
  go_loopw [5] (fun vi wr => ∃ (i : Nat), vi = .int .i64 i ∧ i ≤ n ∧ Aside0 (Below w.heap.size w wr)) (fun vi _ => n - (intOf vi).toNat)
  case atStart => exact ⟨0, rfl, by omega, HB⟩
  case round =>
    obtain ⟨i, rfl, hin, HK⟩ := hrel
    by_cases hlt : i < n
    · have hw1 : wrap64 ((i : Int) + 1) = i + 1 := by unfold wrap64; omega
      obtain ⟨g1, rfl, -, l1, c1, c2⟩ := h1'.out i hlt
      obtain ⟨g2, rfl, -, l2, c3, c4⟩ := h2'.out i hlt
      have d1 := (HK.out.cell (p := ⟨g1, i * 2, none⟩) l1).trans c1
      have d2 := (HK.out.cell (p := ⟨g1, i * 2 + 1, none⟩) l1).trans c2
      have d3 := (HK.out.cell (p := ⟨g2, i * 2, none⟩) l2).trans c3
      have d4 := (HK.out.cell (p := ⟨g2, i * 2 + 1, none⟩) l2).trans c4
      obtain ⟨x, hx⟩ : ∃ x, (it ys i).1 = x := ⟨_, rfl⟩
      obtain ⟨y, hy⟩ : ∃ y, (it ys i).2 = y := ⟨_, rfl⟩
      rw [hx] at d1 d3
      rw [hy] at d2 d4
      clear c1 c2 c3 c4 hx hy
      have H9 := Aside0.mk (HK.out.mono (Nat.le_refl _))
      go_wp2_with fail
      refine start_ (n := 9) (S := fun w' => w'.cell? ⟨g1, i * 2, none⟩ = some (.int .i64 x) ∧ w'.cell? ⟨g1, i * 2 + 1, none⟩ = some (.int .i64 y) ∧ w'.cell? ⟨g2, i * 2, none⟩ = some (.int .i64 x) ∧ w'.cell? ⟨g2, i * 2 + 1, none⟩ = some (.int .i64 y) ∧ Below w.heap.size w w') (ds := []) #[false, false, false, false, false, false, false, false, false] (by kernel_rfl) rfl rfl ⟨d1, d2, d3, d4, (by apply below_drew1; exact HK.out)⟩ (fun hHeld => ?_)
      refine pure_ (i := 0) (N := some 17) (v := ?_) (a' := ?_) #[true, false, false, false, false, false, false, false, false] rfl rfl (by kernel_rfl) (fun _ _ _ h => h) (Or.inl ⟨by rfl, ?_⟩) ?_ ?_
      rotate_left
      · intro w'
        go_simp
        with_reducible rfl
      rotate_left
      · simp only [Act.put, List.setIfInBounds_toArray, List.set_cons_zero, List.set_cons_succ, i64_w, i32_w]
        rfl
      refine pure_ (i := 1) (N := some 18) (v := ?_) (a' := ?_) #[true, true, false, false, false, false, false, false, false] rfl rfl (by kernel_rfl) (fun _ _ _ h => h) (Or.inl ⟨by rfl, ?_⟩) ?_ ?_
      rotate_left
      · intro w'
        go_simp
        with_reducible rfl
      rotate_left
      · simp only [Act.put, List.setIfInBounds_toArray, List.set_cons_zero, List.set_cons_succ, i64_w, i32_w]
        rfl
      refine pure_ (i := 2) (N := some 19) (v := ?_) (a' := ?_) #[true, true, true, false, false, false, false, false, false] rfl rfl (by kernel_rfl) (fun _ _ _ h => h) (Or.inl ⟨by rfl, ?_⟩) ?_ ?_
      rotate_left
      · intro w'
        go_simp
        with_reducible rfl
      rotate_left
      · simp only [Act.put, List.setIfInBounds_toArray, List.set_cons_zero, List.set_cons_succ, i64_w, i32_w]
        rfl
      refine pure_ (i := 4) (N := some 21) (v := ?_) (a' := ?_) #[true, true, true, false, true, false, false, false, false] rfl rfl (by kernel_rfl) (fun _ _ _ h => h) (Or.inl ⟨by rfl, ?_⟩) ?_ ?_
      rotate_left
      · intro w'
        go_simp
        with_reducible rfl
      rotate_left
      · simp only [Act.put, List.setIfInBounds_toArray, List.set_cons_zero, List.set_cons_succ, i64_w, i32_w]
        rfl
      refine pure_ (i := 5) (N := some 22) (v := ?_) (a' := ?_) #[true, true, true, false, true, true, false, false, false] rfl rfl (by kernel_rfl) (fun _ _ _ h => h) (Or.inl ⟨by rfl, ?_⟩) ?_ ?_
      rotate_left
      · intro w'
        go_simp
        with_reducible rfl
      rotate_left
      · simp only [Act.put, List.setIfInBounds_toArray, List.set_cons_zero, List.set_cons_succ, i64_w, i32_w]
        rfl
      refine pure_ (i := 6) (N := some 23) (v := ?_) (a' := ?_) #[true, true, true, false, true, true, true, false, false] rfl rfl (by kernel_rfl) (fun _ _ _ h => h) (Or.inl ⟨by rfl, ?_⟩) ?_ ?_
      rotate_left
      · intro w'
        go_simp
        with_reducible rfl
      rotate_left
      · simp only [Act.put, List.setIfInBounds_toArray, List.set_cons_zero, List.set_cons_succ, i64_w, i32_w]
        rfl
      refine take_ (i := 3) (N := some 20) (v := ?_) (a' := ?_) #[true, true, true, true, true, true, true, false, false] rfl rfl (by kernel_rfl) (fun _ _ _ h => h) (Or.inl ⟨by rfl, ?_⟩) hHeld ?_ ?_
      rotate_left
      · rintro w' ⟨s0, s1, s2, s3, s4⟩
        go_simp
        with_reducible rfl
      rotate_left
      · simp only [Act.put, List.setIfInBounds_toArray, List.set_cons_zero, List.set_cons_succ, i64_w, i32_w]
        rfl
      refine take_ (i := 7) (N := some 24) (v := ?_) (a' := ?_) #[true, true, true, true, true, true, true, true, false] rfl rfl (by kernel_rfl) (fun _ _ _ h => h) (Or.inl ⟨by rfl, ?_⟩) hHeld ?_ ?_
      rotate_left
      · rintro w' ⟨s0, s1, s2, s3, s4⟩
        go_simp
        with_reducible rfl
      rotate_left
      · simp only [Act.put, List.setIfInBounds_toArray, List.set_cons_zero, List.set_cons_succ, i64_w, i32_w]
        rfl
      refine pure_ (i := 8) (N := some 25) (v := ?_) (a' := ?_) #[true, true, true, true, true, true, true, true, true] rfl rfl (by kernel_rfl) (fun _ _ _ h => h) (Or.inl ⟨by rfl, ?_⟩) ?_ ?_
      rotate_left
      · intro w'
        go_simp
        with_reducible rfl
      rotate_left
      · simp only [Act.put, List.setIfInBounds_toArray, List.set_cons_zero, List.set_cons_succ, i64_w, i32_w]
        rfl
      refine done_ (by kernel_rfl) ?_

      have H10 := Aside0.mk hHeld.2.2.2.2
      clear hHeld d1 d2 d3 d4
      go_wp2
      go_roundw
      case rel => exact ⟨i + 1, by go_num, by omega, H10⟩
      case measure => simp only [intOf]; omega
    · obtain rfl : i = n := by omega
      go_wp2_with fail
      go_ret
      exact ⟨rfl, HK.out⟩
end Go.Proofs.Ytmihpgdpgacgcaa.HeapC
