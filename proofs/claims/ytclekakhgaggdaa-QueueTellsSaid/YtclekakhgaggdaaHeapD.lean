/- What a rise and a fall do to the heap in memory. -/
import Derived.Test.YtclekakhgaggdaaHeapC
namespace Go.Proofs.Ytclekakhgaggdaa.HeapC
open Go.RowKit Go.Proofs.Ytclekakhgaggdaa.HeapT Go.Proofs.Ytclekakhgaggdaa.HeapM Go.Proofs.YtclekakhgaggdaaW.PrintWords Go.Proofs.YtclekakhgaggdaaW.PrintLast Go.Proofs.YtclekakhgaggdaaW.PrintMore
set_option linter.unusedVariables false
set_option linter.unusedSimpArgs false
set_option maxHeartbeats 400000 in
theorem ahead_calls (a0 a1 b0 b1 : Int) (w : World) : Calls Try.prog 55 #[.agg #[.int .i64 a0, .int .i64 a1], .agg #[.int .i64 b0, .int .i64 b1]] w fun e w' => e = .returned (.bool (decide (Ahead (a0, a1) (b0, b1)))) ∧ Below w.heap.size w w' := by
  have HB := Aside0.mk (Below.refl w.heap.size w)
  by_cases h1 : b1 < a1
  · have H := Lib.hid (show decide (Ahead (a0, a1) (b0, b1)) = true by simp [Ahead, h1])
    have d1 : decide (b1 < a1) = true := decide_eq_true h1
    clear h1
    go_enter Try.func55, Try.ntmps55
    go_wp2
    go_returns
    exact ⟨by rw [H.out]; rfl, by repeat (with_reducible first | exact HB.out | apply below_alloc | apply pw_below_drewN | apply below_drew1)⟩
  · have d1 : decide (b1 < a1) = false := decide_eq_false h1
    by_cases h2 : a1 = b1
    · subst h2
      have d2 : ((a1 : Int) == a1) = true := by simp
      by_cases h3 : a0 < b0
      · have H := Lib.hid (show decide (Ahead (a0, a1) (b0, a1)) = true by simp [Ahead, h3])
        have d3 : decide (a0 < b0) = true := decide_eq_true h3
        clear h1 h3
        go_enter Try.func55, Try.ntmps55
        go_wp2
        go_returns
        exact ⟨by rw [H.out]; rfl, by repeat (with_reducible first | exact HB.out | apply below_alloc | apply pw_below_drewN | apply below_drew1)⟩
      · have H := Lib.hid (show decide (Ahead (a0, a1) (b0, a1)) = false by simp [Ahead, h3])
        have d3 : decide (a0 < b0) = false := decide_eq_false h3
        clear h1 h3
        go_enter Try.func55, Try.ntmps55
        go_wp2
        go_returns
        exact ⟨by rw [H.out]; rfl, by repeat (with_reducible first | exact HB.out | apply below_alloc | apply pw_below_drewN | apply below_drew1)⟩
    · have H := Lib.hid (show decide (Ahead (a0, a1) (b0, b1)) = false by simp [Ahead, h1, h2])
      have d2 : ((a1 : Int) == b1) = false := by simp [h2]
      clear h1 h2
      go_enter Try.func55, Try.ntmps55
      go_wp2
      go_returns
      exact ⟨by rw [H.out]; rfl, by repeat (with_reducible first | exact HB.out | apply below_alloc | apply pw_below_drewN | apply below_drew1)⟩

/-- What stands behind a rise, or a fall. -/
structure Turned (w w' : World) (g mb : Nat) (v : Value) (xs : List Itm) (M : Int → Option Nat) (most : Int) (N : Nat) (xs' : List Itm) (M' : Int → Option Nat) (N' : Nat) : Prop where
  mem : HMem w' g mb v xs' M' most N'
  chg : Chg w w' (OwnB v mb)
  len : xs'.length = xs.length
  pl : Places M' xs'
  co : Cont M' xs' = Cont M xs
  wf : ∀ q, q < xs'.length → (Lit.int .i64 (it xs' q).1).wf = true

theorem swp_wf {xs : List Itm} (h : ∀ q, q < xs.length → (Lit.int .i64 (it xs q).1).wf = true) {i j : Nat} (hi : i < xs.length) (hj : j < xs.length) : ∀ q, q < (swp xs i j).length → (Lit.int .i64 (it (swp xs i j) q).1).wf = true := by
  intro q hq
  rw [length_swp] at hq
  rw [it_swp _ _ _ _ hi hj]
  split
  · exact h i hi
  · split
    · exact h j hj
    · exact h q hq

theorem Turned.swap {w w1 w2 : World} {g mb : Nat} {v : Value} {xs xs' : List Itm} {M M' : Int → Option Nat} {most : Int} {N N' : Nat} (h : Turned w w1 g mb v xs M most N xs' M' N') {i j : Nat} (hi : i < xs'.length) (hj : j < xs'.length)
    (c : Chg w1 w2 (OwnB v mb)) (m : HMem w2 g mb v (swp xs' i j) (upd (upd M' (it xs' j).1 (some i)) (it xs' i).1 (some j)) most (N' + 2)) :
    Turned w w2 g mb v xs M most N (swp xs' i j) (upd (upd M' (it xs' j).1 (some i)) (it xs' i).1 (some j)) (N' + 2) :=
  ⟨m, h.chg.trans c (fun _ e => .inl e), by rw [length_swp]; exact h.len, places_swp h.pl hi hj, (cont_swp h.pl hi hj).trans h.co, swp_wf h.wf hi hj⟩
theorem Turned.keep {w w1 w2 : World} {g mb : Nat} {v : Value} {xs xs' : List Itm} {M M' : Int → Option Nat} {most : Int} {N N' : Nat} (h : Turned w w1 g mb v xs M most N xs' M' N') (b : Below w1.heap.size w1 w2) :
    Turned w w2 g mb v xs M most N xs' M' N' :=
  ⟨h.mem.keep (Chg.of_below b (fun _ => False)) (fun _ e => e.elim), h.chg.trans (Chg.of_below b (fun _ => False)) (fun _ e => e.elim), h.len, h.pl, h.co, h.wf⟩

set_option maxHeartbeats 2000000 in
theorem up_calls (w : World) (g mb : Nat) (v : Value) (xs : List Itm) (M : Int → Option Nat) (most : Int) (N : Nat) (h : HMem w g mb v xs M most N) (hN : N < 4000000000000000000)
    (i : Int) (hi : 0 ≤ i) (hin : i < xs.length) (hle : xs.length ≤ 1000000) (hwf : ∀ q, q < xs.length → (Lit.int .i64 (it xs q).1).wf = true) (hp : Places M xs) (he : Exc xs i.toNat) :
    Calls Try.prog 40 #[.pointer (some ⟨g, 0, none⟩), .int .i64 i] w fun e w' =>
      e = .returned (.tuple #[]) ∧ ∃ xs' M' N', Turned w w' g mb v xs M most N xs' M' N' ∧ N' ≤ N + 2000000 ∧ ((xs' = xs ∧ M' = M ∧ DownI xs i.toNat) ∨ Heaped xs') := by
  obtain ⟨j0, rfl⟩ := Int.eq_ofNat_of_zero_le hi
  rw [Int.toNat_natCast] at he ⊢
  have T0 := Aside0.mk (show Turned w w g mb v xs M most N xs M N from ⟨h, Chg.refl _ _, rfl, hp, rfl, hwf⟩)
  have he' := Aside0.mk he
  clear h hwf hp he
  go_enter Try.func40, Try.ntmps40
  go_wp2
  go_loopw [1] (fun vi wr => ∃ (j : Nat) (xs' : List Itm) (M' : Int → Option Nat) (N' : Nat), vi = .int .i64 j ∧ j ≤ j0 ∧ Aside0 (N' + 2 * j ≤ N + 2 * j0) ∧ Aside0 (Turned w wr g mb v xs M most N xs' M' N') ∧ Aside0 ((xs' = xs ∧ M' = M ∧ j = j0) ∨ UpI xs' j)) (fun vi _ => (intOf vi).toNat)
  case atStart => exact ⟨j0, xs, M, N, rfl, Nat.le_refl _, ⟨Nat.le_refl _⟩, T0, ⟨.inl ⟨rfl, rfl, rfl⟩⟩⟩
  case round =>
    obtain ⟨j, xs', M', N', rfl, hj, hb, T, U⟩ := hrel
    have hE : Exc xs' j := by
      rcases U.out with ⟨e1, _, e2⟩ | u
      · rw [e1, e2]; exact he'.out
      · exact u.1
    have hE' := Aside0.mk hE
    clear hE
    have hjl : j < xs'.length := by have := T.out.len; omega
    by_cases hz : j = 0
    · subst hz
      have z1 : decide ((0 : Int) < 0) = false := by decide
      go_wp2_with fail
      refine start_ (n := 21) (S := fun w' => True) (ds := []) #[false, false, false, false, false, false, false, false, false, false, false, false, false, false, false, false, false, false, false, false, false] (by kernel_rfl) rfl rfl trivial (fun hHeld => ?_)
      refine pure_ (i := 0) (N := some 4) (v := ?_) (a' := ?_) #[true, false, false, false, false, false, false, false, false, false, false, false, false, false, false, false, false, false, false, false, false] rfl rfl (by kernel_rfl) (fun _ _ _ h => h) (Or.inl ⟨by rfl, ?_⟩) ?_ ?_
      rotate_left
      · intro w'
        go_simp
        with_reducible rfl
      rotate_left
      · simp only [Act.put, List.setIfInBounds_toArray, List.set_cons_zero, List.set_cons_succ, i64_w, i32_w]
        rfl
      refine pure_ (i := 1) (N := some 5) (v := ?_) (a' := ?_) #[true, true, false, false, false, false, false, false, false, false, false, false, false, false, false, false, false, false, false, false, false] rfl rfl (by kernel_rfl) (fun _ _ _ h => h) (Or.inl ⟨by rfl, ?_⟩) ?_ ?_
      rotate_left
      · intro w'
        go_simp
        with_reducible rfl
      rotate_left
      · simp only [Act.put, List.setIfInBounds_toArray, List.set_cons_zero, List.set_cons_succ, i64_w, i32_w]
        rfl
      refine pure_ (i := 2) (N := some 6) (v := ?_) (a' := ?_) #[true, true, true, false, false, false, false, false, false, false, false, false, false, false, false, false, false, false, false, false, false] rfl rfl (by kernel_rfl) (fun _ _ _ h => h) (Or.inl ⟨by rfl, ?_⟩) ?_ ?_
      rotate_left
      · intro w'
        go_simp
        with_reducible rfl
      rotate_left
      · simp only [Act.put, List.setIfInBounds_toArray, List.set_cons_zero, List.set_cons_succ, i64_w, i32_w]
        rfl
      refine pure_ (i := 3) (N := some 7) (v := undef) (a' := ?_) #[true, true, true, true, false, false, false, false, false, false, false, false, false, false, false, false, false, false, false, false, false] rfl rfl (by kernel_rfl) (fun _ _ _ h => h) (Or.inr ⟨by rfl, rfl⟩) ?_ ?_
      rotate_left
      · simp only [Act.put, List.setIfInBounds_toArray, List.set_cons_zero, List.set_cons_succ, i64_w, i32_w]
        rfl
      refine pure_ (i := 4) (N := some 8) (v := undef) (a' := ?_) #[true, true, true, true, true, false, false, false, false, false, false, false, false, false, false, false, false, false, false, false, false] rfl rfl (by kernel_rfl) (fun _ _ _ h => h) (Or.inr ⟨by rfl, rfl⟩) ?_ ?_
      rotate_left
      · simp only [Act.put, List.setIfInBounds_toArray, List.set_cons_zero, List.set_cons_succ, i64_w, i32_w]
        rfl
      refine pure_ (i := 5) (N := some 9) (v := undef) (a' := ?_) #[true, true, true, true, true, true, false, false, false, false, false, false, false, false, false, false, false, false, false, false, false] rfl rfl (by kernel_rfl) (fun _ _ _ h => h) (Or.inr ⟨by rfl, rfl⟩) ?_ ?_
      rotate_left
      · simp only [Act.put, List.setIfInBounds_toArray, List.set_cons_zero, List.set_cons_succ, i64_w, i32_w]
        rfl
      refine pure_ (i := 6) (N := some 10) (v := undef) (a' := ?_) #[true, true, true, true, true, true, true, false, false, false, false, false, false, false, false, false, false, false, false, false, false] rfl rfl (by kernel_rfl) (fun _ _ _ h => h) (Or.inr ⟨by rfl, rfl⟩) ?_ ?_
      rotate_left
      · simp only [Act.put, List.setIfInBounds_toArray, List.set_cons_zero, List.set_cons_succ, i64_w, i32_w]
        rfl
      refine pure_ (i := 7) (N := some 11) (v := undef) (a' := ?_) #[true, true, true, true, true, true, true, true, false, false, false, false, false, false, false, false, false, false, false, false, false] rfl rfl (by kernel_rfl) (fun _ _ _ h => h) (Or.inr ⟨by rfl, rfl⟩) ?_ ?_
      rotate_left
      · simp only [Act.put, List.setIfInBounds_toArray, List.set_cons_zero, List.set_cons_succ, i64_w, i32_w]
        rfl
      refine pure_ (i := 8) (N := some 12) (v := undef) (a' := ?_) #[true, true, true, true, true, true, true, true, true, false, false, false, false, false, false, false, false, false, false, false, false] rfl rfl (by kernel_rfl) (fun _ _ _ h => h) (Or.inr ⟨by rfl, rfl⟩) ?_ ?_
      rotate_left
      · simp only [Act.put, List.setIfInBounds_toArray, List.set_cons_zero, List.set_cons_succ, i64_w, i32_w]
        rfl
      refine pure_ (i := 9) (N := some 13) (v := undef) (a' := ?_) #[true, true, true, true, true, true, true, true, true, true, false, false, false, false, false, false, false, false, false, false, false] rfl rfl (by kernel_rfl) (fun _ _ _ h => h) (Or.inr ⟨by rfl, rfl⟩) ?_ ?_
      rotate_left
      · simp only [Act.put, List.setIfInBounds_toArray, List.set_cons_zero, List.set_cons_succ, i64_w, i32_w]
        rfl
      refine pure_ (i := 10) (N := some 14) (v := undef) (a' := ?_) #[true, true, true, true, true, true, true, true, true, true, true, false, false, false, false, false, false, false, false, false, false] rfl rfl (by kernel_rfl) (fun _ _ _ h => h) (Or.inr ⟨by rfl, rfl⟩) ?_ ?_
      rotate_left
      · simp only [Act.put, List.setIfInBounds_toArray, List.set_cons_zero, List.set_cons_succ, i64_w, i32_w]
        rfl
      refine pure_ (i := 11) (N := some 15) (v := undef) (a' := ?_) #[true, true, true, true, true, true, true, true, true, true, true, true, false, false, false, false, false, false, false, false, false] rfl rfl (by kernel_rfl) (fun _ _ _ h => h) (Or.inr ⟨by rfl, rfl⟩) ?_ ?_
      rotate_left
      · simp only [Act.put, List.setIfInBounds_toArray, List.set_cons_zero, List.set_cons_succ, i64_w, i32_w]
        rfl
      refine pure_ (i := 12) (N := some 16) (v := undef) (a' := ?_) #[true, true, true, true, true, true, true, true, true, true, true, true, true, false, false, false, false, false, false, false, false] rfl rfl (by kernel_rfl) (fun _ _ _ h => h) (Or.inr ⟨by rfl, rfl⟩) ?_ ?_
      rotate_left
      · simp only [Act.put, List.setIfInBounds_toArray, List.set_cons_zero, List.set_cons_succ, i64_w, i32_w]
        rfl
      refine pure_ (i := 13) (N := some 17) (v := undef) (a' := ?_) #[true, true, true, true, true, true, true, true, true, true, true, true, true, true, false, false, false, false, false, false, false] rfl rfl (by kernel_rfl) (fun _ _ _ h => h) (Or.inr ⟨by rfl, rfl⟩) ?_ ?_
      rotate_left
      · simp only [Act.put, List.setIfInBounds_toArray, List.set_cons_zero, List.set_cons_succ, i64_w, i32_w]
        rfl
      refine pure_ (i := 14) (N := some 18) (v := undef) (a' := ?_) #[true, true, true, true, true, true, true, true, true, true, true, true, true, true, true, false, false, false, false, false, false] rfl rfl (by kernel_rfl) (fun _ _ _ h => h) (Or.inr ⟨by rfl, rfl⟩) ?_ ?_
      rotate_left
      · simp only [Act.put, List.setIfInBounds_toArray, List.set_cons_zero, List.set_cons_succ, i64_w, i32_w]
        rfl
      refine pure_ (i := 15) (N := some 19) (v := undef) (a' := ?_) #[true, true, true, true, true, true, true, true, true, true, true, true, true, true, true, true, false, false, false, false, false] rfl rfl (by kernel_rfl) (fun _ _ _ h => h) (Or.inr ⟨by rfl, rfl⟩) ?_ ?_
      rotate_left
      · simp only [Act.put, List.setIfInBounds_toArray, List.set_cons_zero, List.set_cons_succ, i64_w, i32_w]
        rfl
      refine pure_ (i := 16) (N := some 20) (v := undef) (a' := ?_) #[true, true, true, true, true, true, true, true, true, true, true, true, true, true, true, true, true, false, false, false, false] rfl rfl (by kernel_rfl) (fun _ _ _ h => h) (Or.inr ⟨by rfl, rfl⟩) ?_ ?_
      rotate_left
      · simp only [Act.put, List.setIfInBounds_toArray, List.set_cons_zero, List.set_cons_succ, i64_w, i32_w]
        rfl
      refine pure_ (i := 17) (N := some 21) (v := undef) (a' := ?_) #[true, true, true, true, true, true, true, true, true, true, true, true, true, true, true, true, true, true, false, false, false] rfl rfl (by kernel_rfl) (fun _ _ _ h => h) (Or.inr ⟨by rfl, rfl⟩) ?_ ?_
      rotate_left
      · simp only [Act.put, List.setIfInBounds_toArray, List.set_cons_zero, List.set_cons_succ, i64_w, i32_w]
        rfl
      refine pure_ (i := 18) (N := some 22) (v := undef) (a' := ?_) #[true, true, true, true, true, true, true, true, true, true, true, true, true, true, true, true, true, true, true, false, false] rfl rfl (by kernel_rfl) (fun _ _ _ h => h) (Or.inr ⟨by rfl, rfl⟩) ?_ ?_
      rotate_left
      · simp only [Act.put, List.setIfInBounds_toArray, List.set_cons_zero, List.set_cons_succ, i64_w, i32_w]
        rfl
      refine pure_ (i := 19) (N := some 23) (v := undef) (a' := ?_) #[true, true, true, true, true, true, true, true, true, true, true, true, true, true, true, true, true, true, true, true, false] rfl rfl (by kernel_rfl) (fun _ _ _ h => h) (Or.inr ⟨by rfl, rfl⟩) ?_ ?_
      rotate_left
      · simp only [Act.put, List.setIfInBounds_toArray, List.set_cons_zero, List.set_cons_succ, i64_w, i32_w]
        rfl
      refine pure_ (i := 20) (N := some 24) (v := ?_) (a' := ?_) #[true, true, true, true, true, true, true, true, true, true, true, true, true, true, true, true, true, true, true, true, true] rfl rfl (by kernel_rfl) (fun _ _ _ h => h) (Or.inl ⟨by rfl, ?_⟩) ?_ ?_
      rotate_left
      · intro w'
        go_simp
        with_reducible rfl
      rotate_left
      · simp only [Act.put, List.setIfInBounds_toArray, List.set_cons_zero, List.set_cons_succ, i64_w, i32_w]
        rfl
      refine done_ (by kernel_rfl) ?_

      go_wp2
      go_end0
      refine ⟨rfl, xs', M', N', T.out.keep (Below.drew (Below.refl _ _)), by have := hb.out; omega, ?_⟩
      rcases U.out with ⟨e1, e3, e2⟩ | u
      · exact .inl ⟨e1, e3, exc_exit he'.out (fun h0 => by omega)⟩
      · exact .inr (up_exit u (fun h0 => by omega))
    · obtain ⟨r, cap, cur, rfl, hr, hrg, hrm, hl, hcap, hsz, htk⟩ := T.out.mem.at (by omega)
      have hlen : xs'.length ≤ 9223372036854775807 := by unfold maxLen at hcap; omega
      obtain ⟨Q, hQ⟩ : ∃ Q : Int, wrap64 ((wrap64 ((j : Int) - 1)).tdiv 2) = Q := ⟨_, rfl⟩
      have hQv : Q = ((j : Int) - 1) / 2 := by
        rw [← hQ, show wrap64 ((j : Int) - 1) = (j : Int) - 1 by unfold wrap64; omega, Int.tdiv_eq_ediv_of_nonneg (by omega)]
        unfold wrap64; omega
      have hQ0 : 0 ≤ Q := by omega
      have hQp : Q.toNat = par j := by unfold par; omega
      have hQl : Q.toNat < xs'.length := by omega
      have hQn : Q < (xs'.length : Int) := by omega
      obtain ⟨q0, q1⟩ := cur_get htk j hjl
      obtain ⟨q2, q3⟩ := cur_get htk Q.toNat hQl
      obtain ⟨a0, hx0⟩ : ∃ x, x = (it xs' j).1 := ⟨_, rfl⟩
      obtain ⟨a1, hx1⟩ : ∃ x, x = (it xs' j).2 := ⟨_, rfl⟩
      obtain ⟨b0, hy0⟩ : ∃ x, x = (it xs' Q.toNat).1 := ⟨_, rfl⟩
      obtain ⟨b1, hy1⟩ : ∃ x, x = (it xs' Q.toNat).2 := ⟨_, rfl⟩
      have h0 : wr.cell? ⟨g, 0, none⟩ = some (.slice (some ⟨r, 0, none⟩) xs'.length cap) := (HeapM.blk_cell T.out.mem.head 0).trans rfl
      have c0 : wr.cell? ⟨r, j * 2, none⟩ = some (.int .i64 a0) := by rw [hx0]; exact (HeapM.blk_cell hr _).trans q0
      have c1 : wr.cell? ⟨r, j * 2 + 1, none⟩ = some (.int .i64 a1) := by rw [hx1]; exact (HeapM.blk_cell hr _).trans q1
      have c2 : wr.cell? ⟨r, Q.toNat * 2, none⟩ = some (.int .i64 b0) := by rw [hy0]; exact (HeapM.blk_cell hr _).trans q2
      have c3 : wr.cell? ⟨r, Q.toNat * 2 + 1, none⟩ = some (.int .i64 b1) := by rw [hy1]; exact (HeapM.blk_cell hr _).trans q3
      have lg : g < wr.heap.size := HeapM.blk_lt T.out.mem.head
      have lr : r < wr.heap.size := HeapM.blk_lt hr
      have z1 : decide ((0 : Int) < j) = true := decide_eq_true (by omega)
      have z2 : decide (0 < j) = true := decide_eq_true (by omega)
      have Hd := Lib.hid (show (decide (Ahead (a0, a1) (b0, b1))) = decide (Ahead (it xs' j) (it xs' (par j))) by rw [← hQp, hx0, hx1, hy0, hy1])
      obtain ⟨bA, hbA⟩ : ∃ b, decide (Ahead (a0, a1) (b0, b1)) = b := ⟨_, rfl⟩
      have HA := Aside0.mk hbA
      have HQp := Aside0.mk hQp
      have HQv := Aside0.mk hQv
      have hj1 : 1 ≤ (j : Int) := by omega
      clear hx0 hx1 hy0 hy1 q0 q1 q2 q3 hr htk hsz hbA hQp hQv
      go_wp2_with fail
      refine start_ (n := 21) (S := fun w' => w'.cell? ⟨g, 0, none⟩ = some (.slice (some ⟨r, 0, none⟩) xs'.length cap) ∧ w'.cell? ⟨r, j * 2, none⟩ = some (.int .i64 a0) ∧ w'.cell? ⟨r, j * 2 + 1, none⟩ = some (.int .i64 a1) ∧ w'.cell? ⟨r, Q.toNat * 2, none⟩ = some (.int .i64 b0) ∧ w'.cell? ⟨r, Q.toNat * 2 + 1, none⟩ = some (.int .i64 b1)) (ds := []) #[false, false, false, false, false, false, false, false, false, false, false, false, false, false, false, false, false, false, false, false, false] (by kernel_rfl) rfl rfl ⟨h0, c0, c1, c2, c3⟩ (fun hHeld => ?_)
      refine pure_ (i := 0) (N := some 4) (v := ?_) (a' := ?_) #[true, false, false, false, false, false, false, false, false, false, false, false, false, false, false, false, false, false, false, false, false] rfl rfl (by kernel_rfl) (fun _ _ _ h => h) (Or.inl ⟨by rfl, ?_⟩) ?_ ?_
      rotate_left
      · intro w'
        go_simp
        with_reducible rfl
      rotate_left
      · simp only [Act.put, List.setIfInBounds_toArray, List.set_cons_zero, List.set_cons_succ, i64_w, i32_w]
        rfl
      refine pure_ (i := 1) (N := some 5) (v := ?_) (a' := ?_) #[true, true, false, false, false, false, false, false, false, false, false, false, false, false, false, false, false, false, false, false, false] rfl rfl (by kernel_rfl) (fun _ _ _ h => h) (Or.inl ⟨by rfl, ?_⟩) ?_ ?_
      rotate_left
      · intro w'
        go_simp
        with_reducible rfl
      rotate_left
      · simp only [Act.put, List.setIfInBounds_toArray, List.set_cons_zero, List.set_cons_succ, i64_w, i32_w]
        rfl
      refine pure_ (i := 2) (N := some 6) (v := ?_) (a' := ?_) #[true, true, true, false, false, false, false, false, false, false, false, false, false, false, false, false, false, false, false, false, false] rfl rfl (by kernel_rfl) (fun _ _ _ h => h) (Or.inl ⟨by rfl, ?_⟩) ?_ ?_
      rotate_left
      · intro w'
        go_simp
        with_reducible rfl
      rotate_left
      · simp only [Act.put, List.setIfInBounds_toArray, List.set_cons_zero, List.set_cons_succ, i64_w, i32_w]
        rfl
      refine pure_ (i := 3) (N := some 7) (v := ?_) (a' := ?_) #[true, true, true, true, false, false, false, false, false, false, false, false, false, false, false, false, false, false, false, false, false] rfl rfl (by kernel_rfl) (fun _ _ _ h => h) (Or.inl ⟨by rfl, ?_⟩) ?_ ?_
      rotate_left
      · intro w'
        go_simp
        with_reducible rfl
      rotate_left
      · simp only [Act.put, List.setIfInBounds_toArray, List.set_cons_zero, List.set_cons_succ, i64_w, i32_w]
        rfl
      refine pure_ (i := 4) (N := some 8) (v := ?_) (a' := ?_) #[true, true, true, true, true, false, false, false, false, false, false, false, false, false, false, false, false, false, false, false, false] rfl rfl (by kernel_rfl) (fun _ _ _ h => h) (Or.inl ⟨by rfl, ?_⟩) ?_ ?_
      rotate_left
      · intro w'
        go_simp
        with_reducible rfl
      rotate_left
      · simp only [Act.put, List.setIfInBounds_toArray, List.set_cons_zero, List.set_cons_succ, i64_w, i32_w]
        rfl
      refine pure_ (i := 5) (N := some 9) (v := ?_) (a' := ?_) #[true, true, true, true, true, true, false, false, false, false, false, false, false, false, false, false, false, false, false, false, false] rfl rfl (by kernel_rfl) (fun _ _ _ h => h) (Or.inl ⟨by rfl, ?_⟩) ?_ ?_
      rotate_left
      · intro w'
        go_simp
        with_reducible rfl
      rotate_left
      · simp only [Act.put, List.setIfInBounds_toArray, List.set_cons_zero, List.set_cons_succ, i64_w, i32_w]
        rfl
      refine pure_ (i := 7) (N := some 11) (v := ?_) (a' := ?_) #[true, true, true, true, true, true, false, true, false, false, false, false, false, false, false, false, false, false, false, false, false] rfl rfl (by kernel_rfl) (fun _ _ _ h => h) (Or.inl ⟨by rfl, ?_⟩) ?_ ?_
      rotate_left
      · intro w'
        go_simp
        with_reducible rfl
      rotate_left
      · simp only [Act.put, List.setIfInBounds_toArray, List.set_cons_zero, List.set_cons_succ, i64_w, i32_w]
        rfl
      refine pure_ (i := 10) (N := some 14) (v := ?_) (a' := ?_) #[true, true, true, true, true, true, false, true, false, false, true, false, false, false, false, false, false, false, false, false, false] rfl rfl (by kernel_rfl) (fun _ _ _ h => h) (Or.inl ⟨by rfl, ?_⟩) ?_ ?_
      rotate_left
      · intro w'
        go_simp
        with_reducible rfl
      rotate_left
      · simp only [Act.put, List.setIfInBounds_toArray, List.set_cons_zero, List.set_cons_succ, i64_w, i32_w]
        rfl
      refine pure_ (i := 11) (N := some 15) (v := ?_) (a' := ?_) #[true, true, true, true, true, true, false, true, false, false, true, true, false, false, false, false, false, false, false, false, false] rfl rfl (by kernel_rfl) (fun _ _ _ h => h) (Or.inl ⟨by rfl, ?_⟩) ?_ ?_
      rotate_left
      · intro w'
        go_simp
        with_reducible rfl
      rotate_left
      · simp only [Act.put, List.setIfInBounds_toArray, List.set_cons_zero, List.set_cons_succ, i64_w, i32_w]
        rfl
      refine pure_ (i := 12) (N := some 16) (v := ?_) (a' := ?_) #[true, true, true, true, true, true, false, true, false, false, true, true, true, false, false, false, false, false, false, false, false] rfl rfl (by kernel_rfl) (fun _ _ _ h => h) (Or.inl ⟨by rfl, ?_⟩) ?_ ?_
      rotate_left
      · intro w'
        go_simp
        with_reducible rfl
      rotate_left
      · simp only [Act.put, List.setIfInBounds_toArray, List.set_cons_zero, List.set_cons_succ, i64_w, i32_w]
        rfl
      refine pure_ (i := 14) (N := some 18) (v := ?_) (a' := ?_) #[true, true, true, true, true, true, false, true, false, false, true, true, true, false, true, false, false, false, false, false, false] rfl rfl (by kernel_rfl) (fun _ _ _ h => h) (Or.inl ⟨by rfl, ?_⟩) ?_ ?_
      rotate_left
      · intro w'
        go_simp
        with_reducible rfl
      rotate_left
      · simp only [Act.put, List.setIfInBounds_toArray, List.set_cons_zero, List.set_cons_succ, i64_w, i32_w]
        rfl
      refine pure_ (i := 15) (N := some 19) (v := ?_) (a' := ?_) #[true, true, true, true, true, true, false, true, false, false, true, true, true, false, true, true, false, false, false, false, false] rfl rfl (by kernel_rfl) (fun _ _ _ h => h) (Or.inl ⟨by rfl, ?_⟩) ?_ ?_
      rotate_left
      · intro w'
        go_simp
        with_reducible rfl
      rotate_left
      · simp only [Act.put, List.setIfInBounds_toArray, List.set_cons_zero, List.set_cons_succ, i64_w, i32_w]
        rfl
      refine pure_ (i := 16) (N := some 20) (v := ?_) (a' := ?_) #[true, true, true, true, true, true, false, true, false, false, true, true, true, false, true, true, true, false, false, false, false] rfl rfl (by kernel_rfl) (fun _ _ _ h => h) (Or.inl ⟨by rfl, ?_⟩) ?_ ?_
      rotate_left
      · intro w'
        go_simp
        with_reducible rfl
      rotate_left
      · simp only [Act.put, List.setIfInBounds_toArray, List.set_cons_zero, List.set_cons_succ, i64_w, i32_w]
        rfl
      refine take_ (i := 6) (N := some 10) (v := ?_) (a' := ?_) #[true, true, true, true, true, true, true, true, false, false, true, true, true, false, true, true, true, false, false, false, false] rfl rfl (by kernel_rfl) (fun _ _ _ h => h) (Or.inl ⟨by rfl, ?_⟩) hHeld ?_ ?_
      rotate_left
      · rintro w' ⟨s0, s1, s2, s3, s4⟩
        go_simp
        with_reducible rfl
      rotate_left
      · simp only [Act.put, List.setIfInBounds_toArray, List.set_cons_zero, List.set_cons_succ, i64_w, i32_w]
        rfl
      refine pure_ (i := 8) (N := some 12) (v := ?_) (a' := ?_) #[true, true, true, true, true, true, true, true, true, false, true, true, true, false, true, true, true, false, false, false, false] rfl rfl (by kernel_rfl) (fun _ _ _ h => h) (Or.inl ⟨by rfl, ?_⟩) ?_ ?_
      rotate_left
      · intro w'
        go_simp
        with_reducible rfl
      rotate_left
      · simp only [Act.put, List.setIfInBounds_toArray, List.set_cons_zero, List.set_cons_succ, i64_w, i32_w]
        rfl
      refine take_ (i := 9) (N := some 13) (v := ?_) (a' := ?_) #[true, true, true, true, true, true, true, true, true, true, true, true, true, false, true, true, true, false, false, false, false] rfl rfl (by kernel_rfl) (fun _ _ _ h => h) (Or.inl ⟨by rfl, ?_⟩) hHeld ?_ ?_
      rotate_left
      · rintro w' ⟨s0, s1, s2, s3, s4⟩
        go_simp
        with_reducible rfl
      rotate_left
      · simp only [Act.put, List.setIfInBounds_toArray, List.set_cons_zero, List.set_cons_succ, i64_w, i32_w]
        rfl
      refine take_ (i := 13) (N := some 17) (v := ?_) (a' := ?_) #[true, true, true, true, true, true, true, true, true, true, true, true, true, true, true, true, true, false, false, false, false] rfl rfl (by kernel_rfl) (fun _ _ _ h => h) (Or.inl ⟨by rfl, ?_⟩) hHeld ?_ ?_
      rotate_left
      · rintro w' ⟨s0, s1, s2, s3, s4⟩
        go_simp
        with_reducible rfl
      rotate_left
      · simp only [Act.put, List.setIfInBounds_toArray, List.set_cons_zero, List.set_cons_succ, i64_w, i32_w]
        rfl
      refine pure_ (i := 17) (N := some 21) (v := ?_) (a' := ?_) #[true, true, true, true, true, true, true, true, true, true, true, true, true, true, true, true, true, true, false, false, false] rfl rfl (by kernel_rfl) (fun _ _ _ h => h) (Or.inl ⟨by rfl, ?_⟩) ?_ ?_
      rotate_left
      · intro w'
        go_simp
        with_reducible rfl
      rotate_left
      · simp only [Act.put, List.setIfInBounds_toArray, List.set_cons_zero, List.set_cons_succ, i64_w, i32_w]
        rfl
      refine take_ (i := 18) (N := some 22) (v := ?_) (a' := ?_) #[true, true, true, true, true, true, true, true, true, true, true, true, true, true, true, true, true, true, true, false, false] rfl rfl (by kernel_rfl) (fun _ _ _ h => h) (Or.inl ⟨by rfl, ?_⟩) hHeld ?_ ?_
      rotate_left
      · rintro w' ⟨s0, s1, s2, s3, s4⟩
        go_simp
        with_reducible rfl
      rotate_left
      · simp only [Act.put, List.setIfInBounds_toArray, List.set_cons_zero, List.set_cons_succ, i64_w, i32_w]
        rfl
      refine one_ (i := 19) (N := some 23) #[true, true, true, true, true, true, true, true, true, true, true, true, true, true, true, true, true, true, true, true, false] rfl rfl (by kernel_rfl) (by decide) (fun K hK => ?_)
      refine goes_ Try.func55 (by kernel_rfl) rfl #[.agg #[.int .i64 a0, .int .i64 a1], .agg #[.int .i64 b0, .int .i64 b1]] (by rfl) rfl rfl (by simp only [List.map_toArray, List.map_cons, List.map_nil]; rfl) ?_
      with_reducible refine (ahead_calls a0 a1 b0 b1 _).mono ?_
      rintro e w3 ⟨rfl, hb3⟩
      refine ⟨_, rfl, ?_⟩
      refine hK.out _ _ ⟨(hb3.cell (p := ⟨g, 0, none⟩) lg).trans hHeld.1, (hb3.cell (p := ⟨r, j * 2, none⟩) lr).trans hHeld.2.1, (hb3.cell (p := ⟨r, j * 2 + 1, none⟩) lr).trans hHeld.2.2.1, (hb3.cell (p := ⟨r, Q.toNat * 2, none⟩) lr).trans hHeld.2.2.2.1, (hb3.cell (p := ⟨r, Q.toNat * 2 + 1, none⟩) lr).trans hHeld.2.2.2.2⟩ (fun hHeld => ?_)
      clear hK K
      refine norm_ (a' := ?_) ?_ ?_
      rotate_left
      · show Act.put _ (some 23) _ = _
        simp only [Act.put, List.setIfInBounds_toArray, List.set_cons_zero, List.set_cons_succ, i64_w, i32_w]
        rfl
      refine pure_ (i := 20) (N := some 24) (v := ?_) (a' := ?_) #[true, true, true, true, true, true, true, true, true, true, true, true, true, true, true, true, true, true, true, true, true] rfl rfl (by kernel_rfl) (fun _ _ _ h => h) (Or.inl ⟨by rfl, ?_⟩) ?_ ?_
      rotate_left
      · intro w'
        go_simp
        with_reducible rfl
      rotate_left
      · simp only [Act.put, List.setIfInBounds_toArray, List.set_cons_zero, List.set_cons_succ, i64_w, i32_w]
        rfl
      refine done_ (by kernel_rfl) ?_

      have T3 := Aside0.mk (T.out.keep (show Below wr.heap.size wr w3 from ⟨hb3.os, hb3.tape, hb3.output, hb3.size, hb3.block⟩))
      clear T T0 hHeld hb3 h0 c0 c1 c2 c3
      rw [HA.out]
      cases bA with
      | false =>
        go_wp2
        go_end0
        have hA : ¬ Ahead (it xs' j) (it xs' (par j)) := fun e => by have := Hd.out; rw [HA.out, decide_eq_true e] at this; cases this
        refine ⟨rfl, xs', M', N', T3.out, by have := hb.out; omega, ?_⟩
        rcases U.out with ⟨e1, e3, e2⟩ | u
        · refine .inl ⟨e1, e3, exc_exit he'.out (fun _ _ => ?_)⟩
          rw [e1, e2] at hA; exact hA
        · exact .inr (up_exit u (fun _ _ => hA))
      | true =>
        go_wp2_with fail
        have hA : Ahead (it xs' j) (it xs' (par j)) := of_decide_eq_true (by have := Hd.out; rw [HA.out] at this; exact this.symm)
        refine (swap_calls w3 g mb _ xs' M' most N' T3.out.mem (by have := hb.out; omega) j (((j : Int) - 1) / 2) (by omega) (by omega) (by omega) (by omega) T3.out.wf).mono ?_
        rintro e w4 ⟨rfl, ch4, hm4⟩
        have hQt : (((j : Int) - 1) / 2).toNat = par j := by have := HQp.out; have := HQv.out; omega
        rw [Int.toNat_natCast, hQt] at hm4
        have T4 := Aside0.mk (T3.out.swap hjl (show par j < xs'.length by have := HQp.out; omega) ch4 hm4)
        have U4 := Aside0.mk (up_step hE'.out (by omega) hjl hA)
        have hpj := par_lt (show 0 < j by omega)
        have hpe : ((par j : Nat) : Int) = ((j : Int) - 1) / 2 := by rw [← hQt]; omega
        have HPE := Aside0.mk hpe
        clear ch4 hm4 hQ hQt hpe
        go_wp2
        go_roundw
        case rel => exact ⟨par j, _, _, _, by rw [HPE.out], by omega, ⟨by have := hb.out; omega⟩, T4, ⟨.inr U4.out⟩⟩
        case measure => simp [intOf]; omega
end Go.Proofs.Ytclekakhgaggdaa.HeapC
