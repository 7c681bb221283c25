/- A fall in the heap. -/
import Derived.Test.YtclekakhgaggdaaHeapD
namespace Go.Proofs.Ytclekakhgaggdaa.HeapC
open Go.RowKit Go.Proofs.Ytclekakhgaggdaa.HeapT Go.Proofs.Ytclekakhgaggdaa.HeapM Go.Proofs.YtclekakhgaggdaaW.PrintWords Go.Proofs.YtclekakhgaggdaaW.PrintLast Go.Proofs.YtclekakhgaggdaaW.PrintMore
set_option linter.unusedVariables false
set_option linter.unusedSimpArgs false
theorem ahead_trans {a b c : Itm} (h : Ahead a b) (g : Ahead b c) : Ahead a c := by unfold Ahead at *; omega
/-- What the inner rounds know: f is the most urgent one of j and its first children, those before k. -/
def Best (xs : List Itm) (j f k : Nat) : Prop := f < xs.length ∧ (f = j ∨ (0 < f ∧ par f = j ∧ Ahead (it xs f) (it xs j))) ∧ ∀ c, 0 < c → c < xs.length → c < k → par c = j → ¬ Ahead (it xs c) (it xs f)
theorem best_start (xs : List Itm) (j : Nat) (h : j < xs.length) : Best xs j j (2 * j + 1) := ⟨h, .inl rfl, fun c hc _ hk hp => by unfold par at hp; omega⟩
theorem best_keep {xs : List Itm} {j f k : Nat} (h : Best xs j f k) (hk : ¬ Ahead (it xs k) (it xs f)) : Best xs j f (k + 1) :=
  ⟨h.1, h.2.1, fun c hc hcn hck hp => by
    by_cases e : c = k
    · rw [e]; exact hk
    · exact h.2.2 c hc hcn (by omega) hp⟩
theorem best_take {xs : List Itm} {j f k : Nat} (h : Best xs j f k) (hk0 : 0 < k) (hkn : k < xs.length) (hp : par k = j) (hk : Ahead (it xs k) (it xs f)) : Best xs j k (k + 1) :=
  ⟨hkn, .inr ⟨hk0, hp, by
    rcases h.2.1 with e | ⟨_, _, e⟩
    · rw [e] at hk; exact hk
    · exact ahead_trans hk e⟩, fun c hc hcn hck hpc => by
    by_cases e : c = k
    · rw [e]; exact not_ahead_self _
    · exact not_ahead_trans (h.2.2 c hc hcn (by omega) hpc) (ahead_not hk)⟩
theorem best_all {xs : List Itm} {j f k : Nat} (h : Best xs j f k) (hk : 2 * j + 3 ≤ k ∨ xs.length ≤ k) : ∀ c, 0 < c → c < xs.length → par c = j → ¬ Ahead (it xs c) (it xs f) :=
  fun c hc hcn hp => h.2.2 c hc hcn (by unfold par at hp; omega) hp

set_option maxHeartbeats 4000000 in
theorem down_calls (w : World) (g mb : Nat) (v : Value) (xs : List Itm) (M : Int → Option Nat) (most : Int) (N : Nat) (h : HMem w g mb v xs M most N) (hN : N < 4000000000000000000)
    (i : Int) (hi : 0 ≤ i) (hin : i < xs.length) (hle : xs.length ≤ 1000000) (hwf : ∀ q, q < xs.length → (Lit.int .i64 (it xs q).1).wf = true) (hp : Places M xs) (he : DownI xs i.toNat) :
    Calls Try.prog 41 #[.pointer (some ⟨g, 0, none⟩), .int .i64 i] w fun e w' =>
      e = .returned (.tuple #[]) ∧ ∃ xs' M' N', Turned w w' g mb v xs M most N xs' M' N' ∧ N' ≤ N + 2000000 ∧ Heaped xs' := by
  obtain ⟨j0, rfl⟩ := Int.eq_ofNat_of_zero_le hi
  rw [Int.toNat_natCast] at he
  have T0 := Aside0.mk (show Turned w w g mb v xs M most N xs M N from ⟨h, Chg.refl _ _, rfl, hp, rfl, hwf⟩)
  have he' := Aside0.mk he
  clear h hwf hp he
  go_enter Try.func41, Try.ntmps41
  go_wp2
  go_loopw [1] (fun vi wr => ∃ (j : Nat) (xs' : List Itm) (M' : Int → Option Nat) (N' : Nat), vi = .int .i64 j ∧ j0 ≤ j ∧ j < xs.length ∧ Aside0 (N' + 2 * j0 ≤ N + 2 * j) ∧ Aside0 (Turned w wr g mb v xs M most N xs' M' N') ∧ Aside0 (DownI xs' j)) (fun vi _ => xs.length - (intOf vi).toNat)
  case atStart => exact ⟨j0, xs, M, N, rfl, Nat.le_refl _, by omega, ⟨Nat.le_refl _⟩, T0, he'⟩
  case round =>
    obtain ⟨j, xs', M', N', rfl, hj, hjx, hb, T, U⟩ := hrel
    obtain ⟨wo, rfl⟩ : ∃ wo : World, wo = wr := ⟨_, rfl⟩
    have hxl : xs'.length = xs.length := T.out.len
    have HXL := Aside0.mk hxl
    have hjl : j < xs'.length := by omega
    have hle' : xs'.length ≤ 1000000 := by omega
    clear hxl T0
    go_wp2
    go_loopw [4, 5] (fun vf vk wr => ∃ (f k : Nat), vf = .int .i64 f ∧ vk = .int .i64 k ∧ 2 * j + 1 ≤ k ∧ k ≤ 2 * j + 3 ∧ f < xs'.length ∧ Aside0 (Best xs' j f k) ∧ Aside0 (Turned w wr g mb v xs M most N xs' M' N')) (fun _ vk _ => 2 * j + 3 - (intOf vk).toNat)
    case atStart => exact ⟨j, 2 * j + 1, rfl, by go_num, Nat.le_refl _, by omega, hjl, ⟨best_start _ _ hjl⟩, T⟩
    case round =>
      clear T
      obtain ⟨f, q, rfl, rfl, hq1, hq2, hfl, B, T⟩ := hrel
      obtain ⟨r, cap, cur, rfl, hr, hrg, hrm, hl, hcap, hsz, htk⟩ := T.out.mem.at (by omega)
      have hlen : xs'.length ≤ 9223372036854775807 := by omega
      have h0 : wr.cell? ⟨g, 0, none⟩ = some (.slice (some ⟨r, 0, none⟩) xs'.length cap) := (HeapM.blk_cell T.out.mem.head 0).trans rfl
      have lg : g < wr.heap.size := HeapM.blk_lt T.out.mem.head
      have lr : r < wr.heap.size := HeapM.blk_lt hr
      by_cases hin2 : q ≤ 2 * j + 2 ∧ q < xs'.length
      · obtain ⟨hq3, hql⟩ := hin2
        obtain ⟨q0, q1⟩ := cur_get htk q hql
        obtain ⟨q2, q3⟩ := cur_get htk f hfl
        obtain ⟨a0, hx0⟩ : ∃ x, x = (it xs' q).1 := ⟨_, rfl⟩
        obtain ⟨a1, hx1⟩ : ∃ x, x = (it xs' q).2 := ⟨_, rfl⟩
        obtain ⟨b0, hy0⟩ : ∃ x, x = (it xs' f).1 := ⟨_, rfl⟩
        obtain ⟨b1, hy1⟩ : ∃ x, x = (it xs' f).2 := ⟨_, rfl⟩
        have c0 : wr.cell? ⟨r, q * 2, none⟩ = some (.int .i64 a0) := by rw [hx0]; exact (HeapM.blk_cell hr _).trans q0
        have c1 : wr.cell? ⟨r, q * 2 + 1, none⟩ = some (.int .i64 a1) := by rw [hx1]; exact (HeapM.blk_cell hr _).trans q1
        have c2 : wr.cell? ⟨r, f * 2, none⟩ = some (.int .i64 b0) := by rw [hy0]; exact (HeapM.blk_cell hr _).trans q2
        have c3 : wr.cell? ⟨r, f * 2 + 1, none⟩ = some (.int .i64 b1) := by rw [hy1]; exact (HeapM.blk_cell hr _).trans q3
        have Hd := Lib.hid (show (decide (Ahead (a0, a1) (b0, b1))) = decide (Ahead (it xs' q) (it xs' f)) by rw [hx0, hx1, hy0, hy1])
        obtain ⟨bA, hbA⟩ : ∃ b, decide (Ahead (a0, a1) (b0, b1)) = b := ⟨_, rfl⟩
        have HA := Aside0.mk hbA
        clear hx0 hx1 hy0 hy1 q0 q1 q2 q3 hr htk hsz hbA
        go_wp2
        go_wp2_with fail
        refine start_ (n := 15) (S := fun w' => w'.cell? ⟨g, 0, none⟩ = some (.slice (some ⟨r, 0, none⟩) xs'.length cap) ∧ w'.cell? ⟨r, q * 2, none⟩ = some (.int .i64 a0) ∧ w'.cell? ⟨r, q * 2 + 1, none⟩ = some (.int .i64 a1) ∧ w'.cell? ⟨r, f * 2, none⟩ = some (.int .i64 b0) ∧ w'.cell? ⟨r, f * 2 + 1, none⟩ = some (.int .i64 b1)) (ds := []) #[false, false, false, false, false, false, false, false, false, false, false, false, false, false, false] (by kernel_rfl) rfl rfl ⟨h0, c0, c1, c2, c3⟩ (fun hHeld => ?_)
        refine pure_ (i := 0) (N := some 26) (v := ?_) (a' := ?_) #[true, false, false, false, false, false, false, false, false, false, false, false, false, false, false] rfl rfl (by kernel_rfl) (fun _ _ _ h => h) (Or.inl ⟨by rfl, ?_⟩) ?_ ?_
        rotate_left
        · intro w'
          go_simp
          with_reducible rfl
        rotate_left
        · simp only [Act.put, List.setIfInBounds_toArray, List.set_cons_zero, List.set_cons_succ, i64_w, i32_w]
          rfl
        refine pure_ (i := 1) (N := some 27) (v := ?_) (a' := ?_) #[true, true, false, false, false, false, false, false, false, false, false, false, false, false, false] rfl rfl (by kernel_rfl) (fun _ _ _ h => h) (Or.inl ⟨by rfl, ?_⟩) ?_ ?_
        rotate_left
        · intro w'
          go_simp
          with_reducible rfl
        rotate_left
        · simp only [Act.put, List.setIfInBounds_toArray, List.set_cons_zero, List.set_cons_succ, i64_w, i32_w]
          rfl
        refine pure_ (i := 2) (N := some 28) (v := ?_) (a' := ?_) #[true, true, true, false, false, false, false, false, false, false, false, false, false, false, false] rfl rfl (by kernel_rfl) (fun _ _ _ h => h) (Or.inl ⟨by rfl, ?_⟩) ?_ ?_
        rotate_left
        · intro w'
          go_simp
          with_reducible rfl
        rotate_left
        · simp only [Act.put, List.setIfInBounds_toArray, List.set_cons_zero, List.set_cons_succ, i64_w, i32_w]
          rfl
        refine pure_ (i := 4) (N := some 30) (v := ?_) (a' := ?_) #[true, true, true, false, true, false, false, false, false, false, false, false, false, false, false] rfl rfl (by kernel_rfl) (fun _ _ _ h => h) (Or.inl ⟨by rfl, ?_⟩) ?_ ?_
        rotate_left
        · intro w'
          go_simp
          with_reducible rfl
        rotate_left
        · simp only [Act.put, List.setIfInBounds_toArray, List.set_cons_zero, List.set_cons_succ, i64_w, i32_w]
          rfl
        refine pure_ (i := 7) (N := some 33) (v := ?_) (a' := ?_) #[true, true, true, false, true, false, false, true, false, false, false, false, false, false, false] rfl rfl (by kernel_rfl) (fun _ _ _ h => h) (Or.inl ⟨by rfl, ?_⟩) ?_ ?_
        rotate_left
        · intro w'
          go_simp
          with_reducible rfl
        rotate_left
        · simp only [Act.put, List.setIfInBounds_toArray, List.set_cons_zero, List.set_cons_succ, i64_w, i32_w]
          rfl
        refine pure_ (i := 8) (N := some 34) (v := ?_) (a' := ?_) #[true, true, true, false, true, false, false, true, true, false, false, false, false, false, false] rfl rfl (by kernel_rfl) (fun _ _ _ h => h) (Or.inl ⟨by rfl, ?_⟩) ?_ ?_
        rotate_left
        · intro w'
          go_simp
          with_reducible rfl
        rotate_left
        · simp only [Act.put, List.setIfInBounds_toArray, List.set_cons_zero, List.set_cons_succ, i64_w, i32_w]
          rfl
        refine pure_ (i := 9) (N := some 35) (v := ?_) (a' := ?_) #[true, true, true, false, true, false, false, true, true, true, false, false, false, false, false] rfl rfl (by kernel_rfl) (fun _ _ _ h => h) (Or.inl ⟨by rfl, ?_⟩) ?_ ?_
        rotate_left
        · intro w'
          go_simp
          with_reducible rfl
        rotate_left
        · simp only [Act.put, List.setIfInBounds_toArray, List.set_cons_zero, List.set_cons_succ, i64_w, i32_w]
          rfl
        refine pure_ (i := 11) (N := some 37) (v := ?_) (a' := ?_) #[true, true, true, false, true, false, false, true, true, true, false, true, false, false, false] rfl rfl (by kernel_rfl) (fun _ _ _ h => h) (Or.inl ⟨by rfl, ?_⟩) ?_ ?_
        rotate_left
        · intro w'
          go_simp
          with_reducible rfl
        rotate_left
        · simp only [Act.put, List.setIfInBounds_toArray, List.set_cons_zero, List.set_cons_succ, i64_w, i32_w]
          rfl
        refine take_ (i := 3) (N := some 29) (v := ?_) (a' := ?_) #[true, true, true, true, true, false, false, true, true, true, false, true, false, false, false] rfl rfl (by kernel_rfl) (fun _ _ _ h => h) (Or.inl ⟨by rfl, ?_⟩) hHeld ?_ ?_
        rotate_left
        · rintro w' ⟨s0, s1, s2, s3, s4⟩
          go_simp
          with_reducible rfl
        rotate_left
        · simp only [Act.put, List.setIfInBounds_toArray, List.set_cons_zero, List.set_cons_succ, i64_w, i32_w]
          rfl
        refine pure_ (i := 5) (N := some 31) (v := ?_) (a' := ?_) #[true, true, true, true, true, true, false, true, true, true, false, true, false, false, false] rfl rfl (by kernel_rfl) (fun _ _ _ h => h) (Or.inl ⟨by rfl, ?_⟩) ?_ ?_
        rotate_left
        · intro w'
          go_simp
          with_reducible rfl
        rotate_left
        · simp only [Act.put, List.setIfInBounds_toArray, List.set_cons_zero, List.set_cons_succ, i64_w, i32_w]
          rfl
        refine take_ (i := 6) (N := some 32) (v := ?_) (a' := ?_) #[true, true, true, true, true, true, true, true, true, true, false, true, false, false, false] rfl rfl (by kernel_rfl) (fun _ _ _ h => h) (Or.inl ⟨by rfl, ?_⟩) hHeld ?_ ?_
        rotate_left
        · rintro w' ⟨s0, s1, s2, s3, s4⟩
          go_simp
          with_reducible rfl
        rotate_left
        · simp only [Act.put, List.setIfInBounds_toArray, List.set_cons_zero, List.set_cons_succ, i64_w, i32_w]
          rfl
        refine take_ (i := 10) (N := some 36) (v := ?_) (a' := ?_) #[true, true, true, true, true, true, true, true, true, true, true, true, false, false, false] rfl rfl (by kernel_rfl) (fun _ _ _ h => h) (Or.inl ⟨by rfl, ?_⟩) hHeld ?_ ?_
        rotate_left
        · rintro w' ⟨s0, s1, s2, s3, s4⟩
          go_simp
          with_reducible rfl
        rotate_left
        · simp only [Act.put, List.setIfInBounds_toArray, List.set_cons_zero, List.set_cons_succ, i64_w, i32_w]
          rfl
        refine pure_ (i := 12) (N := some 38) (v := ?_) (a' := ?_) #[true, true, true, true, true, true, true, true, true, true, true, true, true, false, false] rfl rfl (by kernel_rfl) (fun _ _ _ h => h) (Or.inl ⟨by rfl, ?_⟩) ?_ ?_
        rotate_left
        · intro w'
          go_simp
          with_reducible rfl
        rotate_left
        · simp only [Act.put, List.setIfInBounds_toArray, List.set_cons_zero, List.set_cons_succ, i64_w, i32_w]
          rfl
        refine take_ (i := 13) (N := some 39) (v := ?_) (a' := ?_) #[true, true, true, true, true, true, true, true, true, true, true, true, true, true, false] rfl rfl (by kernel_rfl) (fun _ _ _ h => h) (Or.inl ⟨by rfl, ?_⟩) hHeld ?_ ?_
        rotate_left
        · rintro w' ⟨s0, s1, s2, s3, s4⟩
          go_simp
          with_reducible rfl
        rotate_left
        · simp only [Act.put, List.setIfInBounds_toArray, List.set_cons_zero, List.set_cons_succ, i64_w, i32_w]
          rfl
        refine one_ (i := 14) (N := some 40) #[true, true, true, true, true, true, true, true, true, true, true, true, true, true, true] rfl rfl (by kernel_rfl) (by decide) (fun K hK => ?_)
        refine goes_ Try.func55 (by kernel_rfl) rfl #[.agg #[.int .i64 a0, .int .i64 a1], .agg #[.int .i64 b0, .int .i64 b1]] (by rfl) rfl rfl (by simp only [List.map_toArray, List.map_cons, List.map_nil]; rfl) ?_
        with_reducible refine (ahead_calls a0 a1 b0 b1 _).mono ?_
        rintro e w3 ⟨rfl, hb3⟩
        refine ⟨_, rfl, ?_⟩
        refine hK.out _ _ ⟨(hb3.cell (p := ⟨g, 0, none⟩) lg).trans hHeld.1, (hb3.cell (p := ⟨r, q * 2, none⟩) lr).trans hHeld.2.1, (hb3.cell (p := ⟨r, q * 2 + 1, none⟩) lr).trans hHeld.2.2.1, (hb3.cell (p := ⟨r, f * 2, none⟩) lr).trans hHeld.2.2.2.1, (hb3.cell (p := ⟨r, f * 2 + 1, none⟩) lr).trans hHeld.2.2.2.2⟩ (fun hHeld => ?_)
        clear hK K
        refine norm_ (a' := ?_) ?_ ?_
        rotate_left
        · show Act.put _ (some 40) _ = _
          simp only [Act.put, List.setIfInBounds_toArray, List.set_cons_zero, List.set_cons_succ, i64_w, i32_w]
          rfl
        refine done_ (by kernel_rfl) ?_

        have T3 := Aside0.mk (T.out.keep (show Below wr.heap.size wr w3 from ⟨hb3.os, hb3.tape, hb3.output, hb3.size, hb3.block⟩))
        clear T hHeld hb3 h0 c0 c1 c2 c3
        rw [HA.out]
        cases bA with
        | false =>
          have B4 := Aside0.mk (best_keep B.out (fun e => by have := Hd.out; rw [HA.out, decide_eq_true e] at this; cases this))
          go_wp2
          go_roundw
          case rel => exact ⟨f, q + 1, rfl, by go_num, by omega, by omega, hfl, B4, T3⟩
          case measure => simp [intOf]; have := HXL.out; omega
        | true =>
          have B4 := Aside0.mk (best_take B.out (by omega) hql (by unfold par; omega) (of_decide_eq_true (by have := Hd.out; rw [HA.out] at this; exact this.symm)))
          go_wp2
          go_roundw
          case rel => exact ⟨q, q + 1, rfl, by go_num, by omega, by omega, hql, B4, T3⟩
          case measure => simp [intOf]; have := HXL.out; omega
      · clear hr htk hsz
        by_cases hq3 : q ≤ 2 * j + 2
        · have hql : xs'.length ≤ q := by omega
          clear hin2
          have n1 : decide (q < xs'.length) = false := decide_eq_false (by omega)
          have A := Aside0.mk (best_all B.out (.inr hql))
          by_cases hfj : f = j
          · subst hfj
            go_wp2
            go_returns
            exact ⟨rfl, xs', M', N', T.out, by have := hb.out; omega, down_exit U.out A.out⟩
          · have e1 : ((f : Int) == (j : Int)) = false := by simp; omega
            have e2 : (f == j) = false := by simp; omega
            obtain ⟨F0, FP, FA⟩ : 0 < f ∧ par f = j ∧ Ahead (it xs' f) (it xs' j) := by
              rcases B.out.2.1 with e | e
              · exact absurd e hfj
              · exact e
            have FP' := Aside0.mk FP
            have hpf := par_lt F0
            have hjf : j < f := by omega
            have U4 := Aside0.mk (down_step U.out hfl F0 FP FA A.out)
            clear FP hpf
            go_wp2_with fail
            refine (swap_calls _ g mb _ xs' M' most N' T.out.mem (by have := hb.out; omega) j f (by omega) (by omega) (by omega) (by omega) T.out.wf).mono ?_
            rintro e w4 ⟨rfl, ch4, hm4⟩
            rw [Int.toNat_natCast, Int.toNat_natCast] at hm4
            have T4 := Aside0.mk (T.out.swap hjl hfl ch4 hm4)
            clear ch4 hm4 e1 e2
            go_wp2
            go_roundw
            case rel => exact ⟨f, _, _, _, rfl, by omega, by have := HXL.out; omega, ⟨by have := hb.out; omega⟩, T4, U4⟩
            case measure => simp [intOf]; have := HXL.out; omega
        · clear hin2
          have n1 : decide ((q : Int) ≤ 2 * (j : Int) + 2) = false := decide_eq_false (by omega)
          have A := Aside0.mk (best_all B.out (.inl (by omega)))
          by_cases hfj : f = j
          · subst hfj
            go_wp2
            go_returns
            exact ⟨rfl, xs', M', N', T.out, by have := hb.out; omega, down_exit U.out A.out⟩
          · have e1 : ((f : Int) == (j : Int)) = false := by simp; omega
            have e2 : (f == j) = false := by simp; omega
            obtain ⟨F0, FP, FA⟩ : 0 < f ∧ par f = j ∧ Ahead (it xs' f) (it xs' j) := by
              rcases B.out.2.1 with e | e
              · exact absurd e hfj
              · exact e
            have FP' := Aside0.mk FP
            have hpf := par_lt F0
            have hjf : j < f := by omega
            have U4 := Aside0.mk (down_step U.out hfl F0 FP FA A.out)
            clear FP hpf
            go_wp2_with fail
            refine (swap_calls _ g mb _ xs' M' most N' T.out.mem (by have := hb.out; omega) j f (by omega) (by omega) (by omega) (by omega) T.out.wf).mono ?_
            rintro e w4 ⟨rfl, ch4, hm4⟩
            rw [Int.toNat_natCast, Int.toNat_natCast] at hm4
            have T4 := Aside0.mk (T.out.swap hjl hfl ch4 hm4)
            clear ch4 hm4 e1 e2
            go_wp2
            go_roundw
            case rel => exact ⟨f, _, _, _, rfl, by omega, by have := HXL.out; omega, ⟨by have := hb.out; omega⟩, T4, U4⟩
            case measure => simp [intOf]; have := HXL.out; omega
end Go.Proofs.Ytclekakhgaggdaa.HeapC
