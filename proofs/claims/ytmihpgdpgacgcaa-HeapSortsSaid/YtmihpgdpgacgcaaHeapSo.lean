/- HeapSorts' walk. -/
import Derived.Test.YtmihpgdpgacgcaaHeapA
namespace Go.Proofs.Ytmihpgdpgacgcaa.HeapC
open Go.RowKit Go.Proofs.Ytmihpgdpgacgcaa.HeapT Go.Proofs.Ytmihpgdpgacgcaa.HeapM Go.Proofs.YtmihpgdpgacgcaaW.PrintWords Go.Proofs.YtmihpgdpgacgcaaW.PrintLast Go.Proofs.YtmihpgdpgacgcaaW.PrintMore
set_option linter.unusedVariables false
set_option linter.unusedSimpArgs false


/-- What is left when the most urgent ones are gone: nothing that was not there, all behind the last one. -/
structure Left (C0 C : Int → Option Int) (i : Nat) (lk lp : Int) : Prop where
  sub : ∀ k p, C k = some p → C0 k = some p
  aft : 0 < i → ∀ k p, C k = some p → p < lp ∨ (p = lp ∧ lk < k)
theorem Left.start (C : Int → Option Int) (lk lp : Int) : Left C C 0 lk lp := ⟨fun _ _ h => h, fun h => absurd h (by omega)⟩
theorem Left.pop {C0 C : Int → Option Int} {i : Nat} {lk lp k p : Int} (h : Left C0 C i lk lp) (m : Most C k p) : Left C0 (upd C k none) (i + 1) k p := by
  refine ⟨fun q r e => ?_, fun _ q r e => ?_⟩
  · by_cases x : q = k
    · subst x; unfold upd at e; rw [if_pos rfl] at e; cases e
    · rw [upd_other _ _ _ _ x] at e; exact h.sub q r e
  · by_cases x : q = k
    · subst x; unfold upd at e; rw [if_pos rfl] at e; cases e
    · rw [upd_other _ _ _ _ x] at e
      have := m.2 q r e
      unfold Ahead at this
      simp at this
      omega


set_option maxHeartbeats 4000000 in
set_option maxRecDepth 20000 in
theorem sorts_walk (pv : Value) (len : Nat) (Z : Nat → Nat → Int) (w : World) (hz : Arrs 2 w pv len Z) :
    Calls Try.prog 4 #[pv] w fun e w' => e = .returned (.bool true) ∧ Below w.heap.size w w' := by
  obtain ⟨pa, pc, rfl, hmx, -⟩ := id hz
  have hmx2 : len ≤ 9223372036854775807 := hmx
  have hz' := Aside0.mk hz
  clear hz hmx
  go_enter Try.func4, Try.ntmps4
  go_wp2_with fail
  refine (awake_calls w).mono ?_
  rintro e w1 ⟨rfl, B1⟩
  go_wp2_with fail
  refine (made_calls _ len Z w1 (hz'.out.below B1)).mono ?_
  rintro e w2 ⟨g, C, n, N, i, rfl, H2a, M2, i30, li, il, K2a⟩
  have H2 := H2a.less (D' := fun k => k < w.heap.size) (fun k e => Nat.lt_of_lt_of_le e B1.size)
  have K2 := Aside0.mk ((Kept.of_below (D := fun k => k < w.heap.size) B1).trans (K2a.mono (fun k e => Nat.lt_of_lt_of_le e B1.size)))
  have n30 : n ≤ 30 := Nat.le_trans M2.hn i30
  have N30 : N ≤ 120000000 := by have := M2.hN; omega
  have hnl : 0 < n ↔ 0 < len := ⟨fun h => il (by have := M2.hn; omega), fun h => M2.pos (li h)⟩
  have hnl' := Aside0.mk hnl
  have HA := Lib.hid (H2.all_its (by omega))
  clear B1 H2a K2a M2 i30 hz' H2 hnl li il
  go_wp2_with fail
  refine HA.out.mono ?_
  rintro e w3 ⟨v3, ys, D3, rfl, S3, yl, I3a, H3, hD3a, K3⟩
  have KA := Aside0.mk (K2.out.trans K3)
  have I3 := Aside0.mk I3a
  have S3' := Aside0.mk S3
  have hD3 := Aside0.mk hD3a
  have hyl := Aside0.mk yl
  obtain ⟨a3, cap3, rfl, -, -⟩ := I3a
  rw [yl] at I3 ⊢
  have HL := Lib.hid H3.len
  clear HA S3 hD3a K2 K3 yl
  go_wp2_with fail
  refine HL.out.mono ?_
  rintro e w4 ⟨rfl, rfl⟩
  clear HL
  obtain ⟨V, hV⟩ : ∃ Q, Q = w3.alloc (.cells #[.int .i64 0, .int .i64 0] 36) := ⟨_, rfl⟩
  obtain ⟨L, hL⟩ : ∃ Q, Q = w3.heap.size := ⟨_, rfl⟩
  obtain ⟨HV, KV, bL⟩ := H3.box 0 0 hV hL
  have hVa := Aside0.mk hV
  have hLa := Aside0.mk hL
  have bLa := Aside0.mk bL
  clear hV hL bL
  have I4 := Aside0.mk ((I3.out.mono (fun b e => e)).kept KV)
  have K4 := Aside0.mk (KA.out.trans (KV.mono hD3.out))
  have HV' := Aside0.mk HV
  have hLD : Aside0 (¬ D3 L) := ⟨fun e => by have h1 := H3.lt L e; have h2 := hLa.out; omega⟩
  have hLw : Aside0 (¬ L < w.heap.size) := ⟨fun e => by have h1 := KA.out.size; have h2 := hLa.out; omega⟩
  clear H3 KV HV KA I3
  go_wp2_with fail
  rw [← hVa.out, ← hLa.out]
  go_loopw [8] (fun vi wr => ∃ (i : Nat) (Ci : Int → Option Int) (Ni : Nat) (lk lp : Int), vi = .int .i64 i ∧ i ≤ n ∧ Aside0 (Held wr g Ci 1000 (n - i) Ni (fun q => D3 q ∨ q = L)) ∧ Aside0 (Ni ≤ 120000000 + i * 4000010) ∧ Aside0 (Left C Ci i lk lp) ∧ Aside0 (wr.heap[L]? = some (.cells #[.int .i64 lk, .int .i64 lp] 36 (0, 0))) ∧ Aside0 (Its wr D3 (.slice a3 n cap3) ys) ∧ Aside0 (Kept w wr (fun k => k < w.heap.size))) (fun vi _ => n - (intOf vi).toNat)
  case atStart => exact ⟨0, C, N, 0, 0, rfl, by omega, HV', ⟨by omega⟩, ⟨Left.start C 0 0⟩, bLa, I4, K4⟩
  case round =>
    obtain ⟨i, Ci, Ni, lk, lp, rfl, hin, HH, HN, HM, HL, HI, HK⟩ := hrel
    by_cases hlt : i < n
    · have hlt' := Aside0.mk hlt
      have hPp := Lib.hid (HH.out.pop_some (by have := HN.out; omega) (by omega) (by omega))
      obtain ⟨x0, x1, mx, wx, hPc⟩ := hPp.out
      have hP := Lib.hid hPc
      have mx' := Aside0.mk mx
      clear hPp hPc mx
      go_wp2_with fail
      refine hP.out.mono ?_
      rintro e w5 ⟨rfl, H5, K5⟩
      obtain ⟨U, hU⟩ : ∃ Q, Q = w5.alloc (.cells #[.int .i64 x0, .int .i64 x1] 36) := ⟨_, rfl⟩
      obtain ⟨X, hX⟩ : ∃ Q, Q = w5.heap.size := ⟨_, rfl⟩
      obtain ⟨HU, KU, bX⟩ := H5.box x0 x1 hU hX
      have hUa := Aside0.mk hU
      have hXa := Aside0.mk hX
      have bXa := Aside0.mk bX
      clear hU hX bX
      have bL5 := (K5.trans KU).blk HL.out (.inr rfl)
      have IU := Aside0.mk (HI.out.kept ((K5.trans KU).mono (fun q e => .inl e)))
      have KK := Aside0.mk (HK.out.trans ((K5.trans KU).mono (fun q e => .inl (hD3.out q e))))
      have q0 : (w5.alloc (.cells #[.int .i64 x0, .int .i64 x1] 36)).cell? ⟨w5.heap.size, 0, none⟩ = some (.int .i64 x0) := by rw [← hUa.out, ← hXa.out]; exact (HeapM.blk_cell bXa.out 0).trans rfl
      have q1 : (w5.alloc (.cells #[.int .i64 x0, .int .i64 x1] 36)).cell? ⟨w5.heap.size, 1, none⟩ = some (.int .i64 x1) := by rw [← hUa.out, ← hXa.out]; exact (HeapM.blk_cell bXa.out 1).trans rfl
      have q2 : (w5.alloc (.cells #[.int .i64 x0, .int .i64 x1] 36)).cell? ⟨L, 0, none⟩ = some (.int .i64 lk) := by rw [← hUa.out]; exact (HeapM.blk_cell bL5 0).trans rfl
      have q3 : (w5.alloc (.cells #[.int .i64 x0, .int .i64 x1] 36)).cell? ⟨L, 1, none⟩ = some (.int .i64 lp) := by rw [← hUa.out]; exact (HeapM.blk_cell bL5 1).trans rfl
      have bL5' := Aside0.mk bL5
      have HU' := Aside0.mk HU
      have HM2 := Aside0.mk (HM.out.pop mx'.out)
      have hsome := HM.out.sub x0 x1 mx'.out.1
      have hmem := (S3'.out.mem x0 x1).2 hsome
      obtain ⟨j0, hj0, ej⟩ := mem_it hmem
      rw [hyl.out] at hj0
      have hj0' := Aside0.mk hj0
      have ej' := Aside0.mk ej
      have haft : Aside0 (0 < i → x1 < lp ∨ (x1 = lp ∧ lk < x0)) := ⟨fun h => HM.out.aft h x0 x1 mx'.out.1⟩
      have hIU : Aside0 (∀ i, i < n → ∃ b, a3 = some ⟨b, 0, none⟩ ∧ D3 b ∧ b < U.heap.size ∧ U.cell? ⟨b, i * 2, none⟩ = some (.int .i64 (it ys i).1) ∧ U.cell? ⟨b, i * 2 + 1, none⟩ = some (.int .i64 (it ys i).2)) := ⟨by
        obtain ⟨aa, cc, e1, -, e3⟩ := IU.out
        injection e1 with e4 e5 e6
        subst e4; subst e6
        rw [hyl.out] at e3
        exact e3⟩
      have hLlt := Aside0.mk HL.out
      have hL5 : Aside0 (w5.heap[L]? = some (.cells #[.int .i64 lk, .int .i64 lp] 36 (0, 0))) := ⟨K5.blk HL.out (.inr rfl)⟩
      have hcase : (decide ((0 : Int) < i) = false) ∨ (decide ((0 : Int) < i) = true ∧ decide (lp < x1) = false ∧ (x1 == lp) = false) ∨ (decide ((0 : Int) < i) = true ∧ decide (lp < x1) = false ∧ (x1 == lp) = true ∧ decide (x0 ≤ lk) = false) := by
        by_cases h0 : 0 < i
        · rcases haft.out h0 with h | ⟨h, h'⟩
          · exact .inr (.inl ⟨decide_eq_true (by omega), decide_eq_false (by omega), beq_eq_false_iff_ne.2 (by omega)⟩)
          · exact .inr (.inr ⟨decide_eq_true (by omega), decide_eq_false (by omega), beq_iff_eq.2 h, decide_eq_false (by omega)⟩)
        · exact .inl (decide_eq_false (by omega))
      clear H5 K5 KU HU bL5 hsome hmem hj0 ej hP
      rcases hcase with g0 | ⟨g0, g1, g2⟩ | ⟨g0, g1, g2, g3⟩
      · clear HH
        have g4 : decide (0 < i) = false := decide_eq_false (by have := of_decide_eq_false g0; omega)
        go_wp2_with fail
        rw [← hUa.out, ← hXa.out]
        clear q0 q1 q2 q3 g0 g4
        go_loopw [11, 12] (fun vh vk ws => ∃ (hb : Bool) (k : Nat), vh = .bool hb ∧ vk = .int .i64 k ∧ k ≤ n ∧ Aside0 (j0 < k → hb = true) ∧ Aside0 (Below U.heap.size U ws)) (fun _ vk _ => n - (intOf vk).toNat)
        case atStart => exact ⟨false, 0, rfl, rfl, by omega, ⟨fun h => absurd h (by omega)⟩, ⟨Below.refl _ _⟩⟩
        case round =>
          obtain ⟨hb, k, rfl, rfl, hkn, hbj, HB⟩ := hrel
          by_cases hkl : k < n
          · have hkl' := Aside0.mk hkl
            have hw2 : wrap64 ((k : Int) + 1) = k + 1 := by unfold wrap64; omega
            cases hb with
            | true =>
              go_wp2_with fail
              refine start_ (n := 10) (S := fun w' => Below U.heap.size U w') (ds := []) #[false, false, false, false, false, false, false, false, false, false] (by kernel_rfl) rfl rfl ((by apply below_drew1; exact HB.out)) (fun hHeld => ?_)
              refine pure_ (i := 0) (N := some 65) (v := ?_) (a' := ?_) #[true, false, false, false, false, false, false, false, false, false] rfl rfl (by kernel_rfl) (fun _ _ _ h => h) (Or.inl ⟨by rfl, ?_⟩) ?_ ?_
              rotate_left
              · intro w'
                go_simp
                with_reducible rfl
              rotate_left
              · simp only [Act.put, List.setIfInBounds_toArray, List.set_cons_zero, List.set_cons_succ, i64_w, i32_w]
                rfl
              refine pure_ (i := 1) (N := some 66) (v := ?_) (a' := ?_) #[true, true, false, false, false, false, false, false, false, false] rfl rfl (by kernel_rfl) (fun _ _ _ h => h) (Or.inl ⟨by rfl, ?_⟩) ?_ ?_
              rotate_left
              · intro w'
                go_simp
                with_reducible rfl
              rotate_left
              · simp only [Act.put, List.setIfInBounds_toArray, List.set_cons_zero, List.set_cons_succ, i64_w, i32_w]
                rfl
              refine pure_ (i := 2) (N := some 67) (v := undef) (a' := ?_) #[true, true, true, false, false, false, false, false, false, false] rfl rfl (by kernel_rfl) (fun _ _ _ h => h) (Or.inr ⟨by rfl, rfl⟩) ?_ ?_
              rotate_left
              · simp only [Act.put, List.setIfInBounds_toArray, List.set_cons_zero, List.set_cons_succ, i64_w, i32_w]
                rfl
              refine pure_ (i := 3) (N := some 68) (v := undef) (a' := ?_) #[true, true, true, true, false, false, false, false, false, false] rfl rfl (by kernel_rfl) (fun _ _ _ h => h) (Or.inr ⟨by rfl, rfl⟩) ?_ ?_
              rotate_left
              · simp only [Act.put, List.setIfInBounds_toArray, List.set_cons_zero, List.set_cons_succ, i64_w, i32_w]
                rfl
              refine pure_ (i := 4) (N := some 69) (v := undef) (a' := ?_) #[true, true, true, true, true, false, false, false, false, false] rfl rfl (by kernel_rfl) (fun _ _ _ h => h) (Or.inr ⟨by rfl, rfl⟩) ?_ ?_
              rotate_left
              · simp only [Act.put, List.setIfInBounds_toArray, List.set_cons_zero, List.set_cons_succ, i64_w, i32_w]
                rfl
              refine pure_ (i := 5) (N := some 70) (v := undef) (a' := ?_) #[true, true, true, true, true, true, false, false, false, false] rfl rfl (by kernel_rfl) (fun _ _ _ h => h) (Or.inr ⟨by rfl, rfl⟩) ?_ ?_
              rotate_left
              · simp only [Act.put, List.setIfInBounds_toArray, List.set_cons_zero, List.set_cons_succ, i64_w, i32_w]
                rfl
              refine pure_ (i := 6) (N := some 71) (v := undef) (a' := ?_) #[true, true, true, true, true, true, true, false, false, false] rfl rfl (by kernel_rfl) (fun _ _ _ h => h) (Or.inr ⟨by rfl, rfl⟩) ?_ ?_
              rotate_left
              · simp only [Act.put, List.setIfInBounds_toArray, List.set_cons_zero, List.set_cons_succ, i64_w, i32_w]
                rfl
              refine pure_ (i := 7) (N := some 72) (v := undef) (a' := ?_) #[true, true, true, true, true, true, true, true, false, false] rfl rfl (by kernel_rfl) (fun _ _ _ h => h) (Or.inr ⟨by rfl, rfl⟩) ?_ ?_
              rotate_left
              · simp only [Act.put, List.setIfInBounds_toArray, List.set_cons_zero, List.set_cons_succ, i64_w, i32_w]
                rfl
              refine pure_ (i := 8) (N := some 73) (v := ?_) (a' := ?_) #[true, true, true, true, true, true, true, true, true, false] rfl rfl (by kernel_rfl) (fun _ _ _ h => h) (Or.inl ⟨by rfl, ?_⟩) ?_ ?_
              rotate_left
              · intro w'
                go_simp
                with_reducible rfl
              rotate_left
              · simp only [Act.put, List.setIfInBounds_toArray, List.set_cons_zero, List.set_cons_succ, i64_w, i32_w]
                rfl
              refine pure_ (i := 9) (N := some 11) (v := ?_) (a' := ?_) #[true, true, true, true, true, true, true, true, true, true] rfl rfl (by kernel_rfl) (fun _ _ _ h => h) (Or.inl ⟨by rfl, ?_⟩) ?_ ?_
              rotate_left
              · intro w'
                go_simp
                with_reducible rfl
              rotate_left
              · simp only [Act.put, List.setIfInBounds_toArray, List.set_cons_zero, List.set_cons_succ, i64_w, i32_w]
                rfl
              refine done_ (by kernel_rfl) ?_

              have HB2 := Aside0.mk hHeld
              clear hHeld
              go_wp2
              go_roundw
              case rel => exact ⟨true, k + 1, rfl, by go_num, by have := hkl'.out; omega, ⟨fun _ => rfl⟩, HB2⟩
              case measure => simp only [intOf]; have := hkl'.out; omega
            | false =>
              obtain ⟨b, rfl, -, hbl, c0, c1⟩ := hIU.out k hkl
              have d0 : wr.cell? ⟨b, k * 2, none⟩ = _ := (HB.out.cell (p := ⟨b, k * 2, none⟩) hbl).trans c0
              have d1 : wr.cell? ⟨b, k * 2 + 1, none⟩ = _ := (HB.out.cell (p := ⟨b, k * 2 + 1, none⟩) hbl).trans c1
              have d2 : wr.cell? ⟨X, 0, none⟩ = some (.int .i64 x0) := (HB.out.cell (p := ⟨X, 0, none⟩) (HeapM.blk_lt bXa.out)).trans ((HeapM.blk_cell bXa.out 0).trans rfl)
              have d3 : wr.cell? ⟨X, 1, none⟩ = some (.int .i64 x1) := (HB.out.cell (p := ⟨X, 1, none⟩) (HeapM.blk_lt bXa.out)).trans ((HeapM.blk_cell bXa.out 1).trans rfl)
              obtain ⟨y0, hy0⟩ : ∃ y, (it ys k).1 = y := ⟨_, rfl⟩
              obtain ⟨y1, hy1⟩ : ∃ y, (it ys k).2 = y := ⟨_, rfl⟩
              rw [hy0] at d0
              rw [hy1] at d1
              have hne : ¬ (y0 = x0 ∧ y1 = x1) → k ≠ j0 := fun h e => h (by subst e; rw [← hy0, ← hy1, ej'.out]; exact ⟨rfl, rfl⟩)
              have hne' := Lib.hid hne
              clear c0 c1 hy0 hy1 hne
              by_cases e0 : y0 = x0
              · rw [e0] at d0
                by_cases e1 : y1 = x1
                · rw [e1] at d1
                  clear e0 e1
                  go_wp2_with fail
                  refine start_ (n := 10) (S := fun w' => w'.cell? ⟨b, k * 2, none⟩ = some (.int .i64 x0) ∧ w'.cell? ⟨b, k * 2 + 1, none⟩ = some (.int .i64 x1) ∧ w'.cell? ⟨X, 0, none⟩ = some (.int .i64 x0) ∧ w'.cell? ⟨X, 1, none⟩ = some (.int .i64 x1) ∧ Below U.heap.size U w') (ds := []) #[false, false, false, false, false, false, false, false, false, false] (by kernel_rfl) rfl rfl ⟨d0, d1, d2, d3, (by apply below_drew1; exact HB.out)⟩ (fun hHeld => ?_)
                  refine pure_ (i := 0) (N := some 65) (v := ?_) (a' := ?_) #[true, false, false, false, false, false, false, false, false, false] rfl rfl (by kernel_rfl) (fun _ _ _ h => h) (Or.inl ⟨by rfl, ?_⟩) ?_ ?_
                  rotate_left
                  · intro w'
                    go_simp
                    with_reducible rfl
                  rotate_left
                  · simp only [Act.put, List.setIfInBounds_toArray, List.set_cons_zero, List.set_cons_succ, i64_w, i32_w]
                    rfl
                  refine pure_ (i := 1) (N := some 66) (v := ?_) (a' := ?_) #[true, true, false, false, false, false, false, false, false, false] rfl rfl (by kernel_rfl) (fun _ _ _ h => h) (Or.inl ⟨by rfl, ?_⟩) ?_ ?_
                  rotate_left
                  · intro w'
                    go_simp
                    with_reducible rfl
                  rotate_left
                  · simp only [Act.put, List.setIfInBounds_toArray, List.set_cons_zero, List.set_cons_succ, i64_w, i32_w]
                    rfl
                  refine pure_ (i := 2) (N := some 67) (v := ?_) (a' := ?_) #[true, true, true, false, false, false, false, false, false, false] rfl rfl (by kernel_rfl) (fun _ _ _ h => h) (Or.inl ⟨by rfl, ?_⟩) ?_ ?_
                  rotate_left
                  · intro w'
                    go_simp
                    with_reducible rfl
                  rotate_left
                  · simp only [Act.put, List.setIfInBounds_toArray, List.set_cons_zero, List.set_cons_succ, i64_w, i32_w]
                    rfl
                  refine pure_ (i := 3) (N := some 68) (v := ?_) (a' := ?_) #[true, true, true, true, false, false, false, false, false, false] rfl rfl (by kernel_rfl) (fun _ _ _ h => h) (Or.inl ⟨by rfl, ?_⟩) ?_ ?_
                  rotate_left
                  · intro w'
                    go_simp
                    with_reducible rfl
                  rotate_left
                  · simp only [Act.put, List.setIfInBounds_toArray, List.set_cons_zero, List.set_cons_succ, i64_w, i32_w]
                    rfl
                  refine pure_ (i := 4) (N := some 69) (v := ?_) (a' := ?_) #[true, true, true, true, true, false, false, false, false, false] rfl rfl (by kernel_rfl) (fun _ _ _ h => h) (Or.inl ⟨by rfl, ?_⟩) ?_ ?_
                  rotate_left
                  · intro w'
                    go_simp
                    with_reducible rfl
                  rotate_left
                  · simp only [Act.put, List.setIfInBounds_toArray, List.set_cons_zero, List.set_cons_succ, i64_w, i32_w]
                    rfl
                  refine take_ (i := 5) (N := some 70) (v := ?_) (a' := ?_) #[true, true, true, true, true, true, false, false, false, false] rfl rfl (by kernel_rfl) (fun _ _ _ h => h) (Or.inl ⟨by rfl, ?_⟩) hHeld ?_ ?_
                  rotate_left
                  · rintro w' ⟨s0, s1, s2, s3, s4⟩
                    go_simp
                    with_reducible rfl
                  rotate_left
                  · simp only [Act.put, List.setIfInBounds_toArray, List.set_cons_zero, List.set_cons_succ, i64_w, i32_w]
                    rfl
                  refine take_ (i := 6) (N := some 71) (v := ?_) (a' := ?_) #[true, true, true, true, true, true, true, false, false, false] rfl rfl (by kernel_rfl) (fun _ _ _ h => h) (Or.inl ⟨by rfl, ?_⟩) hHeld ?_ ?_
                  rotate_left
                  · rintro w' ⟨s0, s1, s2, s3, s4⟩
                    go_simp
                    with_reducible rfl
                  rotate_left
                  · simp only [Act.put, List.setIfInBounds_toArray, List.set_cons_zero, List.set_cons_succ, i64_w, i32_w]
                    rfl
                  refine pure_ (i := 7) (N := some 72) (v := ?_) (a' := ?_) #[true, true, true, true, true, true, true, true, false, false] rfl rfl (by kernel_rfl) (fun _ _ _ h => h) (Or.inl ⟨by rfl, ?_⟩) ?_ ?_
                  rotate_left
                  · intro w'
                    go_simp
                    with_reducible rfl
                  rotate_left
                  · simp only [Act.put, List.setIfInBounds_toArray, List.set_cons_zero, List.set_cons_succ, i64_w, i32_w]
                    rfl
                  refine pure_ (i := 8) (N := some 73) (v := ?_) (a' := ?_) #[true, true, true, true, true, true, true, true, true, false] rfl rfl (by kernel_rfl) (fun _ _ _ h => h) (Or.inl ⟨by rfl, ?_⟩) ?_ ?_
                  rotate_left
                  · intro w'
                    go_simp
                    with_reducible rfl
                  rotate_left
                  · simp only [Act.put, List.setIfInBounds_toArray, List.set_cons_zero, List.set_cons_succ, i64_w, i32_w]
                    rfl
                  refine pure_ (i := 9) (N := some 11) (v := ?_) (a' := ?_) #[true, true, true, true, true, true, true, true, true, true] rfl rfl (by kernel_rfl) (fun _ _ _ h => h) (Or.inl ⟨by rfl, ?_⟩) ?_ ?_
                  rotate_left
                  · intro w'
                    go_simp
                    with_reducible rfl
                  rotate_left
                  · simp only [Act.put, List.setIfInBounds_toArray, List.set_cons_zero, List.set_cons_succ, i64_w, i32_w]
                    rfl
                  refine done_ (by kernel_rfl) ?_

                  have HB2 := Aside0.mk hHeld.2.2.2.2
                  clear hHeld d0 d1 d2 d3
                  go_wp2
                  go_roundw
                  case rel => exact ⟨true, k + 1, rfl, by go_num, by have := hkl'.out; omega, ⟨(fun _ => rfl)⟩, HB2⟩
                  case measure => simp only [intOf]; have := hkl'.out; omega
                · have hj2 := Aside0.mk (hne'.out (fun h => e1 h.2))
                  have eb : (y1 == x1) = false := beq_eq_false_iff_ne.2 e1
                  have eq : (y1 = x1) = False := eq_false e1
                  clear e0
                  go_wp2_with fail
                  refine start_ (n := 10) (S := fun w' => w'.cell? ⟨b, k * 2, none⟩ = some (.int .i64 x0) ∧ w'.cell? ⟨b, k * 2 + 1, none⟩ = some (.int .i64 y1) ∧ w'.cell? ⟨X, 0, none⟩ = some (.int .i64 x0) ∧ w'.cell? ⟨X, 1, none⟩ = some (.int .i64 x1) ∧ Below U.heap.size U w') (ds := []) #[false, false, false, false, false, false, false, false, false, false] (by kernel_rfl) rfl rfl ⟨d0, d1, d2, d3, (by apply below_drew1; exact HB.out)⟩ (fun hHeld => ?_)
                  refine pure_ (i := 0) (N := some 65) (v := ?_) (a' := ?_) #[true, false, false, false, false, false, false, false, false, false] rfl rfl (by kernel_rfl) (fun _ _ _ h => h) (Or.inl ⟨by rfl, ?_⟩) ?_ ?_
                  rotate_left
                  · intro w'
                    go_simp
                    with_reducible rfl
                  rotate_left
                  · simp only [Act.put, List.setIfInBounds_toArray, List.set_cons_zero, List.set_cons_succ, i64_w, i32_w]
                    rfl
                  refine pure_ (i := 1) (N := some 66) (v := ?_) (a' := ?_) #[true, true, false, false, false, false, false, false, false, false] rfl rfl (by kernel_rfl) (fun _ _ _ h => h) (Or.inl ⟨by rfl, ?_⟩) ?_ ?_
                  rotate_left
                  · intro w'
                    go_simp
                    with_reducible rfl
                  rotate_left
                  · simp only [Act.put, List.setIfInBounds_toArray, List.set_cons_zero, List.set_cons_succ, i64_w, i32_w]
                    rfl
                  refine pure_ (i := 2) (N := some 67) (v := ?_) (a' := ?_) #[true, true, true, false, false, false, false, false, false, false] rfl rfl (by kernel_rfl) (fun _ _ _ h => h) (Or.inl ⟨by rfl, ?_⟩) ?_ ?_
                  rotate_left
                  · intro w'
                    go_simp
                    with_reducible rfl
                  rotate_left
                  · simp only [Act.put, List.setIfInBounds_toArray, List.set_cons_zero, List.set_cons_succ, i64_w, i32_w]
                    rfl
                  refine pure_ (i := 3) (N := some 68) (v := ?_) (a' := ?_) #[true, true, true, true, false, false, false, false, false, false] rfl rfl (by kernel_rfl) (fun _ _ _ h => h) (Or.inl ⟨by rfl, ?_⟩) ?_ ?_
                  rotate_left
                  · intro w'
                    go_simp
                    with_reducible rfl
                  rotate_left
                  · simp only [Act.put, List.setIfInBounds_toArray, List.set_cons_zero, List.set_cons_succ, i64_w, i32_w]
                    rfl
                  refine pure_ (i := 4) (N := some 69) (v := ?_) (a' := ?_) #[true, true, true, true, true, false, false, false, false, false] rfl rfl (by kernel_rfl) (fun _ _ _ h => h) (Or.inl ⟨by rfl, ?_⟩) ?_ ?_
                  rotate_left
                  · intro w'
                    go_simp
                    with_reducible rfl
                  rotate_left
                  · simp only [Act.put, List.setIfInBounds_toArray, List.set_cons_zero, List.set_cons_succ, i64_w, i32_w]
                    rfl
                  refine take_ (i := 5) (N := some 70) (v := ?_) (a' := ?_) #[true, true, true, true, true, true, false, false, false, false] rfl rfl (by kernel_rfl) (fun _ _ _ h => h) (Or.inl ⟨by rfl, ?_⟩) hHeld ?_ ?_
                  rotate_left
                  · rintro w' ⟨s0, s1, s2, s3, s4⟩
                    go_simp
                    with_reducible rfl
                  rotate_left
                  · simp only [Act.put, List.setIfInBounds_toArray, List.set_cons_zero, List.set_cons_succ, i64_w, i32_w]
                    rfl
                  refine take_ (i := 6) (N := some 71) (v := ?_) (a' := ?_) #[true, true, true, true, true, true, true, false, false, false] rfl rfl (by kernel_rfl) (fun _ _ _ h => h) (Or.inl ⟨by rfl, ?_⟩) hHeld ?_ ?_
                  rotate_left
                  · rintro w' ⟨s0, s1, s2, s3, s4⟩
                    go_simp
                    with_reducible rfl
                  rotate_left
                  · simp only [Act.put, List.setIfInBounds_toArray, List.set_cons_zero, List.set_cons_succ, i64_w, i32_w]
                    rfl
                  refine pure_ (i := 7) (N := some 72) (v := ?_) (a' := ?_) #[true, true, true, true, true, true, true, true, false, false] rfl rfl (by kernel_rfl) (fun _ _ _ h => h) (Or.inl ⟨by rfl, ?_⟩) ?_ ?_
                  rotate_left
                  · intro w'
                    go_simp
                    with_reducible rfl
                  rotate_left
                  · simp only [Act.put, List.setIfInBounds_toArray, List.set_cons_zero, List.set_cons_succ, i64_w, i32_w]
                    rfl
                  refine pure_ (i := 8) (N := some 73) (v := ?_) (a' := ?_) #[true, true, true, true, true, true, true, true, true, false] rfl rfl (by kernel_rfl) (fun _ _ _ h => h) (Or.inl ⟨by rfl, ?_⟩) ?_ ?_
                  rotate_left
                  · intro w'
                    go_simp
                    with_reducible rfl
                  rotate_left
                  · simp only [Act.put, List.setIfInBounds_toArray, List.set_cons_zero, List.set_cons_succ, i64_w, i32_w]
                    rfl
                  refine pure_ (i := 9) (N := some 11) (v := ?_) (a' := ?_) #[true, true, true, true, true, true, true, true, true, true] rfl rfl (by kernel_rfl) (fun _ _ _ h => h) (Or.inl ⟨by rfl, ?_⟩) ?_ ?_
                  rotate_left
                  · intro w'
                    go_simp
                    with_reducible rfl
                  rotate_left
                  · simp only [Act.put, List.setIfInBounds_toArray, List.set_cons_zero, List.set_cons_succ, i64_w, i32_w]
                    rfl
                  refine done_ (by kernel_rfl) ?_

                  have HB2 := Aside0.mk hHeld.2.2.2.2
                  clear hHeld d0 d1 d2 d3
                  go_wp2
                  go_roundw
                  case rel => exact ⟨false, k + 1, rfl, by go_num, by have := hkl'.out; omega, ⟨(fun h => hbj.out (by have := hj2.out; omega))⟩, HB2⟩
                  case measure => simp only [intOf]; have := hkl'.out; omega
              · have hj2 := Aside0.mk (hne'.out (fun h => e0 h.1))
                have eb : (y0 == x0) = false := beq_eq_false_iff_ne.2 e0
                have eq : (y0 = x0) = False := eq_false e0
                go_wp2_with fail
                refine start_ (n := 10) (S := fun w' => w'.cell? ⟨b, k * 2, none⟩ = some (.int .i64 y0) ∧ w'.cell? ⟨b, k * 2 + 1, none⟩ = some (.int .i64 y1) ∧ w'.cell? ⟨X, 0, none⟩ = some (.int .i64 x0) ∧ w'.cell? ⟨X, 1, none⟩ = some (.int .i64 x1) ∧ Below U.heap.size U w') (ds := []) #[false, false, false, false, false, false, false, false, false, false] (by kernel_rfl) rfl rfl ⟨d0, d1, d2, d3, (by apply below_drew1; exact HB.out)⟩ (fun hHeld => ?_)
                refine pure_ (i := 0) (N := some 65) (v := ?_) (a' := ?_) #[true, false, false, false, false, false, false, false, false, false] rfl rfl (by kernel_rfl) (fun _ _ _ h => h) (Or.inl ⟨by rfl, ?_⟩) ?_ ?_
                rotate_left
                · intro w'
                  go_simp
                  with_reducible rfl
                rotate_left
                · simp only [Act.put, List.setIfInBounds_toArray, List.set_cons_zero, List.set_cons_succ, i64_w, i32_w]
                  rfl
                refine pure_ (i := 1) (N := some 66) (v := ?_) (a' := ?_) #[true, true, false, false, false, false, false, false, false, false] rfl rfl (by kernel_rfl) (fun _ _ _ h => h) (Or.inl ⟨by rfl, ?_⟩) ?_ ?_
                rotate_left
                · intro w'
                  go_simp
                  with_reducible rfl
                rotate_left
                · simp only [Act.put, List.setIfInBounds_toArray, List.set_cons_zero, List.set_cons_succ, i64_w, i32_w]
                  rfl
                refine pure_ (i := 2) (N := some 67) (v := ?_) (a' := ?_) #[true, true, true, false, false, false, false, false, false, false] rfl rfl (by kernel_rfl) (fun _ _ _ h => h) (Or.inl ⟨by rfl, ?_⟩) ?_ ?_
                rotate_left
                · intro w'
                  go_simp
                  with_reducible rfl
                rotate_left
                · simp only [Act.put, List.setIfInBounds_toArray, List.set_cons_zero, List.set_cons_succ, i64_w, i32_w]
                  rfl
                refine pure_ (i := 3) (N := some 68) (v := ?_) (a' := ?_) #[true, true, true, true, false, false, false, false, false, false] rfl rfl (by kernel_rfl) (fun _ _ _ h => h) (Or.inl ⟨by rfl, ?_⟩) ?_ ?_
                rotate_left
                · intro w'
                  go_simp
                  with_reducible rfl
                rotate_left
                · simp only [Act.put, List.setIfInBounds_toArray, List.set_cons_zero, List.set_cons_succ, i64_w, i32_w]
                  rfl
                refine pure_ (i := 4) (N := some 69) (v := ?_) (a' := ?_) #[true, true, true, true, true, false, false, false, false, false] rfl rfl (by kernel_rfl) (fun _ _ _ h => h) (Or.inl ⟨by rfl, ?_⟩) ?_ ?_
                rotate_left
                · intro w'
                  go_simp
                  with_reducible rfl
                rotate_left
                · simp only [Act.put, List.setIfInBounds_toArray, List.set_cons_zero, List.set_cons_succ, i64_w, i32_w]
                  rfl
                refine take_ (i := 5) (N := some 70) (v := ?_) (a' := ?_) #[true, true, true, true, true, true, false, false, false, false] rfl rfl (by kernel_rfl) (fun _ _ _ h => h) (Or.inl ⟨by rfl, ?_⟩) hHeld ?_ ?_
                rotate_left
                · rintro w' ⟨s0, s1, s2, s3, s4⟩
                  go_simp
                  with_reducible rfl
                rotate_left
                · simp only [Act.put, List.setIfInBounds_toArray, List.set_cons_zero, List.set_cons_succ, i64_w, i32_w]
                  rfl
                refine take_ (i := 6) (N := some 71) (v := ?_) (a' := ?_) #[true, true, true, true, true, true, true, false, false, false] rfl rfl (by kernel_rfl) (fun _ _ _ h => h) (Or.inl ⟨by rfl, ?_⟩) hHeld ?_ ?_
                rotate_left
                · rintro w' ⟨s0, s1, s2, s3, s4⟩
                  go_simp
                  with_reducible rfl
                rotate_left
                · simp only [Act.put, List.setIfInBounds_toArray, List.set_cons_zero, List.set_cons_succ, i64_w, i32_w]
                  rfl
                refine pure_ (i := 7) (N := some 72) (v := ?_) (a' := ?_) #[true, true, true, true, true, true, true, true, false, false] rfl rfl (by kernel_rfl) (fun _ _ _ h => h) (Or.inl ⟨by rfl, ?_⟩) ?_ ?_
                rotate_left
                · intro w'
                  go_simp
                  with_reducible rfl
                rotate_left
                · simp only [Act.put, List.setIfInBounds_toArray, List.set_cons_zero, List.set_cons_succ, i64_w, i32_w]
                  rfl
                refine pure_ (i := 8) (N := some 73) (v := ?_) (a' := ?_) #[true, true, true, true, true, true, true, true, true, false] rfl rfl (by kernel_rfl) (fun _ _ _ h => h) (Or.inl ⟨by rfl, ?_⟩) ?_ ?_
                rotate_left
                · intro w'
                  go_simp
                  with_reducible rfl
                rotate_left
                · simp only [Act.put, List.setIfInBounds_toArray, List.set_cons_zero, List.set_cons_succ, i64_w, i32_w]
                  rfl
                refine pure_ (i := 9) (N := some 11) (v := ?_) (a' := ?_) #[true, true, true, true, true, true, true, true, true, true] rfl rfl (by kernel_rfl) (fun _ _ _ h => h) (Or.inl ⟨by rfl, ?_⟩) ?_ ?_
                rotate_left
                · intro w'
                  go_simp
                  with_reducible rfl
                rotate_left
                · simp only [Act.put, List.setIfInBounds_toArray, List.set_cons_zero, List.set_cons_succ, i64_w, i32_w]
                  rfl
                refine done_ (by kernel_rfl) ?_

                have HB2 := Aside0.mk hHeld.2.2.2.2
                clear hHeld d0 d1 d2 d3
                go_wp2
                go_roundw
                case rel => exact ⟨false, k + 1, rfl, by go_num, by have := hkl'.out; omega, ⟨(fun h => hbj.out (by have := hj2.out; omega))⟩, HB2⟩
                case measure => simp only [intOf]; have := hkl'.out; omega
          · obtain rfl : n = k := by omega
            obtain rfl : hb = true := hbj.out hj0'.out
            have HW := Lib.hid (HU'.out.below HB.out)
            have HLn := Lib.hid (HW.out.len)
            have hsub : ((n - i - 1 : Nat) : Int) = (n : Int) - 1 - i := by have := hlt'.out; omega
            have hw5 : wrap64 ((n : Int) - 1) = n - 1 := by unfold wrap64; omega
            have hw6 : wrap64 ((n : Int) - 1 - i) = n - 1 - i := by have := hlt'.out; unfold wrap64; omega
            have z0 : wr.cell? ⟨X, 0, none⟩ = some (.int .i64 x0) := (HB.out.cell (p := ⟨X, 0, none⟩) (HeapM.blk_lt bXa.out)).trans ((HeapM.blk_cell bXa.out 0).trans rfl)
            have z1 : wr.cell? ⟨X, 1, none⟩ = some (.int .i64 x1) := (HB.out.cell (p := ⟨X, 1, none⟩) (HeapM.blk_lt bXa.out)).trans ((HeapM.blk_cell bXa.out 1).trans rfl)
            have bLw := (HB.out.block _ (HeapM.blk_lt bL5'.out)).trans bL5'.out
            have z2 : wr.cell? ⟨L, 0, none⟩ = some (.int .i64 lk) := (HeapM.blk_cell bLw 0).trans rfl
            have z3 : wr.cell? ⟨L, 1, none⟩ = some (.int .i64 lp) := (HeapM.blk_cell bLw 1).trans rfl
            have f0 := HeapM.blk_free bLw 0
            have f1 := HeapM.blk_free bLw 1
            have bLw' := Aside0.mk bLw
            have hLX : L ≠ X := fun e => by have h1 := hXa.out; have h2 := HeapM.blk_lt hL5.out; omega
            clear bLw
            go_wp2_with fail
            refine HLn.out.mono ?_
            rintro e w6 ⟨rfl, rfl⟩
            rw [hsub]
            go_wp2_with fail
            have A1 : Aside0 (Held ((wr.setCell ⟨L, 0, none⟩ (.int .i64 x0)).setCell ⟨L, 1, none⟩ (.int .i64 x1)) g (upd Ci x0 none) 1000 (n - (i + 1)) (Ni + 4000010) (fun q => D3 q ∨ q = L)) := ⟨by
              have h1 := HW.out.less (D' := fun q => D3 q ∨ q = L) (fun q e => .inl e)
              rw [show n - i - 1 = n - (i + 1) by omega] at h1
              exact (h1.set L 0 (.int .i64 x0) (.inr rfl)).set L 1 (.int .i64 x1) (.inr rfl)⟩
            have A2 := HeapM.blk_set_same (HeapM.blk_set_same bLw'.out 0 (.int .i64 x0) (by simp)) 1 (.int .i64 x1) (by simp)
            have A3 : Aside0 (Its ((wr.setCell ⟨L, 0, none⟩ (.int .i64 x0)).setCell ⟨L, 1, none⟩ (.int .i64 x1)) D3 (.slice a3 n cap3) ys) := ⟨(IU.out.kept (Kept.of_below HB.out)).kept (((Kept.refl _ _).set L 0 _ hLD.out).set L 1 _ hLD.out)⟩
            have A4 : Aside0 (Kept w ((wr.setCell ⟨L, 0, none⟩ (.int .i64 x0)).setCell ⟨L, 1, none⟩ (.int .i64 x1)) (fun k => k < w.heap.size)) := ⟨((KK.out.trans (Kept.of_below HB.out)).set L 0 _ hLw.out).set L 1 _ hLw.out⟩
            refine ⟨⟨i + 1, _, _, x0, x1, by first | rfl | (push_cast; rfl), by have := hlt'.out; omega, A1, ⟨by have := HN.out; omega⟩, HM2, ⟨A2⟩, A3, A4⟩, ?_⟩
            simp only [intOf]
            have := hlt'.out
            omega
      · clear HH
        have g4 : decide (0 < i) = true := decide_eq_true (by have := of_decide_eq_true g0; omega)
        go_wp2_with fail
        rw [← hUa.out, ← hXa.out]
        clear q0 q1 q2 q3 g0 g1 g2 g4
        go_loopw [11, 12] (fun vh vk ws => ∃ (hb : Bool) (k : Nat), vh = .bool hb ∧ vk = .int .i64 k ∧ k ≤ n ∧ Aside0 (j0 < k → hb = true) ∧ Aside0 (Below U.heap.size U ws)) (fun _ vk _ => n - (intOf vk).toNat)
        case atStart => exact ⟨false, 0, rfl, rfl, by omega, ⟨fun h => absurd h (by omega)⟩, ⟨Below.refl _ _⟩⟩
        case round =>
          obtain ⟨hb, k, rfl, rfl, hkn, hbj, HB⟩ := hrel
          by_cases hkl : k < n
          · have hkl' := Aside0.mk hkl
            have hw2 : wrap64 ((k : Int) + 1) = k + 1 := by unfold wrap64; omega
            cases hb with
            | true =>
              go_wp2_with fail
              refine start_ (n := 10) (S := fun w' => Below U.heap.size U w') (ds := []) #[false, false, false, false, false, false, false, false, false, false] (by kernel_rfl) rfl rfl ((by apply below_drew1; exact HB.out)) (fun hHeld => ?_)
              refine pure_ (i := 0) (N := some 65) (v := ?_) (a' := ?_) #[true, false, false, false, false, false, false, false, false, false] rfl rfl (by kernel_rfl) (fun _ _ _ h => h) (Or.inl ⟨by rfl, ?_⟩) ?_ ?_
              rotate_left
              · intro w'
                go_simp
                with_reducible rfl
              rotate_left
              · simp only [Act.put, List.setIfInBounds_toArray, List.set_cons_zero, List.set_cons_succ, i64_w, i32_w]
                rfl
              refine pure_ (i := 1) (N := some 66) (v := ?_) (a' := ?_) #[true, true, false, false, false, false, false, false, false, false] rfl rfl (by kernel_rfl) (fun _ _ _ h => h) (Or.inl ⟨by rfl, ?_⟩) ?_ ?_
              rotate_left
              · intro w'
                go_simp
                with_reducible rfl
              rotate_left
              · simp only [Act.put, List.setIfInBounds_toArray, List.set_cons_zero, List.set_cons_succ, i64_w, i32_w]
                rfl
              refine pure_ (i := 2) (N := some 67) (v := undef) (a' := ?_) #[true, true, true, false, false, false, false, false, false, false] rfl rfl (by kernel_rfl) (fun _ _ _ h => h) (Or.inr ⟨by rfl, rfl⟩) ?_ ?_
              rotate_left
              · simp only [Act.put, List.setIfInBounds_toArray, List.set_cons_zero, List.set_cons_succ, i64_w, i32_w]
                rfl
              refine pure_ (i := 3) (N := some 68) (v := undef) (a' := ?_) #[true, true, true, true, false, false, false, false, false, false] rfl rfl (by kernel_rfl) (fun _ _ _ h => h) (Or.inr ⟨by rfl, rfl⟩) ?_ ?_
              rotate_left
              · simp only [Act.put, List.setIfInBounds_toArray, List.set_cons_zero, List.set_cons_succ, i64_w, i32_w]
                rfl
              refine pure_ (i := 4) (N := some 69) (v := undef) (a' := ?_) #[true, true, true, true, true, false, false, false, false, false] rfl rfl (by kernel_rfl) (fun _ _ _ h => h) (Or.inr ⟨by rfl, rfl⟩) ?_ ?_
              rotate_left
              · simp only [Act.put, List.setIfInBounds_toArray, List.set_cons_zero, List.set_cons_succ, i64_w, i32_w]
                rfl
              refine pure_ (i := 5) (N := some 70) (v := undef) (a' := ?_) #[true, true, true, true, true, true, false, false, false, false] rfl rfl (by kernel_rfl) (fun _ _ _ h => h) (Or.inr ⟨by rfl, rfl⟩) ?_ ?_
              rotate_left
              · simp only [Act.put, List.setIfInBounds_toArray, List.set_cons_zero, List.set_cons_succ, i64_w, i32_w]
                rfl
              refine pure_ (i := 6) (N := some 71) (v := undef) (a' := ?_) #[true, true, true, true, true, true, true, false, false, false] rfl rfl (by kernel_rfl) (fun _ _ _ h => h) (Or.inr ⟨by rfl, rfl⟩) ?_ ?_
              rotate_left
              · simp only [Act.put, List.setIfInBounds_toArray, List.set_cons_zero, List.set_cons_succ, i64_w, i32_w]
                rfl
              refine pure_ (i := 7) (N := some 72) (v := undef) (a' := ?_) #[true, true, true, true, true, true, true, true, false, false] rfl rfl (by kernel_rfl) (fun _ _ _ h => h) (Or.inr ⟨by rfl, rfl⟩) ?_ ?_
              rotate_left
              · simp only [Act.put, List.setIfInBounds_toArray, List.set_cons_zero, List.set_cons_succ, i64_w, i32_w]
                rfl
              refine pure_ (i := 8) (N := some 73) (v := ?_) (a' := ?_) #[true, true, true, true, true, true, true, true, true, false] rfl rfl (by kernel_rfl) (fun _ _ _ h => h) (Or.inl ⟨by rfl, ?_⟩) ?_ ?_
              rotate_left
              · intro w'
                go_simp
                with_reducible rfl
              rotate_left
              · simp only [Act.put, List.setIfInBounds_toArray, List.set_cons_zero, List.set_cons_succ, i64_w, i32_w]
                rfl
              refine pure_ (i := 9) (N := some 11) (v := ?_) (a' := ?_) #[true, true, true, true, true, true, true, true, true, true] rfl rfl (by kernel_rfl) (fun _ _ _ h => h) (Or.inl ⟨by rfl, ?_⟩) ?_ ?_
              rotate_left
              · intro w'
                go_simp
                with_reducible rfl
              rotate_left
              · simp only [Act.put, List.setIfInBounds_toArray, List.set_cons_zero, List.set_cons_succ, i64_w, i32_w]
                rfl
              refine done_ (by kernel_rfl) ?_

              have HB2 := Aside0.mk hHeld
              clear hHeld
              go_wp2
              go_roundw
              case rel => exact ⟨true, k + 1, rfl, by go_num, by have := hkl'.out; omega, ⟨fun _ => rfl⟩, HB2⟩
              case measure => simp only [intOf]; have := hkl'.out; omega
            | false =>
              obtain ⟨b, rfl, -, hbl, c0, c1⟩ := hIU.out k hkl
              have d0 : wr.cell? ⟨b, k * 2, none⟩ = _ := (HB.out.cell (p := ⟨b, k * 2, none⟩) hbl).trans c0
              have d1 : wr.cell? ⟨b, k * 2 + 1, none⟩ = _ := (HB.out.cell (p := ⟨b, k * 2 + 1, none⟩) hbl).trans c1
              have d2 : wr.cell? ⟨X, 0, none⟩ = some (.int .i64 x0) := (HB.out.cell (p := ⟨X, 0, none⟩) (HeapM.blk_lt bXa.out)).trans ((HeapM.blk_cell bXa.out 0).trans rfl)
              have d3 : wr.cell? ⟨X, 1, none⟩ = some (.int .i64 x1) := (HB.out.cell (p := ⟨X, 1, none⟩) (HeapM.blk_lt bXa.out)).trans ((HeapM.blk_cell bXa.out 1).trans rfl)
              obtain ⟨y0, hy0⟩ : ∃ y, (it ys k).1 = y := ⟨_, rfl⟩
              obtain ⟨y1, hy1⟩ : ∃ y, (it ys k).2 = y := ⟨_, rfl⟩
              rw [hy0] at d0
              rw [hy1] at d1
              have hne : ¬ (y0 = x0 ∧ y1 = x1) → k ≠ j0 := fun h e => h (by subst e; rw [← hy0, ← hy1, ej'.out]; exact ⟨rfl, rfl⟩)
              have hne' := Lib.hid hne
              clear c0 c1 hy0 hy1 hne
              by_cases e0 : y0 = x0
              · rw [e0] at d0
                by_cases e1 : y1 = x1
                · rw [e1] at d1
                  clear e0 e1
                  go_wp2_with fail
                  refine start_ (n := 10) (S := fun w' => w'.cell? ⟨b, k * 2, none⟩ = some (.int .i64 x0) ∧ w'.cell? ⟨b, k * 2 + 1, none⟩ = some (.int .i64 x1) ∧ w'.cell? ⟨X, 0, none⟩ = some (.int .i64 x0) ∧ w'.cell? ⟨X, 1, none⟩ = some (.int .i64 x1) ∧ Below U.heap.size U w') (ds := []) #[false, false, false, false, false, false, false, false, false, false] (by kernel_rfl) rfl rfl ⟨d0, d1, d2, d3, (by apply below_drew1; exact HB.out)⟩ (fun hHeld => ?_)
                  refine pure_ (i := 0) (N := some 65) (v := ?_) (a' := ?_) #[true, false, false, false, false, false, false, false, false, false] rfl rfl (by kernel_rfl) (fun _ _ _ h => h) (Or.inl ⟨by rfl, ?_⟩) ?_ ?_
                  rotate_left
                  · intro w'
                    go_simp
                    with_reducible rfl
                  rotate_left
                  · simp only [Act.put, List.setIfInBounds_toArray, List.set_cons_zero, List.set_cons_succ, i64_w, i32_w]
                    rfl
                  refine pure_ (i := 1) (N := some 66) (v := ?_) (a' := ?_) #[true, true, false, false, false, false, false, false, false, false] rfl rfl (by kernel_rfl) (fun _ _ _ h => h) (Or.inl ⟨by rfl, ?_⟩) ?_ ?_
                  rotate_left
                  · intro w'
                    go_simp
                    with_reducible rfl
                  rotate_left
                  · simp only [Act.put, List.setIfInBounds_toArray, List.set_cons_zero, List.set_cons_succ, i64_w, i32_w]
                    rfl
                  refine pure_ (i := 2) (N := some 67) (v := ?_) (a' := ?_) #[true, true, true, false, false, false, false, false, false, false] rfl rfl (by kernel_rfl) (fun _ _ _ h => h) (Or.inl ⟨by rfl, ?_⟩) ?_ ?_
                  rotate_left
                  · intro w'
                    go_simp
                    with_reducible rfl
                  rotate_left
                  · simp only [Act.put, List.setIfInBounds_toArray, List.set_cons_zero, List.set_cons_succ, i64_w, i32_w]
                    rfl
                  refine pure_ (i := 3) (N := some 68) (v := ?_) (a' := ?_) #[true, true, true, true, false, false, false, false, false, false] rfl rfl (by kernel_rfl) (fun _ _ _ h => h) (Or.inl ⟨by rfl, ?_⟩) ?_ ?_
                  rotate_left
                  · intro w'
                    go_simp
                    with_reducible rfl
                  rotate_left
                  · simp only [Act.put, List.setIfInBounds_toArray, List.set_cons_zero, List.set_cons_succ, i64_w, i32_w]
                    rfl
                  refine pure_ (i := 4) (N := some 69) (v := ?_) (a' := ?_) #[true, true, true, true, true, false, false, false, false, false] rfl rfl (by kernel_rfl) (fun _ _ _ h => h) (Or.inl ⟨by rfl, ?_⟩) ?_ ?_
                  rotate_left
                  · intro w'
                    go_simp
                    with_reducible rfl
                  rotate_left
                  · simp only [Act.put, List.setIfInBounds_toArray, List.set_cons_zero, List.set_cons_succ, i64_w, i32_w]
                    rfl
                  refine take_ (i := 5) (N := some 70) (v := ?_) (a' := ?_) #[true, true, true, true, true, true, false, false, false, false] rfl rfl (by kernel_rfl) (fun _ _ _ h => h) (Or.inl ⟨by rfl, ?_⟩) hHeld ?_ ?_
                  rotate_left
                  · rintro w' ⟨s0, s1, s2, s3, s4⟩
                    go_simp
                    with_reducible rfl
                  rotate_left
                  · simp only [Act.put, List.setIfInBounds_toArray, List.set_cons_zero, List.set_cons_succ, i64_w, i32_w]
                    rfl
                  refine take_ (i := 6) (N := some 71) (v := ?_) (a' := ?_) #[true, true, true, true, true, true, true, false, false, false] rfl rfl (by kernel_rfl) (fun _ _ _ h => h) (Or.inl ⟨by rfl, ?_⟩) hHeld ?_ ?_
                  rotate_left
                  · rintro w' ⟨s0, s1, s2, s3, s4⟩
                    go_simp
                    with_reducible rfl
                  rotate_left
                  · simp only [Act.put, List.setIfInBounds_toArray, List.set_cons_zero, List.set_cons_succ, i64_w, i32_w]
                    rfl
                  refine pure_ (i := 7) (N := some 72) (v := ?_) (a' := ?_) #[true, true, true, true, true, true, true, true, false, false] rfl rfl (by kernel_rfl) (fun _ _ _ h => h) (Or.inl ⟨by rfl, ?_⟩) ?_ ?_
                  rotate_left
                  · intro w'
                    go_simp
                    with_reducible rfl
                  rotate_left
                  · simp only [Act.put, List.setIfInBounds_toArray, List.set_cons_zero, List.set_cons_succ, i64_w, i32_w]
                    rfl
                  refine pure_ (i := 8) (N := some 73) (v := ?_) (a' := ?_) #[true, true, true, true, true, true, true, true, true, false] rfl rfl (by kernel_rfl) (fun _ _ _ h => h) (Or.inl ⟨by rfl, ?_⟩) ?_ ?_
                  rotate_left
                  · intro w'
                    go_simp
                    with_reducible rfl
                  rotate_left
                  · simp only [Act.put, List.setIfInBounds_toArray, List.set_cons_zero, List.set_cons_succ, i64_w, i32_w]
                    rfl
                  refine pure_ (i := 9) (N := some 11) (v := ?_) (a' := ?_) #[true, true, true, true, true, true, true, true, true, true] rfl rfl (by kernel_rfl) (fun _ _ _ h => h) (Or.inl ⟨by rfl, ?_⟩) ?_ ?_
                  rotate_left
                  · intro w'
                    go_simp
                    with_reducible rfl
                  rotate_left
                  · simp only [Act.put, List.setIfInBounds_toArray, List.set_cons_zero, List.set_cons_succ, i64_w, i32_w]
                    rfl
                  refine done_ (by kernel_rfl) ?_

                  have HB2 := Aside0.mk hHeld.2.2.2.2
                  clear hHeld d0 d1 d2 d3
                  go_wp2
                  go_roundw
                  case rel => exact ⟨true, k + 1, rfl, by go_num, by have := hkl'.out; omega, ⟨(fun _ => rfl)⟩, HB2⟩
                  case measure => simp only [intOf]; have := hkl'.out; omega
                · have hj2 := Aside0.mk (hne'.out (fun h => e1 h.2))
                  have eb : (y1 == x1) = false := beq_eq_false_iff_ne.2 e1
                  have eq : (y1 = x1) = False := eq_false e1
                  clear e0
                  go_wp2_with fail
                  refine start_ (n := 10) (S := fun w' => w'.cell? ⟨b, k * 2, none⟩ = some (.int .i64 x0) ∧ w'.cell? ⟨b, k * 2 + 1, none⟩ = some (.int .i64 y1) ∧ w'.cell? ⟨X, 0, none⟩ = some (.int .i64 x0) ∧ w'.cell? ⟨X, 1, none⟩ = some (.int .i64 x1) ∧ Below U.heap.size U w') (ds := []) #[false, false, false, false, false, false, false, false, false, false] (by kernel_rfl) rfl rfl ⟨d0, d1, d2, d3, (by apply below_drew1; exact HB.out)⟩ (fun hHeld => ?_)
                  refine pure_ (i := 0) (N := some 65) (v := ?_) (a' := ?_) #[true, false, false, false, false, false, false, false, false, false] rfl rfl (by kernel_rfl) (fun _ _ _ h => h) (Or.inl ⟨by rfl, ?_⟩) ?_ ?_
                  rotate_left
                  · intro w'
                    go_simp
                    with_reducible rfl
                  rotate_left
                  · simp only [Act.put, List.setIfInBounds_toArray, List.set_cons_zero, List.set_cons_succ, i64_w, i32_w]
                    rfl
                  refine pure_ (i := 1) (N := some 66) (v := ?_) (a' := ?_) #[true, true, false, false, false, false, false, false, false, false] rfl rfl (by kernel_rfl) (fun _ _ _ h => h) (Or.inl ⟨by rfl, ?_⟩) ?_ ?_
                  rotate_left
                  · intro w'
                    go_simp
                    with_reducible rfl
                  rotate_left
                  · simp only [Act.put, List.setIfInBounds_toArray, List.set_cons_zero, List.set_cons_succ, i64_w, i32_w]
                    rfl
                  refine pure_ (i := 2) (N := some 67) (v := ?_) (a' := ?_) #[true, true, true, false, false, false, false, false, false, false] rfl rfl (by kernel_rfl) (fun _ _ _ h => h) (Or.inl ⟨by rfl, ?_⟩) ?_ ?_
                  rotate_left
                  · intro w'
                    go_simp
                    with_reducible rfl
                  rotate_left
                  · simp only [Act.put, List.setIfInBounds_toArray, List.set_cons_zero, List.set_cons_succ, i64_w, i32_w]
                    rfl
                  refine pure_ (i := 3) (N := some 68) (v := ?_) (a' := ?_) #[true, true, true, true, false, false, false, false, false, false] rfl rfl (by kernel_rfl) (fun _ _ _ h => h) (Or.inl ⟨by rfl, ?_⟩) ?_ ?_
                  rotate_left
                  · intro w'
                    go_simp
                    with_reducible rfl
                  rotate_left
                  · simp only [Act.put, List.setIfInBounds_toArray, List.set_cons_zero, List.set_cons_succ, i64_w, i32_w]
                    rfl
                  refine pure_ (i := 4) (N := some 69) (v := ?_) (a' := ?_) #[true, true, true, true, true, false, false, false, false, false] rfl rfl (by kernel_rfl) (fun _ _ _ h => h) (Or.inl ⟨by rfl, ?_⟩) ?_ ?_
                  rotate_left
                  · intro w'
                    go_simp
                    with_reducible rfl
                  rotate_left
                  · simp only [Act.put, List.setIfInBounds_toArray, List.set_cons_zero, List.set_cons_succ, i64_w, i32_w]
                    rfl
                  refine take_ (i := 5) (N := some 70) (v := ?_) (a' := ?_) #[true, true, true, true, true, true, false, false, false, false] rfl rfl (by kernel_rfl) (fun _ _ _ h => h) (Or.inl ⟨by rfl, ?_⟩) hHeld ?_ ?_
                  rotate_left
                  · rintro w' ⟨s0, s1, s2, s3, s4⟩
                    go_simp
                    with_reducible rfl
                  rotate_left
                  · simp only [Act.put, List.setIfInBounds_toArray, List.set_cons_zero, List.set_cons_succ, i64_w, i32_w]
                    rfl
                  refine take_ (i := 6) (N := some 71) (v := ?_) (a' := ?_) #[true, true, true, true, true, true, true, false, false, false] rfl rfl (by kernel_rfl) (fun _ _ _ h => h) (Or.inl ⟨by rfl, ?_⟩) hHeld ?_ ?_
                  rotate_left
                  · rintro w' ⟨s0, s1, s2, s3, s4⟩
                    go_simp
                    with_reducible rfl
                  rotate_left
                  · simp only [Act.put, List.setIfInBounds_toArray, List.set_cons_zero, List.set_cons_succ, i64_w, i32_w]
                    rfl
                  refine pure_ (i := 7) (N := some 72) (v := ?_) (a' := ?_) #[true, true, true, true, true, true, true, true, false, false] rfl rfl (by kernel_rfl) (fun _ _ _ h => h) (Or.inl ⟨by rfl, ?_⟩) ?_ ?_
                  rotate_left
                  · intro w'
                    go_simp
                    with_reducible rfl
                  rotate_left
                  · simp only [Act.put, List.setIfInBounds_toArray, List.set_cons_zero, List.set_cons_succ, i64_w, i32_w]
                    rfl
                  refine pure_ (i := 8) (N := some 73) (v := ?_) (a' := ?_) #[true, true, true, true, true, true, true, true, true, false] rfl rfl (by kernel_rfl) (fun _ _ _ h => h) (Or.inl ⟨by rfl, ?_⟩) ?_ ?_
                  rotate_left
                  · intro w'
                    go_simp
                    with_reducible rfl
                  rotate_left
                  · simp only [Act.put, List.setIfInBounds_toArray, List.set_cons_zero, List.set_cons_succ, i64_w, i32_w]
                    rfl
                  refine pure_ (i := 9) (N := some 11) (v := ?_) (a' := ?_) #[true, true, true, true, true, true, true, true, true, true] rfl rfl (by kernel_rfl) (fun _ _ _ h => h) (Or.inl ⟨by rfl, ?_⟩) ?_ ?_
                  rotate_left
                  · intro w'
                    go_simp
                    with_reducible rfl
                  rotate_left
                  · simp only [Act.put, List.setIfInBounds_toArray, List.set_cons_zero, List.set_cons_succ, i64_w, i32_w]
                    rfl
                  refine done_ (by kernel_rfl) ?_

                  have HB2 := Aside0.mk hHeld.2.2.2.2
                  clear hHeld d0 d1 d2 d3
                  go_wp2
                  go_roundw
                  case rel => exact ⟨false, k + 1, rfl, by go_num, by have := hkl'.out; omega, ⟨(fun h => hbj.out (by have := hj2.out; omega))⟩, HB2⟩
                  case measure => simp only [intOf]; have := hkl'.out; omega
              · have hj2 := Aside0.mk (hne'.out (fun h => e0 h.1))
                have eb : (y0 == x0) = false := beq_eq_false_iff_ne.2 e0
                have eq : (y0 = x0) = False := eq_false e0
                go_wp2_with fail
                refine start_ (n := 10) (S := fun w' => w'.cell? ⟨b, k * 2, none⟩ = some (.int .i64 y0) ∧ w'.cell? ⟨b, k * 2 + 1, none⟩ = some (.int .i64 y1) ∧ w'.cell? ⟨X, 0, none⟩ = some (.int .i64 x0) ∧ w'.cell? ⟨X, 1, none⟩ = some (.int .i64 x1) ∧ Below U.heap.size U w') (ds := []) #[false, false, false, false, false, false, false, false, false, false] (by kernel_rfl) rfl rfl ⟨d0, d1, d2, d3, (by apply below_drew1; exact HB.out)⟩ (fun hHeld => ?_)
                refine pure_ (i := 0) (N := some 65) (v := ?_) (a' := ?_) #[true, false, false, false, false, false, false, false, false, false] rfl rfl (by kernel_rfl) (fun _ _ _ h => h) (Or.inl ⟨by rfl, ?_⟩) ?_ ?_
                rotate_left
                · intro w'
                  go_simp
                  with_reducible rfl
                rotate_left
                · simp only [Act.put, List.setIfInBounds_toArray, List.set_cons_zero, List.set_cons_succ, i64_w, i32_w]
                  rfl
                refine pure_ (i := 1) (N := some 66) (v := ?_) (a' := ?_) #[true, true, false, false, false, false, false, false, false, false] rfl rfl (by kernel_rfl) (fun _ _ _ h => h) (Or.inl ⟨by rfl, ?_⟩) ?_ ?_
                rotate_left
                · intro w'
                  go_simp
                  with_reducible rfl
                rotate_left
                · simp only [Act.put, List.setIfInBounds_toArray, List.set_cons_zero, List.set_cons_succ, i64_w, i32_w]
                  rfl
                refine pure_ (i := 2) (N := some 67) (v := ?_) (a' := ?_) #[true, true, true, false, false, false, false, false, false, false] rfl rfl (by kernel_rfl) (fun _ _ _ h => h) (Or.inl ⟨by rfl, ?_⟩) ?_ ?_
                rotate_left
                · intro w'
                  go_simp
                  with_reducible rfl
                rotate_left
                · simp only [Act.put, List.setIfInBounds_toArray, List.set_cons_zero, List.set_cons_succ, i64_w, i32_w]
                  rfl
                refine pure_ (i := 3) (N := some 68) (v := ?_) (a' := ?_) #[true, true, true, true, false, false, false, false, false, false] rfl rfl (by kernel_rfl) (fun _ _ _ h => h) (Or.inl ⟨by rfl, ?_⟩) ?_ ?_
                rotate_left
                · intro w'
                  go_simp
                  with_reducible rfl
                rotate_left
                · simp only [Act.put, List.setIfInBounds_toArray, List.set_cons_zero, List.set_cons_succ, i64_w, i32_w]
                  rfl
                refine pure_ (i := 4) (N := some 69) (v := ?_) (a' := ?_) #[true, true, true, true, true, false, false, false, false, false] rfl rfl (by kernel_rfl) (fun _ _ _ h => h) (Or.inl ⟨by rfl, ?_⟩) ?_ ?_
                rotate_left
                · intro w'
                  go_simp
                  with_reducible rfl
                rotate_left
                · simp only [Act.put, List.setIfInBounds_toArray, List.set_cons_zero, List.set_cons_succ, i64_w, i32_w]
                  rfl
                refine take_ (i := 5) (N := some 70) (v := ?_) (a' := ?_) #[true, true, true, true, true, true, false, false, false, false] rfl rfl (by kernel_rfl) (fun _ _ _ h => h) (Or.inl ⟨by rfl, ?_⟩) hHeld ?_ ?_
                rotate_left
                · rintro w' ⟨s0, s1, s2, s3, s4⟩
                  go_simp
                  with_reducible rfl
                rotate_left
                · simp only [Act.put, List.setIfInBounds_toArray, List.set_cons_zero, List.set_cons_succ, i64_w, i32_w]
                  rfl
                refine take_ (i := 6) (N := some 71) (v := ?_) (a' := ?_) #[true, true, true, true, true, true, true, false, false, false] rfl rfl (by kernel_rfl) (fun _ _ _ h => h) (Or.inl ⟨by rfl, ?_⟩) hHeld ?_ ?_
                rotate_left
                · rintro w' ⟨s0, s1, s2, s3, s4⟩
                  go_simp
                  with_reducible rfl
                rotate_left
                · simp only [Act.put, List.setIfInBounds_toArray, List.set_cons_zero, List.set_cons_succ, i64_w, i32_w]
                  rfl
                refine pure_ (i := 7) (N := some 72) (v := ?_) (a' := ?_) #[true, true, true, true, true, true, true, true, false, false] rfl rfl (by kernel_rfl) (fun _ _ _ h => h) (Or.inl ⟨by rfl, ?_⟩) ?_ ?_
                rotate_left
                · intro w'
                  go_simp
                  with_reducible rfl
                rotate_left
                · simp only [Act.put, List.setIfInBounds_toArray, List.set_cons_zero, List.set_cons_succ, i64_w, i32_w]
                  rfl
                refine pure_ (i := 8) (N := some 73) (v := ?_) (a' := ?_) #[true, true, true, true, true, true, true, true, true, false] rfl rfl (by kernel_rfl) (fun _ _ _ h => h) (Or.inl ⟨by rfl, ?_⟩) ?_ ?_
                rotate_left
                · intro w'
                  go_simp
                  with_reducible rfl
                rotate_left
                · simp only [Act.put, List.setIfInBounds_toArray, List.set_cons_zero, List.set_cons_succ, i64_w, i32_w]
                  rfl
                refine pure_ (i := 9) (N := some 11) (v := ?_) (a' := ?_) #[true, true, true, true, true, true, true, true, true, true] rfl rfl (by kernel_rfl) (fun _ _ _ h => h) (Or.inl ⟨by rfl, ?_⟩) ?_ ?_
                rotate_left
                · intro w'
                  go_simp
                  with_reducible rfl
                rotate_left
                · simp only [Act.put, List.setIfInBounds_toArray, List.set_cons_zero, List.set_cons_succ, i64_w, i32_w]
                  rfl
                refine done_ (by kernel_rfl) ?_

                have HB2 := Aside0.mk hHeld.2.2.2.2
                clear hHeld d0 d1 d2 d3
                go_wp2
                go_roundw
                case rel => exact ⟨false, k + 1, rfl, by go_num, by have := hkl'.out; omega, ⟨(fun h => hbj.out (by have := hj2.out; omega))⟩, HB2⟩
                case measure => simp only [intOf]; have := hkl'.out; omega
          · obtain rfl : n = k := by omega
            obtain rfl : hb = true := hbj.out hj0'.out
            have HW := Lib.hid (HU'.out.below HB.out)
            have HLn := Lib.hid (HW.out.len)
            have hsub : ((n - i - 1 : Nat) : Int) = (n : Int) - 1 - i := by have := hlt'.out; omega
            have hw5 : wrap64 ((n : Int) - 1) = n - 1 := by unfold wrap64; omega
            have hw6 : wrap64 ((n : Int) - 1 - i) = n - 1 - i := by have := hlt'.out; unfold wrap64; omega
            have z0 : wr.cell? ⟨X, 0, none⟩ = some (.int .i64 x0) := (HB.out.cell (p := ⟨X, 0, none⟩) (HeapM.blk_lt bXa.out)).trans ((HeapM.blk_cell bXa.out 0).trans rfl)
            have z1 : wr.cell? ⟨X, 1, none⟩ = some (.int .i64 x1) := (HB.out.cell (p := ⟨X, 1, none⟩) (HeapM.blk_lt bXa.out)).trans ((HeapM.blk_cell bXa.out 1).trans rfl)
            have bLw := (HB.out.block _ (HeapM.blk_lt bL5'.out)).trans bL5'.out
            have z2 : wr.cell? ⟨L, 0, none⟩ = some (.int .i64 lk) := (HeapM.blk_cell bLw 0).trans rfl
            have z3 : wr.cell? ⟨L, 1, none⟩ = some (.int .i64 lp) := (HeapM.blk_cell bLw 1).trans rfl
            have f0 := HeapM.blk_free bLw 0
            have f1 := HeapM.blk_free bLw 1
            have bLw' := Aside0.mk bLw
            have hLX : L ≠ X := fun e => by have h1 := hXa.out; have h2 := HeapM.blk_lt hL5.out; omega
            clear bLw
            go_wp2_with fail
            refine HLn.out.mono ?_
            rintro e w6 ⟨rfl, rfl⟩
            rw [hsub]
            go_wp2_with fail
            have A1 : Aside0 (Held ((wr.setCell ⟨L, 0, none⟩ (.int .i64 x0)).setCell ⟨L, 1, none⟩ (.int .i64 x1)) g (upd Ci x0 none) 1000 (n - (i + 1)) (Ni + 4000010) (fun q => D3 q ∨ q = L)) := ⟨by
              have h1 := HW.out.less (D' := fun q => D3 q ∨ q = L) (fun q e => .inl e)
              rw [show n - i - 1 = n - (i + 1) by omega] at h1
              exact (h1.set L 0 (.int .i64 x0) (.inr rfl)).set L 1 (.int .i64 x1) (.inr rfl)⟩
            have A2 := HeapM.blk_set_same (HeapM.blk_set_same bLw'.out 0 (.int .i64 x0) (by simp)) 1 (.int .i64 x1) (by simp)
            have A3 : Aside0 (Its ((wr.setCell ⟨L, 0, none⟩ (.int .i64 x0)).setCell ⟨L, 1, none⟩ (.int .i64 x1)) D3 (.slice a3 n cap3) ys) := ⟨(IU.out.kept (Kept.of_below HB.out)).kept (((Kept.refl _ _).set L 0 _ hLD.out).set L 1 _ hLD.out)⟩
            have A4 : Aside0 (Kept w ((wr.setCell ⟨L, 0, none⟩ (.int .i64 x0)).setCell ⟨L, 1, none⟩ (.int .i64 x1)) (fun k => k < w.heap.size)) := ⟨((KK.out.trans (Kept.of_below HB.out)).set L 0 _ hLw.out).set L 1 _ hLw.out⟩
            refine ⟨⟨i + 1, _, _, x0, x1, by first | rfl | (push_cast; rfl), by have := hlt'.out; omega, A1, ⟨by have := HN.out; omega⟩, HM2, ⟨A2⟩, A3, A4⟩, ?_⟩
            simp only [intOf]
            have := hlt'.out
            omega
      · clear HH
        have g4 : decide (0 < i) = true := decide_eq_true (by have := of_decide_eq_true g0; omega)
        go_wp2_with fail
        rw [← hUa.out, ← hXa.out]
        clear q0 q1 q2 q3 g0 g1 g2 g3 g4
        go_loopw [11, 12] (fun vh vk ws => ∃ (hb : Bool) (k : Nat), vh = .bool hb ∧ vk = .int .i64 k ∧ k ≤ n ∧ Aside0 (j0 < k → hb = true) ∧ Aside0 (Below U.heap.size U ws)) (fun _ vk _ => n - (intOf vk).toNat)
        case atStart => exact ⟨false, 0, rfl, rfl, by omega, ⟨fun h => absurd h (by omega)⟩, ⟨Below.refl _ _⟩⟩
        case round =>
          obtain ⟨hb, k, rfl, rfl, hkn, hbj, HB⟩ := hrel
          by_cases hkl : k < n
          · have hkl' := Aside0.mk hkl
            have hw2 : wrap64 ((k : Int) + 1) = k + 1 := by unfold wrap64; omega
            cases hb with
            | true =>
              go_wp2_with fail
              refine start_ (n := 10) (S := fun w' => Below U.heap.size U w') (ds := []) #[false, false, false, false, false, false, false, false, false, false] (by kernel_rfl) rfl rfl ((by apply below_drew1; exact HB.out)) (fun hHeld => ?_)
              refine pure_ (i := 0) (N := some 65) (v := ?_) (a' := ?_) #[true, false, false, false, false, false, false, false, false, false] rfl rfl (by kernel_rfl) (fun _ _ _ h => h) (Or.inl ⟨by rfl, ?_⟩) ?_ ?_
              rotate_left
              · intro w'
                go_simp
                with_reducible rfl
              rotate_left
              · simp only [Act.put, List.setIfInBounds_toArray, List.set_cons_zero, List.set_cons_succ, i64_w, i32_w]
                rfl
              refine pure_ (i := 1) (N := some 66) (v := ?_) (a' := ?_) #[true, true, false, false, false, false, false, false, false, false] rfl rfl (by kernel_rfl) (fun _ _ _ h => h) (Or.inl ⟨by rfl, ?_⟩) ?_ ?_
              rotate_left
              · intro w'
                go_simp
                with_reducible rfl
              rotate_left
              · simp only [Act.put, List.setIfInBounds_toArray, List.set_cons_zero, List.set_cons_succ, i64_w, i32_w]
                rfl
              refine pure_ (i := 2) (N := some 67) (v := undef) (a' := ?_) #[true, true, true, false, false, false, false, false, false, false] rfl rfl (by kernel_rfl) (fun _ _ _ h => h) (Or.inr ⟨by rfl, rfl⟩) ?_ ?_
              rotate_left
              · simp only [Act.put, List.setIfInBounds_toArray, List.set_cons_zero, List.set_cons_succ, i64_w, i32_w]
                rfl
              refine pure_ (i := 3) (N := some 68) (v := undef) (a' := ?_) #[true, true, true, true, false, false, false, false, false, false] rfl rfl (by kernel_rfl) (fun _ _ _ h => h) (Or.inr ⟨by rfl, rfl⟩) ?_ ?_
              rotate_left
              · simp only [Act.put, List.setIfInBounds_toArray, List.set_cons_zero, List.set_cons_succ, i64_w, i32_w]
                rfl
              refine pure_ (i := 4) (N := some 69) (v := undef) (a' := ?_) #[true, true, true, true, true, false, false, false, false, false] rfl rfl (by kernel_rfl) (fun _ _ _ h => h) (Or.inr ⟨by rfl, rfl⟩) ?_ ?_
              rotate_left
              · simp only [Act.put, List.setIfInBounds_toArray, List.set_cons_zero, List.set_cons_succ, i64_w, i32_w]
                rfl
              refine pure_ (i := 5) (N := some 70) (v := undef) (a' := ?_) #[true, true, true, true, true, true, false, false, false, false] rfl rfl (by kernel_rfl) (fun _ _ _ h => h) (Or.inr ⟨by rfl, rfl⟩) ?_ ?_
              rotate_left
              · simp only [Act.put, List.setIfInBounds_toArray, List.set_cons_zero, List.set_cons_succ, i64_w, i32_w]
                rfl
              refine pure_ (i := 6) (N := some 71) (v := undef) (a' := ?_) #[true, true, true, true, true, true, true, false, false, false] rfl rfl (by kernel_rfl) (fun _ _ _ h => h) (Or.inr ⟨by rfl, rfl⟩) ?_ ?_
              rotate_left
              · simp only [Act.put, List.setIfInBounds_toArray, List.set_cons_zero, List.set_cons_succ, i64_w, i32_w]
                rfl
              refine pure_ (i := 7) (N := some 72) (v := undef) (a' := ?_) #[true, true, true, true, true, true, true, true, false, false] rfl rfl (by kernel_rfl) (fun _ _ _ h => h) (Or.inr ⟨by rfl, rfl⟩) ?_ ?_
              rotate_left
              · simp only [Act.put, List.setIfInBounds_toArray, List.set_cons_zero, List.set_cons_succ, i64_w, i32_w]
                rfl
              refine pure_ (i := 8) (N := some 73) (v := ?_) (a' := ?_) #[true, true, true, true, true, true, true, true, true, false] rfl rfl (by kernel_rfl) (fun _ _ _ h => h) (Or.inl ⟨by rfl, ?_⟩) ?_ ?_
              rotate_left
              · intro w'
                go_simp
                with_reducible rfl
              rotate_left
              · simp only [Act.put, List.setIfInBounds_toArray, List.set_cons_zero, List.set_cons_succ, i64_w, i32_w]
                rfl
              refine pure_ (i := 9) (N := some 11) (v := ?_) (a' := ?_) #[true, true, true, true, true, true, true, true, true, true] rfl rfl (by kernel_rfl) (fun _ _ _ h => h) (Or.inl ⟨by rfl, ?_⟩) ?_ ?_
              rotate_left
              · intro w'
                go_simp
                with_reducible rfl
              rotate_left
              · simp only [Act.put, List.setIfInBounds_toArray, List.set_cons_zero, List.set_cons_succ, i64_w, i32_w]
                rfl
              refine done_ (by kernel_rfl) ?_

              have HB2 := Aside0.mk hHeld
              clear hHeld
              go_wp2
              go_roundw
              case rel => exact ⟨true, k + 1, rfl, by go_num, by have := hkl'.out; omega, ⟨fun _ => rfl⟩, HB2⟩
              case measure => simp only [intOf]; have := hkl'.out; omega
            | false =>
              obtain ⟨b, rfl, -, hbl, c0, c1⟩ := hIU.out k hkl
              have d0 : wr.cell? ⟨b, k * 2, none⟩ = _ := (HB.out.cell (p := ⟨b, k * 2, none⟩) hbl).trans c0
              have d1 : wr.cell? ⟨b, k * 2 + 1, none⟩ = _ := (HB.out.cell (p := ⟨b, k * 2 + 1, none⟩) hbl).trans c1
              have d2 : wr.cell? ⟨X, 0, none⟩ = some (.int .i64 x0) := (HB.out.cell (p := ⟨X, 0, none⟩) (HeapM.blk_lt bXa.out)).trans ((HeapM.blk_cell bXa.out 0).trans rfl)
              have d3 : wr.cell? ⟨X, 1, none⟩ = some (.int .i64 x1) := (HB.out.cell (p := ⟨X, 1, none⟩) (HeapM.blk_lt bXa.out)).trans ((HeapM.blk_cell bXa.out 1).trans rfl)
              obtain ⟨y0, hy0⟩ : ∃ y, (it ys k).1 = y := ⟨_, rfl⟩
              obtain ⟨y1, hy1⟩ : ∃ y, (it ys k).2 = y := ⟨_, rfl⟩
              rw [hy0] at d0
              rw [hy1] at d1
              have hne : ¬ (y0 = x0 ∧ y1 = x1) → k ≠ j0 := fun h e => h (by subst e; rw [← hy0, ← hy1, ej'.out]; exact ⟨rfl, rfl⟩)
              have hne' := Lib.hid hne
              clear c0 c1 hy0 hy1 hne
              by_cases e0 : y0 = x0
              · rw [e0] at d0
                by_cases e1 : y1 = x1
                · rw [e1] at d1
                  clear e0 e1
                  go_wp2_with fail
                  refine start_ (n := 10) (S := fun w' => w'.cell? ⟨b, k * 2, none⟩ = some (.int .i64 x0) ∧ w'.cell? ⟨b, k * 2 + 1, none⟩ = some (.int .i64 x1) ∧ w'.cell? ⟨X, 0, none⟩ = some (.int .i64 x0) ∧ w'.cell? ⟨X, 1, none⟩ = some (.int .i64 x1) ∧ Below U.heap.size U w') (ds := []) #[false, false, false, false, false, false, false, false, false, false] (by kernel_rfl) rfl rfl ⟨d0, d1, d2, d3, (by apply below_drew1; exact HB.out)⟩ (fun hHeld => ?_)
                  refine pure_ (i := 0) (N := some 65) (v := ?_) (a' := ?_) #[true, false, false, false, false, false, false, false, false, false] rfl rfl (by kernel_rfl) (fun _ _ _ h => h) (Or.inl ⟨by rfl, ?_⟩) ?_ ?_
                  rotate_left
                  · intro w'
                    go_simp
                    with_reducible rfl
                  rotate_left
                  · simp only [Act.put, List.setIfInBounds_toArray, List.set_cons_zero, List.set_cons_succ, i64_w, i32_w]
                    rfl
                  refine pure_ (i := 1) (N := some 66) (v := ?_) (a' := ?_) #[true, true, false, false, false, false, false, false, false, false] rfl rfl (by kernel_rfl) (fun _ _ _ h => h) (Or.inl ⟨by rfl, ?_⟩) ?_ ?_
                  rotate_left
                  · intro w'
                    go_simp
                    with_reducible rfl
                  rotate_left
                  · simp only [Act.put, List.setIfInBounds_toArray, List.set_cons_zero, List.set_cons_succ, i64_w, i32_w]
                    rfl
                  refine pure_ (i := 2) (N := some 67) (v := ?_) (a' := ?_) #[true, true, true, false, false, false, false, false, false, false] rfl rfl (by kernel_rfl) (fun _ _ _ h => h) (Or.inl ⟨by rfl, ?_⟩) ?_ ?_
                  rotate_left
                  · intro w'
                    go_simp
                    with_reducible rfl
                  rotate_left
                  · simp only [Act.put, List.setIfInBounds_toArray, List.set_cons_zero, List.set_cons_succ, i64_w, i32_w]
                    rfl
                  refine pure_ (i := 3) (N := some 68) (v := ?_) (a' := ?_) #[true, true, true, true, false, false, false, false, false, false] rfl rfl (by kernel_rfl) (fun _ _ _ h => h) (Or.inl ⟨by rfl, ?_⟩) ?_ ?_
                  rotate_left
                  · intro w'
                    go_simp
                    with_reducible rfl
                  rotate_left
                  · simp only [Act.put, List.setIfInBounds_toArray, List.set_cons_zero, List.set_cons_succ, i64_w, i32_w]
                    rfl
                  refine pure_ (i := 4) (N := some 69) (v := ?_) (a' := ?_) #[true, true, true, true, true, false, false, false, false, false] rfl rfl (by kernel_rfl) (fun _ _ _ h => h) (Or.inl ⟨by rfl, ?_⟩) ?_ ?_
                  rotate_left
                  · intro w'
                    go_simp
                    with_reducible rfl
                  rotate_left
                  · simp only [Act.put, List.setIfInBounds_toArray, List.set_cons_zero, List.set_cons_succ, i64_w, i32_w]
                    rfl
                  refine take_ (i := 5) (N := some 70) (v := ?_) (a' := ?_) #[true, true, true, true, true, true, false, false, false, false] rfl rfl (by kernel_rfl) (fun _ _ _ h => h) (Or.inl ⟨by rfl, ?_⟩) hHeld ?_ ?_
                  rotate_left
                  · rintro w' ⟨s0, s1, s2, s3, s4⟩
                    go_simp
                    with_reducible rfl
                  rotate_left
                  · simp only [Act.put, List.setIfInBounds_toArray, List.set_cons_zero, List.set_cons_succ, i64_w, i32_w]
                    rfl
                  refine take_ (i := 6) (N := some 71) (v := ?_) (a' := ?_) #[true, true, true, true, true, true, true, false, false, false] rfl rfl (by kernel_rfl) (fun _ _ _ h => h) (Or.inl ⟨by rfl, ?_⟩) hHeld ?_ ?_
                  rotate_left
                  · rintro w' ⟨s0, s1, s2, s3, s4⟩
                    go_simp
                    with_reducible rfl
                  rotate_left
                  · simp only [Act.put, List.setIfInBounds_toArray, List.set_cons_zero, List.set_cons_succ, i64_w, i32_w]
                    rfl
                  refine pure_ (i := 7) (N := some 72) (v := ?_) (a' := ?_) #[true, true, true, true, true, true, true, true, false, false] rfl rfl (by kernel_rfl) (fun _ _ _ h => h) (Or.inl ⟨by rfl, ?_⟩) ?_ ?_
                  rotate_left
                  · intro w'
                    go_simp
                    with_reducible rfl
                  rotate_left
                  · simp only [Act.put, List.setIfInBounds_toArray, List.set_cons_zero, List.set_cons_succ, i64_w, i32_w]
                    rfl
                  refine pure_ (i := 8) (N := some 73) (v := ?_) (a' := ?_) #[true, true, true, true, true, true, true, true, true, false] rfl rfl (by kernel_rfl) (fun _ _ _ h => h) (Or.inl ⟨by rfl, ?_⟩) ?_ ?_
                  rotate_left
                  · intro w'
                    go_simp
                    with_reducible rfl
                  rotate_left
                  · simp only [Act.put, List.setIfInBounds_toArray, List.set_cons_zero, List.set_cons_succ, i64_w, i32_w]
                    rfl
                  refine pure_ (i := 9) (N := some 11) (v := ?_) (a' := ?_) #[true, true, true, true, true, true, true, true, true, true] rfl rfl (by kernel_rfl) (fun _ _ _ h => h) (Or.inl ⟨by rfl, ?_⟩) ?_ ?_
                  rotate_left
                  · intro w'
                    go_simp
                    with_reducible rfl
                  rotate_left
                  · simp only [Act.put, List.setIfInBounds_toArray, List.set_cons_zero, List.set_cons_succ, i64_w, i32_w]
                    rfl
                  refine done_ (by kernel_rfl) ?_

                  have HB2 := Aside0.mk hHeld.2.2.2.2
                  clear hHeld d0 d1 d2 d3
                  go_wp2
                  go_roundw
                  case rel => exact ⟨true, k + 1, rfl, by go_num, by have := hkl'.out; omega, ⟨(fun _ => rfl)⟩, HB2⟩
                  case measure => simp only [intOf]; have := hkl'.out; omega
                · have hj2 := Aside0.mk (hne'.out (fun h => e1 h.2))
                  have eb : (y1 == x1) = false := beq_eq_false_iff_ne.2 e1
                  have eq : (y1 = x1) = False := eq_false e1
                  clear e0
                  go_wp2_with fail
                  refine start_ (n := 10) (S := fun w' => w'.cell? ⟨b, k * 2, none⟩ = some (.int .i64 x0) ∧ w'.cell? ⟨b, k * 2 + 1, none⟩ = some (.int .i64 y1) ∧ w'.cell? ⟨X, 0, none⟩ = some (.int .i64 x0) ∧ w'.cell? ⟨X, 1, none⟩ = some (.int .i64 x1) ∧ Below U.heap.size U w') (ds := []) #[false, false, false, false, false, false, false, false, false, false] (by kernel_rfl) rfl rfl ⟨d0, d1, d2, d3, (by apply below_drew1; exact HB.out)⟩ (fun hHeld => ?_)
                  refine pure_ (i := 0) (N := some 65) (v := ?_) (a' := ?_) #[true, false, false, false, false, false, false, false, false, false] rfl rfl (by kernel_rfl) (fun _ _ _ h => h) (Or.inl ⟨by rfl, ?_⟩) ?_ ?_
                  rotate_left
                  · intro w'
                    go_simp
                    with_reducible rfl
                  rotate_left
                  · simp only [Act.put, List.setIfInBounds_toArray, List.set_cons_zero, List.set_cons_succ, i64_w, i32_w]
                    rfl
                  refine pure_ (i := 1) (N := some 66) (v := ?_) (a' := ?_) #[true, true, false, false, false, false, false, false, false, false] rfl rfl (by kernel_rfl) (fun _ _ _ h => h) (Or.inl ⟨by rfl, ?_⟩) ?_ ?_
                  rotate_left
                  · intro w'
                    go_simp
                    with_reducible rfl
                  rotate_left
                  · simp only [Act.put, List.setIfInBounds_toArray, List.set_cons_zero, List.set_cons_succ, i64_w, i32_w]
                    rfl
                  refine pure_ (i := 2) (N := some 67) (v := ?_) (a' := ?_) #[true, true, true, false, false, false, false, false, false, false] rfl rfl (by kernel_rfl) (fun _ _ _ h => h) (Or.inl ⟨by rfl, ?_⟩) ?_ ?_
                  rotate_left
                  · intro w'
                    go_simp
                    with_reducible rfl
                  rotate_left
                  · simp only [Act.put, List.setIfInBounds_toArray, List.set_cons_zero, List.set_cons_succ, i64_w, i32_w]
                    rfl
                  refine pure_ (i := 3) (N := some 68) (v := ?_) (a' := ?_) #[true, true, true, true, false, false, false, false, false, false] rfl rfl (by kernel_rfl) (fun _ _ _ h => h) (Or.inl ⟨by rfl, ?_⟩) ?_ ?_
                  rotate_left
                  · intro w'
                    go_simp
                    with_reducible rfl
                  rotate_left
                  · simp only [Act.put, List.setIfInBounds_toArray, List.set_cons_zero, List.set_cons_succ, i64_w, i32_w]
                    rfl
                  refine pure_ (i := 4) (N := some 69) (v := ?_) (a' := ?_) #[true, true, true, true, true, false, false, false, false, false] rfl rfl (by kernel_rfl) (fun _ _ _ h => h) (Or.inl ⟨by rfl, ?_⟩) ?_ ?_
                  rotate_left
                  · intro w'
                    go_simp
                    with_reducible rfl
                  rotate_left
                  · simp only [Act.put, List.setIfInBounds_toArray, List.set_cons_zero, List.set_cons_succ, i64_w, i32_w]
                    rfl
                  refine take_ (i := 5) (N := some 70) (v := ?_) (a' := ?_) #[true, true, true, true, true, true, false, false, false, false] rfl rfl (by kernel_rfl) (fun _ _ _ h => h) (Or.inl ⟨by rfl, ?_⟩) hHeld ?_ ?_
                  rotate_left
                  · rintro w' ⟨s0, s1, s2, s3, s4⟩
                    go_simp
                    with_reducible rfl
                  rotate_left
                  · simp only [Act.put, List.setIfInBounds_toArray, List.set_cons_zero, List.set_cons_succ, i64_w, i32_w]
                    rfl
                  refine take_ (i := 6) (N := some 71) (v := ?_) (a' := ?_) #[true, true, true, true, true, true, true, false, false, false] rfl rfl (by kernel_rfl) (fun _ _ _ h => h) (Or.inl ⟨by rfl, ?_⟩) hHeld ?_ ?_
                  rotate_left
                  · rintro w' ⟨s0, s1, s2, s3, s4⟩
                    go_simp
                    with_reducible rfl
                  rotate_left
                  · simp only [Act.put, List.setIfInBounds_toArray, List.set_cons_zero, List.set_cons_succ, i64_w, i32_w]
                    rfl
                  refine pure_ (i := 7) (N := some 72) (v := ?_) (a' := ?_) #[true, true, true, true, true, true, true, true, false, false] rfl rfl (by kernel_rfl) (fun _ _ _ h => h) (Or.inl ⟨by rfl, ?_⟩) ?_ ?_
                  rotate_left
                  · intro w'
                    go_simp
                    with_reducible rfl
                  rotate_left
                  · simp only [Act.put, List.setIfInBounds_toArray, List.set_cons_zero, List.set_cons_succ, i64_w, i32_w]
                    rfl
                  refine pure_ (i := 8) (N := some 73) (v := ?_) (a' := ?_) #[true, true, true, true, true, true, true, true, true, false] rfl rfl (by kernel_rfl) (fun _ _ _ h => h) (Or.inl ⟨by rfl, ?_⟩) ?_ ?_
                  rotate_left
                  · intro w'
                    go_simp
                    with_reducible rfl
                  rotate_left
                  · simp only [Act.put, List.setIfInBounds_toArray, List.set_cons_zero, List.set_cons_succ, i64_w, i32_w]
                    rfl
                  refine pure_ (i := 9) (N := some 11) (v := ?_) (a' := ?_) #[true, true, true, true, true, true, true, true, true, true] rfl rfl (by kernel_rfl) (fun _ _ _ h => h) (Or.inl ⟨by rfl, ?_⟩) ?_ ?_
                  rotate_left
                  · intro w'
                    go_simp
                    with_reducible rfl
                  rotate_left
                  · simp only [Act.put, List.setIfInBounds_toArray, List.set_cons_zero, List.set_cons_succ, i64_w, i32_w]
                    rfl
                  refine done_ (by kernel_rfl) ?_

                  have HB2 := Aside0.mk hHeld.2.2.2.2
                  clear hHeld d0 d1 d2 d3
                  go_wp2
                  go_roundw
                  case rel => exact ⟨false, k + 1, rfl, by go_num, by have := hkl'.out; omega, ⟨(fun h => hbj.out (by have := hj2.out; omega))⟩, HB2⟩
                  case measure => simp only [intOf]; have := hkl'.out; omega
              · have hj2 := Aside0.mk (hne'.out (fun h => e0 h.1))
                have eb : (y0 == x0) = false := beq_eq_false_iff_ne.2 e0
                have eq : (y0 = x0) = False := eq_false e0
                go_wp2_with fail
                refine start_ (n := 10) (S := fun w' => w'.cell? ⟨b, k * 2, none⟩ = some (.int .i64 y0) ∧ w'.cell? ⟨b, k * 2 + 1, none⟩ = some (.int .i64 y1) ∧ w'.cell? ⟨X, 0, none⟩ = some (.int .i64 x0) ∧ w'.cell? ⟨X, 1, none⟩ = some (.int .i64 x1) ∧ Below U.heap.size U w') (ds := []) #[false, false, false, false, false, false, false, false, false, false] (by kernel_rfl) rfl rfl ⟨d0, d1, d2, d3, (by apply below_drew1; exact HB.out)⟩ (fun hHeld => ?_)
                refine pure_ (i := 0) (N := some 65) (v := ?_) (a' := ?_) #[true, false, false, false, false, false, false, false, false, false] rfl rfl (by kernel_rfl) (fun _ _ _ h => h) (Or.inl ⟨by rfl, ?_⟩) ?_ ?_
                rotate_left
                · intro w'
                  go_simp
                  with_reducible rfl
                rotate_left
                · simp only [Act.put, List.setIfInBounds_toArray, List.set_cons_zero, List.set_cons_succ, i64_w, i32_w]
                  rfl
                refine pure_ (i := 1) (N := some 66) (v := ?_) (a' := ?_) #[true, true, false, false, false, false, false, false, false, false] rfl rfl (by kernel_rfl) (fun _ _ _ h => h) (Or.inl ⟨by rfl, ?_⟩) ?_ ?_
                rotate_left
                · intro w'
                  go_simp
                  with_reducible rfl
                rotate_left
                · simp only [Act.put, List.setIfInBounds_toArray, List.set_cons_zero, List.set_cons_succ, i64_w, i32_w]
                  rfl
                refine pure_ (i := 2) (N := some 67) (v := ?_) (a' := ?_) #[true, true, true, false, false, false, false, false, false, false] rfl rfl (by kernel_rfl) (fun _ _ _ h => h) (Or.inl ⟨by rfl, ?_⟩) ?_ ?_
                rotate_left
                · intro w'
                  go_simp
                  with_reducible rfl
                rotate_left
                · simp only [Act.put, List.setIfInBounds_toArray, List.set_cons_zero, List.set_cons_succ, i64_w, i32_w]
                  rfl
                refine pure_ (i := 3) (N := some 68) (v := ?_) (a' := ?_) #[true, true, true, true, false, false, false, false, false, false] rfl rfl (by kernel_rfl) (fun _ _ _ h => h) (Or.inl ⟨by rfl, ?_⟩) ?_ ?_
                rotate_left
                · intro w'
                  go_simp
                  with_reducible rfl
                rotate_left
                · simp only [Act.put, List.setIfInBounds_toArray, List.set_cons_zero, List.set_cons_succ, i64_w, i32_w]
                  rfl
                refine pure_ (i := 4) (N := some 69) (v := ?_) (a' := ?_) #[true, true, true, true, true, false, false, false, false, false] rfl rfl (by kernel_rfl) (fun _ _ _ h => h) (Or.inl ⟨by rfl, ?_⟩) ?_ ?_
                rotate_left
                · intro w'
                  go_simp
                  with_reducible rfl
                rotate_left
                · simp only [Act.put, List.setIfInBounds_toArray, List.set_cons_zero, List.set_cons_succ, i64_w, i32_w]
                  rfl
                refine take_ (i := 5) (N := some 70) (v := ?_) (a' := ?_) #[true, true, true, true, true, true, false, false, false, false] rfl rfl (by kernel_rfl) (fun _ _ _ h => h) (Or.inl ⟨by rfl, ?_⟩) hHeld ?_ ?_
                rotate_left
                · rintro w' ⟨s0, s1, s2, s3, s4⟩
                  go_simp
                  with_reducible rfl
                rotate_left
                · simp only [Act.put, List.setIfInBounds_toArray, List.set_cons_zero, List.set_cons_succ, i64_w, i32_w]
                  rfl
                refine take_ (i := 6) (N := some 71) (v := ?_) (a' := ?_) #[true, true, true, true, true, true, true, false, false, false] rfl rfl (by kernel_rfl) (fun _ _ _ h => h) (Or.inl ⟨by rfl, ?_⟩) hHeld ?_ ?_
                rotate_left
                · rintro w' ⟨s0, s1, s2, s3, s4⟩
                  go_simp
                  with_reducible rfl
                rotate_left
                · simp only [Act.put, List.setIfInBounds_toArray, List.set_cons_zero, List.set_cons_succ, i64_w, i32_w]
                  rfl
                refine pure_ (i := 7) (N := some 72) (v := ?_) (a' := ?_) #[true, true, true, true, true, true, true, true, false, false] rfl rfl (by kernel_rfl) (fun _ _ _ h => h) (Or.inl ⟨by rfl, ?_⟩) ?_ ?_
                rotate_left
                · intro w'
                  go_simp
                  with_reducible rfl
                rotate_left
                · simp only [Act.put, List.setIfInBounds_toArray, List.set_cons_zero, List.set_cons_succ, i64_w, i32_w]
                  rfl
                refine pure_ (i := 8) (N := some 73) (v := ?_) (a' := ?_) #[true, true, true, true, true, true, true, true, true, false] rfl rfl (by kernel_rfl) (fun _ _ _ h => h) (Or.inl ⟨by rfl, ?_⟩) ?_ ?_
                rotate_left
                · intro w'
                  go_simp
                  with_reducible rfl
                rotate_left
                · simp only [Act.put, List.setIfInBounds_toArray, List.set_cons_zero, List.set_cons_succ, i64_w, i32_w]
                  rfl
                refine pure_ (i := 9) (N := some 11) (v := ?_) (a' := ?_) #[true, true, true, true, true, true, true, true, true, true] rfl rfl (by kernel_rfl) (fun _ _ _ h => h) (Or.inl ⟨by rfl, ?_⟩) ?_ ?_
                rotate_left
                · intro w'
                  go_simp
                  with_reducible rfl
                rotate_left
                · simp only [Act.put, List.setIfInBounds_toArray, List.set_cons_zero, List.set_cons_succ, i64_w, i32_w]
                  rfl
                refine done_ (by kernel_rfl) ?_

                have HB2 := Aside0.mk hHeld.2.2.2.2
                clear hHeld d0 d1 d2 d3
                go_wp2
                go_roundw
                case rel => exact ⟨false, k + 1, rfl, by go_num, by have := hkl'.out; omega, ⟨(fun h => hbj.out (by have := hj2.out; omega))⟩, HB2⟩
                case measure => simp only [intOf]; have := hkl'.out; omega
          · obtain rfl : n = k := by omega
            obtain rfl : hb = true := hbj.out hj0'.out
            have HW := Lib.hid (HU'.out.below HB.out)
            have HLn := Lib.hid (HW.out.len)
            have hsub : ((n - i - 1 : Nat) : Int) = (n : Int) - 1 - i := by have := hlt'.out; omega
            have hw5 : wrap64 ((n : Int) - 1) = n - 1 := by unfold wrap64; omega
            have hw6 : wrap64 ((n : Int) - 1 - i) = n - 1 - i := by have := hlt'.out; unfold wrap64; omega
            have z0 : wr.cell? ⟨X, 0, none⟩ = some (.int .i64 x0) := (HB.out.cell (p := ⟨X, 0, none⟩) (HeapM.blk_lt bXa.out)).trans ((HeapM.blk_cell bXa.out 0).trans rfl)
            have z1 : wr.cell? ⟨X, 1, none⟩ = some (.int .i64 x1) := (HB.out.cell (p := ⟨X, 1, none⟩) (HeapM.blk_lt bXa.out)).trans ((HeapM.blk_cell bXa.out 1).trans rfl)
            have bLw := (HB.out.block _ (HeapM.blk_lt bL5'.out)).trans bL5'.out
            have z2 : wr.cell? ⟨L, 0, none⟩ = some (.int .i64 lk) := (HeapM.blk_cell bLw 0).trans rfl
            have z3 : wr.cell? ⟨L, 1, none⟩ = some (.int .i64 lp) := (HeapM.blk_cell bLw 1).trans rfl
            have f0 := HeapM.blk_free bLw 0
            have f1 := HeapM.blk_free bLw 1
            have bLw' := Aside0.mk bLw
            have hLX : L ≠ X := fun e => by have h1 := hXa.out; have h2 := HeapM.blk_lt hL5.out; omega
            clear bLw
            go_wp2_with fail
            refine HLn.out.mono ?_
            rintro e w6 ⟨rfl, rfl⟩
            rw [hsub]
            go_wp2_with fail
            have A1 : Aside0 (Held ((wr.setCell ⟨L, 0, none⟩ (.int .i64 x0)).setCell ⟨L, 1, none⟩ (.int .i64 x1)) g (upd Ci x0 none) 1000 (n - (i + 1)) (Ni + 4000010) (fun q => D3 q ∨ q = L)) := ⟨by
              have h1 := HW.out.less (D' := fun q => D3 q ∨ q = L) (fun q e => .inl e)
              rw [show n - i - 1 = n - (i + 1) by omega] at h1
              exact (h1.set L 0 (.int .i64 x0) (.inr rfl)).set L 1 (.int .i64 x1) (.inr rfl)⟩
            have A2 := HeapM.blk_set_same (HeapM.blk_set_same bLw'.out 0 (.int .i64 x0) (by simp)) 1 (.int .i64 x1) (by simp)
            have A3 : Aside0 (Its ((wr.setCell ⟨L, 0, none⟩ (.int .i64 x0)).setCell ⟨L, 1, none⟩ (.int .i64 x1)) D3 (.slice a3 n cap3) ys) := ⟨(IU.out.kept (Kept.of_below HB.out)).kept (((Kept.refl _ _).set L 0 _ hLD.out).set L 1 _ hLD.out)⟩
            have A4 : Aside0 (Kept w ((wr.setCell ⟨L, 0, none⟩ (.int .i64 x0)).setCell ⟨L, 1, none⟩ (.int .i64 x1)) (fun k => k < w.heap.size)) := ⟨((KK.out.trans (Kept.of_below HB.out)).set L 0 _ hLw.out).set L 1 _ hLw.out⟩
            refine ⟨⟨i + 1, _, _, x0, x1, by first | rfl | (push_cast; rfl), by have := hlt'.out; omega, A1, ⟨by have := HN.out; omega⟩, HM2, ⟨A2⟩, A3, A4⟩, ?_⟩
            simp only [intOf]
            have := hlt'.out
            omega
    · obtain rfl : n = i := by omega
      have HP := HH.out
      rw [Nat.sub_self] at HP
      have HPn := Lib.hid HP.pop_none
      clear HP HH HL HM
      go_wp2_with fail
      refine HPn.out.mono ?_
      rintro e w5 ⟨rfl, B5⟩
      have K6 := Aside0.mk (HK.out.trans (Kept.of_below B5))
      clear B5 HPn
      by_cases h0 : n = 0
      · have hl0 : ¬ 0 < len := fun h => by have := hnl'.out.2 h; omega
        have e1 : decide ((0 : Int) < n) = false := decide_eq_false (by omega)
        have e2 : decide ((0 : Int) < len) = false := decide_eq_false (by omega)
        have e3 : decide (0 < n) = false := decide_eq_false (by omega)
        have e4 : decide (0 < len) = false := decide_eq_false (by omega)
        clear h0 hl0
        go_wp2_with fail
        go_returns
        exact ⟨rfl, by apply below_alloc; exact K6.out.below (Nat.le_refl _) (fun _ e => e)⟩
      · have hl0 : 0 < len := hnl'.out.1 (by omega)
        have e1 : decide ((0 : Int) < n) = true := decide_eq_true (by omega)
        have e2 : decide ((0 : Int) < len) = true := decide_eq_true (by omega)
        have e3 : decide (0 < n) = true := decide_eq_true (by omega)
        have e4 : decide (0 < len) = true := decide_eq_true (by omega)
        clear h0 hl0
        go_wp2_with fail
        go_returns
        exact ⟨rfl, by apply below_alloc; exact K6.out.below (Nat.le_refl _) (fun _ e => e)⟩
end Go.Proofs.Ytmihpgdpgacgcaa.HeapC
