/- HeapTop's walk. -/
import Derived.Test.YtmihpgdpgacgcaaHeapY
namespace Go.Proofs.Ytmihpgdpgacgcaa.HeapC
open Go.RowKit Go.Proofs.Ytmihpgdpgacgcaa.HeapT Go.Proofs.Ytmihpgdpgacgcaa.HeapM Go.Proofs.YtmihpgdpgacgcaaW.PrintWords Go.Proofs.YtmihpgdpgacgcaaW.PrintLast Go.Proofs.YtmihpgdpgacgcaaW.PrintMore
set_option linter.unusedVariables false
set_option linter.unusedSimpArgs false


/-- The most urgent one, when one is there. -/
theorem TopIs.most {C : Int → Option Int} {n : Nat} {k p : Int} {b : Bool} (h : TopIs C n k p b) {j q : Int} (hj : C j = some q) (hn : 0 < n) : q ≤ p := by
  rcases h with ⟨h0, -⟩ | ⟨-, h1, -⟩
  · omega
  · have := h1.2 j q hj
    unfold Ahead at this
    simp at this
    omega


set_option maxHeartbeats 4000000 in
set_option maxRecDepth 20000 in
theorem top_walk (pv : Value) (len : Nat) (Z : Nat → Nat → Int) (key prio : Int) (w : World) (hz : Arrs 2 w pv len Z) (hk : In64 key) (hp : In64 prio) :
    Calls Try.prog 7 #[pv, .int .i64 key, .int .i64 prio] w fun e w' => e = .returned (.bool true) ∧ Below w.heap.size w w' := by
  have hz' := Aside0.mk hz
  clear hz
  go_enter Try.func7, Try.ntmps7
  go_wp2_with fail
  refine (awake_calls w).mono ?_
  rintro e w1 ⟨rfl, B1⟩
  go_wp2_with fail
  refine (made_calls pv len Z w1 (hz'.out.below B1)).mono ?_
  rintro e w2 ⟨g, C, n, N, i, rfl, H2a, M2, i30, -, -, K2a⟩
  have H2 := H2a.less (D' := fun k => k < w.heap.size) (fun k e => Nat.lt_of_lt_of_le e B1.size)
  have K2 := Aside0.mk ((Kept.of_below (D := fun k => k < w.heap.size) B1).trans (K2a.mono (fun k e => Nat.lt_of_lt_of_le e B1.size)))
  have n30 : n ≤ 30 := Nat.le_trans M2.hn i30
  have N30 : N ≤ 120000000 := by have := M2.hN; omega
  have CZ := Aside0.mk M2.zero
  clear B1 H2a K2a M2 i30 hz'
  go_wp2_with fail
  refine (pick_calls key 50 w2 hk (by decide) (by decide)).mono ?_
  rintro e w3 ⟨rfl, rfl⟩
  obtain ⟨r0, r1⟩ := pk_range key 50 (by decide)
  obtain ⟨k, hkk⟩ : ∃ k, pk key 50 = k := ⟨_, rfl⟩
  rw [hkk] at r0 r1 ⊢
  have wk : (Lit.int .i64 k).wf = true := wf_of ⟨by omega, by omega⟩
  have HP := Lib.hid (H2.prio k wk)
  have HT := Lib.hid (H2.top_any)
  obtain ⟨th, hth0⟩ : ∃ th, (C k).isSome = th := ⟨_, rfl⟩
  obtain ⟨ws, hws0⟩ : ∃ ws, (C k).getD 0 = ws := ⟨_, rfl⟩
  have hth := Aside0.mk hth0
  have hws := Aside0.mk hws0
  clear hkk r0 r1 H2 hth0 hws0
  go_wp2_with fail
  refine HP.out.mono ?_
  rintro e w3 ⟨rfl, rfl⟩
  rw [hth.out, hws.out]
  clear HP
  go_wp2_with fail
  refine HT.out.mono ?_
  rintro e w3 ⟨a0, a1, a2, rfl, TA0, -, H3, K3⟩
  have TA := Aside0.mk TA0
  clear HT TA0
  obtain ⟨V, hV⟩ : ∃ Q, Q = w3.alloc (.cells #[.int .i64 a0, .int .i64 a1] 36) := ⟨_, rfl⟩
  obtain ⟨X, hX⟩ : ∃ Q, Q = w3.heap.size := ⟨_, rfl⟩
  obtain ⟨HV, KV, bX⟩ := H3.box a0 a1 hV hX
  have hVa := Aside0.mk hV
  have hXa := Aside0.mk hX
  have bXa := Aside0.mk bX
  clear hV hX bX
  have HC := Lib.hid (HV.change_any (by omega) (by omega) k ws wk)
  have KA := Aside0.mk (K2.out.trans (K3.trans KV))
  have hCC : chg C k ws = C := chg_same (by
    rw [← hws.out]
    cases h : C k with
    | none => exact .inr rfl
    | some q => exact .inl rfl)
  have hCC' := Aside0.mk hCC
  clear H3 K3 KV hCC
  cases th with
  | true =>
    have hn0 : 0 < n := Nat.pos_of_ne_zero (fun e => by have := hth.out; rw [CZ.out e k] at this; cases this)
    clear HV
    go_wp2_with fail
    rw [← hVa.out, ← hXa.out]
    refine HC.out.mono ?_
    rintro e w4 ⟨N4, rfl, H4a, K4a, hN4⟩
    rw [hth.out]
    rw [hCC'.out] at H4a
    have b4 := K4a.blk bXa.out (.inr rfl)
    have K4 := Aside0.mk (KA.out.trans (K4a.mono (fun q e => .inl e)))
    clear HC K4a KA
    have HT2 := Lib.hid H4a.top_any
    clear H4a
    go_wp2_with fail
    refine HT2.out.mono ?_
    rintro e w6 ⟨b0, b1, b2, rfl, TB, wb, H6, K6⟩
    obtain ⟨rfl, rfl, rfl⟩ := TA.out.same TB
    clear HT2 TB wb
    obtain ⟨V6, hV6⟩ : ∃ Q, Q = w6.alloc (.cells #[.int .i64 a0, .int .i64 a1] 36) := ⟨_, rfl⟩
    obtain ⟨Y, hY⟩ : ∃ Q, Q = w6.heap.size := ⟨_, rfl⟩
    obtain ⟨HV6, KV6, bY⟩ := H6.box a0 a1 hV6 hY
    have hV6a := Aside0.mk hV6
    have hYa := Aside0.mk hY
    have bYa := Aside0.mk bY
    clear hV6 hY bY
    have bX6 := (K6.trans (KV6.mono (fun q e => e))).blk b4 (.inr rfl)
    have K7 := Aside0.mk (K4.out.trans ((K6.mono (fun q e => .inl e)).trans (KV6.mono (fun q e => .inl e))))
    have x0 : (w6.alloc (.cells #[.int .i64 a0, .int .i64 a1] 36)).cell? ⟨X, 0, none⟩ = some (.int .i64 a0) := by rw [← hV6a.out]; exact (HeapM.blk_cell bX6 0).trans rfl
    have x1 : (w6.alloc (.cells #[.int .i64 a0, .int .i64 a1] 36)).cell? ⟨X, 1, none⟩ = some (.int .i64 a1) := by rw [← hV6a.out]; exact (HeapM.blk_cell bX6 1).trans rfl
    have y0 : (w6.alloc (.cells #[.int .i64 a0, .int .i64 a1] 36)).cell? ⟨w6.heap.size, 0, none⟩ = some (.int .i64 a0) := by rw [← hV6a.out, ← hYa.out]; exact (HeapM.blk_cell bYa.out 0).trans rfl
    have y1 : (w6.alloc (.cells #[.int .i64 a0, .int .i64 a1] 36)).cell? ⟨w6.heap.size, 1, none⟩ = some (.int .i64 a1) := by rw [← hV6a.out, ← hYa.out]; exact (HeapM.blk_cell bYa.out 1).trans rfl
    clear H6 K6 KV6 bX6 K4 b4
    go_wp2_with fail
    refine (pick_calls prio 30 _ hp (by decide) (by decide)).mono ?_
    rintro e w7 ⟨rfl, rfl⟩
    clear x0 x1 y0 y1
    rw [← hV6a.out, ← hYa.out]
    obtain ⟨p, hpp⟩ : ∃ p, pk prio 30 = p := ⟨_, rfl⟩
    rw [hpp]
    have HC2 := Lib.hid (HV6.change_any (by omega) (by omega) k p wk)
    clear hpp HV6
    go_wp2_with fail
    refine HC2.out.mono ?_
    rintro e w8 ⟨N8, rfl, H8, K8, hN8⟩
    rw [hth.out]
    have HT3 := Lib.hid H8.top_any
    have K9 := Aside0.mk (K7.out.trans (K8.mono (fun q e => .inl (.inl e))))
    clear HC2 H8 K8 K7
    go_wp2_with fail
    refine HT3.out.mono ?_
    rintro e w9 ⟨c0, c1, c2, rfl, TC, wc, H9, K9b⟩
    have K10 := Aside0.mk (K9.out.trans (K9b.mono (fun q e => .inl (.inl e))))
    clear HT3 K9 K9b
    obtain ⟨V9, hV9⟩ : ∃ Q, Q = w9.alloc (.cells #[.int .i64 c0, .int .i64 c1] 36) := ⟨_, rfl⟩
    obtain ⟨P, hP⟩ : ∃ Q, Q = w9.heap.size := ⟨_, rfl⟩
    obtain ⟨HV9, KV9, bP⟩ := H9.box c0 c1 hV9 hP
    have hV9a := Aside0.mk hV9
    have hPa := Aside0.mk hP
    have bPa := Aside0.mk bP
    clear hV9 hP bP
    have HPp := Lib.hid (HV9.pop_any (by omega) (by omega))
    have K11 := Aside0.mk (K10.out.trans (KV9.mono (fun q e => .inl (.inl e))))
    clear H9 KV9 K10 HV9
    go_wp2_with fail
    rw [← hV9a.out, ← hPa.out]
    refine HPp.out.mono ?_
    rintro e w10 ⟨d0, d1, d2, C3, N10, rfl, TD, -, H10, K10, hC3, hN10⟩
    obtain ⟨rfl, rfl, rfl⟩ := TC.same TD
    have K12 := Aside0.mk (K11.out.trans (K10.mono (fun q e => .inl (.inl (.inl e)))))
    have bP1 := K10.blk bPa.out (.inr rfl)
    clear HPp TD K10 K11
    obtain ⟨V10, hV10⟩ : ∃ Q, Q = w10.alloc (.cells #[.int .i64 c0, .int .i64 c1] 36) := ⟨_, rfl⟩
    obtain ⟨Q, hQ⟩ : ∃ Q, Q = w10.heap.size := ⟨_, rfl⟩
    obtain ⟨HV10, KV10, bQ⟩ := H10.box c0 c1 hV10 hQ
    have hV10a := Aside0.mk hV10
    have hQa := Aside0.mk hQ
    have bQa := Aside0.mk bQ
    clear hV10 hQ bQ
    have bP2 := KV10.blk bP1 (.inr rfl)
    have K13 := Aside0.mk (K12.out.trans (KV10.mono (fun q e => .inl (.inl (.inl e)))))
    have x0 : (w10.alloc (.cells #[.int .i64 c0, .int .i64 c1] 36)).cell? ⟨P, 0, none⟩ = some (.int .i64 c0) := by rw [← hV10a.out]; exact (HeapM.blk_cell bP2 0).trans rfl
    have x1 : (w10.alloc (.cells #[.int .i64 c0, .int .i64 c1] 36)).cell? ⟨P, 1, none⟩ = some (.int .i64 c1) := by rw [← hV10a.out]; exact (HeapM.blk_cell bP2 1).trans rfl
    have y0 : (w10.alloc (.cells #[.int .i64 c0, .int .i64 c1] 36)).cell? ⟨w10.heap.size, 0, none⟩ = some (.int .i64 c0) := by rw [← hV10a.out, ← hQa.out]; exact (HeapM.blk_cell bQa.out 0).trans rfl
    have y1 : (w10.alloc (.cells #[.int .i64 c0, .int .i64 c1] 36)).cell? ⟨w10.heap.size, 1, none⟩ = some (.int .i64 c1) := by rw [← hV10a.out, ← hQa.out]; exact (HeapM.blk_cell bQa.out 1).trans rfl
    have HQ := Lib.hid (HV10.prio c0 wc)
    obtain ⟨gn, hgn⟩ : ∃ gn, (C3 c0).isSome = gn := ⟨_, rfl⟩
    have hgn' := Aside0.mk hgn
    have hC3' := Aside0.mk hC3
    have TC' := Aside0.mk TC
    clear H10 KV10 bP1 bP2 HV10 K12 hgn hC3 TC
    have hg2 : c2 = true → gn = false := fun e => by rw [← hgn'.out, hC3'.out, e, if_pos rfl]; unfold upd; rw [if_pos rfl]; rfl
    have hQ' := Lib.hid hg2
    clear hg2
    go_wp2_with fail
    rw [← hV10a.out, ← hQa.out]
    refine HQ.out.mono ?_
    rintro e w11 ⟨rfl, rfl⟩
    rw [hgn'.out]
    have y0' : V10.cell? ⟨Q, 0, none⟩ = some (.int .i64 c0) := (HeapM.blk_cell bQa.out 0).trans rfl
    have y1' : V10.cell? ⟨Q, 1, none⟩ = some (.int .i64 c1) := (HeapM.blk_cell bQa.out 1).trans rfl
    clear x0 x1 y0 y1 HQ
    have hge0 : p ≤ c1 := TC'.out.most (j := k) (q := p) (by unfold chg; rw [if_pos ⟨rfl, fun e => by have := hth.out; rw [e] at this; cases this⟩]) hn0
    have hge : decide (p ≤ c1) = true := decide_eq_true hge0
    clear hge0
    cases c2 with
    | true =>
      have hg3 := hQ'.out rfl
      subst hg3
      go_wp2_with fail
      go_returns
      exact ⟨rfl, K13.out.below (Nat.le_refl _) (fun _ e => e)⟩
    | false =>
      go_wp2_with fail
      go_returns
      exact ⟨rfl, K13.out.below (Nat.le_refl _) (fun _ e => e)⟩
  | false =>
    have bX0 := bXa.out
    clear HC
    go_wp2_with fail
    rw [← hVa.out, ← hXa.out]
    have HT2 := Lib.hid HV.top_any
    clear HV
    go_wp2_with fail
    refine HT2.out.mono ?_
    rintro e w6 ⟨b0, b1, b2, rfl, TB, wb, H6, K6⟩
    obtain ⟨rfl, rfl, rfl⟩ := TA.out.same TB
    clear HT2 TB wb
    obtain ⟨V6, hV6⟩ : ∃ Q, Q = w6.alloc (.cells #[.int .i64 a0, .int .i64 a1] 36) := ⟨_, rfl⟩
    obtain ⟨Y, hY⟩ : ∃ Q, Q = w6.heap.size := ⟨_, rfl⟩
    obtain ⟨HV6, KV6, bY⟩ := H6.box a0 a1 hV6 hY
    have hV6a := Aside0.mk hV6
    have hYa := Aside0.mk hY
    have bYa := Aside0.mk bY
    clear hV6 hY bY
    have bX6 := (K6.trans (KV6.mono (fun q e => e))).blk bX0 (.inr rfl)
    have K7 := Aside0.mk (KA.out.trans ((K6.mono (fun q e => .inl e)).trans (KV6.mono (fun q e => .inl e))))
    have x0 : (w6.alloc (.cells #[.int .i64 a0, .int .i64 a1] 36)).cell? ⟨X, 0, none⟩ = some (.int .i64 a0) := by rw [← hV6a.out]; exact (HeapM.blk_cell bX6 0).trans rfl
    have x1 : (w6.alloc (.cells #[.int .i64 a0, .int .i64 a1] 36)).cell? ⟨X, 1, none⟩ = some (.int .i64 a1) := by rw [← hV6a.out]; exact (HeapM.blk_cell bX6 1).trans rfl
    have y0 : (w6.alloc (.cells #[.int .i64 a0, .int .i64 a1] 36)).cell? ⟨w6.heap.size, 0, none⟩ = some (.int .i64 a0) := by rw [← hV6a.out, ← hYa.out]; exact (HeapM.blk_cell bYa.out 0).trans rfl
    have y1 : (w6.alloc (.cells #[.int .i64 a0, .int .i64 a1] 36)).cell? ⟨w6.heap.size, 1, none⟩ = some (.int .i64 a1) := by rw [← hV6a.out, ← hYa.out]; exact (HeapM.blk_cell bYa.out 1).trans rfl
    clear H6 K6 KV6 bX6 KA bX0
    go_wp2_with fail
    refine (pick_calls prio 30 _ hp (by decide) (by decide)).mono ?_
    rintro e w7 ⟨rfl, rfl⟩
    clear x0 x1 y0 y1
    rw [← hV6a.out, ← hYa.out]
    obtain ⟨p, hpp⟩ : ∃ p, pk prio 30 = p := ⟨_, rfl⟩
    rw [hpp]
    have HC2 := Lib.hid (HV6.change_any (by omega) (by omega) k p wk)
    clear hpp HV6
    go_wp2_with fail
    refine HC2.out.mono ?_
    rintro e w8 ⟨N8, rfl, H8, K8, hN8⟩
    rw [hth.out]
    have HT3 := Lib.hid H8.top_any
    have K9 := Aside0.mk (K7.out.trans (K8.mono (fun q e => .inl (.inl e))))
    clear HC2 H8 K8 K7
    go_wp2_with fail
    refine HT3.out.mono ?_
    rintro e w9 ⟨c0, c1, c2, rfl, TC, wc, H9, K9b⟩
    have K10 := Aside0.mk (K9.out.trans (K9b.mono (fun q e => .inl (.inl e))))
    clear HT3 K9 K9b
    obtain ⟨V9, hV9⟩ : ∃ Q, Q = w9.alloc (.cells #[.int .i64 c0, .int .i64 c1] 36) := ⟨_, rfl⟩
    obtain ⟨P, hP⟩ : ∃ Q, Q = w9.heap.size := ⟨_, rfl⟩
    obtain ⟨HV9, KV9, bP⟩ := H9.box c0 c1 hV9 hP
    have hV9a := Aside0.mk hV9
    have hPa := Aside0.mk hP
    have bPa := Aside0.mk bP
    clear hV9 hP bP
    have HPp := Lib.hid (HV9.pop_any (by omega) (by omega))
    have K11 := Aside0.mk (K10.out.trans (KV9.mono (fun q e => .inl (.inl e))))
    clear H9 KV9 K10 HV9
    go_wp2_with fail
    rw [← hV9a.out, ← hPa.out]
    refine HPp.out.mono ?_
    rintro e w10 ⟨d0, d1, d2, C3, N10, rfl, TD, -, H10, K10, hC3, hN10⟩
    obtain ⟨rfl, rfl, rfl⟩ := TC.same TD
    have K12 := Aside0.mk (K11.out.trans (K10.mono (fun q e => .inl (.inl (.inl e)))))
    have bP1 := K10.blk bPa.out (.inr rfl)
    clear HPp TD K10 K11
    obtain ⟨V10, hV10⟩ : ∃ Q, Q = w10.alloc (.cells #[.int .i64 c0, .int .i64 c1] 36) := ⟨_, rfl⟩
    obtain ⟨Q, hQ⟩ : ∃ Q, Q = w10.heap.size := ⟨_, rfl⟩
    obtain ⟨HV10, KV10, bQ⟩ := H10.box c0 c1 hV10 hQ
    have hV10a := Aside0.mk hV10
    have hQa := Aside0.mk hQ
    have bQa := Aside0.mk bQ
    clear hV10 hQ bQ
    have bP2 := KV10.blk bP1 (.inr rfl)
    have K13 := Aside0.mk (K12.out.trans (KV10.mono (fun q e => .inl (.inl (.inl e)))))
    have x0 : (w10.alloc (.cells #[.int .i64 c0, .int .i64 c1] 36)).cell? ⟨P, 0, none⟩ = some (.int .i64 c0) := by rw [← hV10a.out]; exact (HeapM.blk_cell bP2 0).trans rfl
    have x1 : (w10.alloc (.cells #[.int .i64 c0, .int .i64 c1] 36)).cell? ⟨P, 1, none⟩ = some (.int .i64 c1) := by rw [← hV10a.out]; exact (HeapM.blk_cell bP2 1).trans rfl
    have y0 : (w10.alloc (.cells #[.int .i64 c0, .int .i64 c1] 36)).cell? ⟨w10.heap.size, 0, none⟩ = some (.int .i64 c0) := by rw [← hV10a.out, ← hQa.out]; exact (HeapM.blk_cell bQa.out 0).trans rfl
    have y1 : (w10.alloc (.cells #[.int .i64 c0, .int .i64 c1] 36)).cell? ⟨w10.heap.size, 1, none⟩ = some (.int .i64 c1) := by rw [← hV10a.out, ← hQa.out]; exact (HeapM.blk_cell bQa.out 1).trans rfl
    have HQ := Lib.hid (HV10.prio c0 wc)
    obtain ⟨gn, hgn⟩ : ∃ gn, (C3 c0).isSome = gn := ⟨_, rfl⟩
    have hgn' := Aside0.mk hgn
    have hC3' := Aside0.mk hC3
    have TC' := Aside0.mk TC
    clear H10 KV10 bP1 bP2 HV10 K12 hgn hC3 TC
    have hg2 : c2 = true → gn = false := fun e => by rw [← hgn'.out, hC3'.out, e, if_pos rfl]; unfold upd; rw [if_pos rfl]; rfl
    have hQ' := Lib.hid hg2
    clear hg2
    go_wp2_with fail
    rw [← hV10a.out, ← hQa.out]
    refine HQ.out.mono ?_
    rintro e w11 ⟨rfl, rfl⟩
    rw [hgn'.out]
    have y0' : V10.cell? ⟨Q, 0, none⟩ = some (.int .i64 c0) := (HeapM.blk_cell bQa.out 0).trans rfl
    have y1' : V10.cell? ⟨Q, 1, none⟩ = some (.int .i64 c1) := (HeapM.blk_cell bQa.out 1).trans rfl
    clear x0 x1 y0 y1 HQ
    cases c2 with
    | true =>
      have hg3 := hQ'.out rfl
      subst hg3
      go_wp2_with fail
      go_returns
      exact ⟨rfl, K13.out.below (Nat.le_refl _) (fun _ e => e)⟩
    | false =>
      go_wp2_with fail
      go_returns
      exact ⟨rfl, K13.out.below (Nat.le_refl _) (fun _ e => e)⟩
end Go.Proofs.Ytmihpgdpgacgcaa.HeapC
