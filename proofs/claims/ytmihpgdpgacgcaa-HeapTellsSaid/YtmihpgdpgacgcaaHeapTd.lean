/- HeapTells' walk. -/
import Derived.Test.YtmihpgdpgacgcaaHeapTc
import Derived.Deep.DeepCutAuto
namespace Go.Proofs.Ytmihpgdpgacgcaa.HeapC
open Go.RowKit Go.Proofs.Ytmihpgdpgacgcaa.HeapT Go.Proofs.Ytmihpgdpgacgcaa.HeapM Go.Proofs.YtmihpgdpgacgcaaW.PrintWords Go.Proofs.YtmihpgdpgacgcaaW.PrintLast Go.Proofs.YtmihpgdpgacgcaaW.PrintMore
set_option linter.unusedVariables false
set_option linter.unusedSimpArgs false


set_option maxHeartbeats 8000000 in
set_option maxRecDepth 20000 in
theorem tells_walk (most : Int) (pv : Value) (len : Nat) (Z : Nat → Nat → Int) (any : Int) (w : World) (hmo : In64 most) (hz : Arrs 3 w pv len Z) (hany : In64 any) :
    Calls Try.prog 3 #[.int .i64 most, pv, .int .i64 any] w fun e w' => e = .returned (.bool true) ∧ Below w.heap.size w w' := by
  obtain ⟨pa, pc, rfl, hmx, hcell⟩ := hz
  have hmx2 : len ≤ 9223372036854775807 := hmx
  have hcell' := Aside0.mk hcell
  clear hmx hcell
  go_enter Try.func3, Try.ntmps3
  go_wp2_with fail
  refine (awake_calls w).mono ?_
  rintro e w1 ⟨rfl, B1⟩
  go_wp2_with fail
  refine (pick_calls most 12 w1 hmo (by decide) (by decide)).mono ?_
  rintro e w2 ⟨rfl, rfl⟩
  obtain ⟨r0, r1⟩ := pk_range most 12 (by decide)
  obtain ⟨m2, hm2⟩ : ∃ m2, 1 + pk most 12 = m2 := ⟨_, rfl⟩
  have hw1 : wrap64 (1 + pk most 12) = m2 := by unfold wrap64; omega
  have hm2' : Aside0 (In64 m2) := ⟨by constructor <;> omega⟩
  obtain ⟨W, hW⟩ : ∃ W, W = w1.alloc (.cells #[.int .i64 most, .int .i64 m2] 3) := ⟨_, rfl⟩
  obtain ⟨S, hS⟩ : ∃ S, S = w1.heap.size := ⟨_, rfl⟩
  have bS : W.heap[S]? = some (.cells #[.int .i64 most, .int .i64 m2] 3 (0, 0)) := by rw [hW, hS]; exact HeapM.blk_new _ _
  have BW : Below w.heap.size w W := by rw [hW]; apply below_alloc; exact B1
  have hW' := Aside0.mk hW
  have hS' := Aside0.mk hS
  have bS' := Aside0.mk bS
  have BW' := Aside0.mk BW
  clear B1 hm2 r0 r1 hW hS bS BW
  go_wp2_with fail
  rw [← hW'.out, ← hS'.out]
  clear hw1
  go_loopw [34] (fun vj wr => ∃ (j : Nat), vj = .int .i64 j ∧ j ≤ 2 ∧ Aside0 (Kept W wr (fun k => k < W.heap.size))) (fun vj _ => 2 - (intOf vj).toNat)
  case atStart => exact ⟨0, rfl, by omega, ⟨Kept.refl _ _⟩⟩
  case round =>
    obtain ⟨j, rfl, hj2, HK⟩ := hrel
    by_cases hjl : j < 2
    · have hjl' := Aside0.mk hjl
      have hw1 : wrap64 ((j : Int) + 1) = j + 1 := by unfold wrap64; omega
      have hmo2 : ∃ mo, In64 mo ∧ wr.cell? ⟨S, j, none⟩ = some (.int .i64 mo) := by
        have hc := fun i => (HK.out.cell (HeapM.blk_lt bS'.out) (HeapM.blk_lt bS'.out) i).trans (HeapM.blk_cell bS'.out i)
        by_cases e : j = 0
        · subst e; exact ⟨most, hmo, (hc 0).trans rfl⟩
        · obtain rfl : j = 1 := by omega
          exact ⟨m2, hm2'.out, (hc 1).trans rfl⟩
      obtain ⟨mo, hmo64, hmoc⟩ := hmo2
      have HN := Lib.hid (any_newx mo wr (fun k => k < W.heap.size) (fun k e => Nat.lt_of_lt_of_le e HK.out.size))
      go_wp2_with fail
      refine HN.out.mono ?_
      rintro e w3 ⟨o, ok, m', rfl, HA, K3, hok0⟩
      have HA' := Aside0.mk HA
      have K3' := Aside0.mk (HK.out.trans K3)
      have hok := Aside0.mk hok0
      clear HA K3 HN hmoc hok0
      go_wp2_with fail
      refine (rnewx mo w3 o ok m' hok.out).mono ?_
      rintro e w4 ⟨rfl, B4⟩
      obtain ⟨V, hV⟩ : ∃ Q, Q = w4.alloc (.cells #[.slice none 0 0, .int .i64 m'] 30) := ⟨_, rfl⟩
      obtain ⟨R, hR⟩ : ∃ Q, Q = w4.heap.size := ⟨_, rfl⟩
      have ST := Aside0.mk (r_new mo w4 (fun k => k < W.heap.size) _ _ hV hR (HA'.out.below B4) (fun k e => e))
      have K4 : Aside0 (Kept W V (fun k => k < W.heap.size)) := ⟨by rw [hV]; exact (K3'.out.trans (Kept.of_below B4)).alloc _⟩
      have hV' := Aside0.mk hV
      have hR' := Aside0.mk hR
      clear hV hR B4
      go_upto_region 8 with (fail)
      rw [← hV'.out, ← hR'.out]
      go_cut [48] (fun s48 wx => s48 = .bool false ∧ V = wx)
      case first =>
        rcases hok.out with ⟨g, rfl, rfl, -, -, -⟩ | ⟨rfl, rfl, -, -⟩
        · clear ST HA' hok
          go_wp2_with fail
          go_meet
          exact ⟨by first | rfl | trivial, by first | rfl | trivial⟩
        · clear ST HA' hok
          go_wp2_with fail
          go_meet
          exact ⟨by first | rfl | trivial, by first | rfl | trivial⟩
      case rest =>
        obtain ⟨rfl, rfl⟩ := hcut
        go_wp2_with fail
        go_loopw [14] (fun vi wr => ∃ (i : Nat) (C : Int → Option Int) (xs : List Itm) (n N : Nat), vi = .int .i64 i ∧ i ≤ len ∧ i ≤ 60 ∧ Aside0 (St wr (.pointer o) R C xs m' n N (fun k => k < W.heap.size)) ∧ Aside0 (Tied C xs n N i) ∧ Aside0 (Kept W wr (fun k => k < W.heap.size))) (fun vi _ => 60 - (intOf vi).toNat)
        case atStart => exact ⟨0, _, _, 0, 0, rfl, by omega, by omega, ST, ⟨Tied.start⟩, K4⟩
        case round =>
          obtain ⟨i, C, xs, n, N, rfl, hil, hi60, HS, HT, HK2⟩ := hrel
          by_cases hlt : i < len
          · by_cases h60 : i < 60
            · have hlt' := Aside0.mk hlt
              have h60' := Aside0.mk h60
              have hw2 : wrap64 ((i : Int) + 1) = i + 1 := by unfold wrap64; omega
              obtain ⟨b, off, rfl, hb, hcz⟩ := hcell'.out i hlt
              obtain ⟨z0i, c0⟩ := hcz 0 (by decide)
              obtain ⟨z1i, c1⟩ := hcz 1 (by decide)
              obtain ⟨z2i, c2⟩ := hcz 2 (by decide)
              have hbW : b < W.heap.size := Nat.lt_of_lt_of_le hb BW'.out.size
              have d0 : wr.cell? ⟨b, off + i * 3, none⟩ = some (.int .i64 (Z i 0)) := (HK2.out.cell hbW hbW (off + (i * 3 + 0))).trans ((BW'.out.cell (p := ⟨b, off + (i * 3 + 0), none⟩) hb).trans c0)
              have d1 : wr.cell? ⟨b, off + i * 3 + 1, none⟩ = some (.int .i64 (Z i 1)) := (HK2.out.cell hbW hbW (off + (i * 3 + 1))).trans ((BW'.out.cell (p := ⟨b, off + (i * 3 + 1), none⟩) hb).trans c1)
              have d2 : wr.cell? ⟨b, off + i * 3 + 2, none⟩ = some (.int .i64 (Z i 2)) := (HK2.out.cell hbW hbW (off + (i * 3 + 2))).trans ((BW'.out.cell (p := ⟨b, off + (i * 3 + 2), none⟩) hb).trans c2)
              obtain ⟨z0, hz0⟩ : ∃ z, Z i 0 = z := ⟨_, rfl⟩
              obtain ⟨z1, hz1⟩ : ∃ z, Z i 1 = z := ⟨_, rfl⟩
              obtain ⟨z2, hz2⟩ : ∃ z, Z i 2 = z := ⟨_, rfl⟩
              rw [hz0] at d0 z0i
              rw [hz1] at d1 z1i
              rw [hz2] at d2 z2i
              have hcz' := Aside0.mk hcz
              have z0' := Aside0.mk z0i
              have z1' := Aside0.mk z1i
              have z2' := Aside0.mk z2i
              obtain ⟨r0, r1⟩ := pk_range z1 16 (by decide)
              obtain ⟨r2, r3⟩ := pk_range z2 12 (by decide)
              obtain ⟨k1, hk1⟩ : ∃ k, pk z1 16 - 4 = k := ⟨_, rfl⟩
              obtain ⟨p1, hp1⟩ : ∃ k, pk z2 12 - 4 = k := ⟨_, rfl⟩
              have hwk : wrap64 (pk z1 16 - 4) = k1 := by unfold wrap64; omega
              have hwp : wrap64 (pk z2 12 - 4) = p1 := by unfold wrap64; omega
              have hwp' := Aside0.mk hwp
              have hwk' := Aside0.mk hwk
              have k1i : Aside0 (In64 k1) := ⟨by constructor <;> omega⟩
              have p1i : Aside0 (In64 p1) := ⟨by constructor <;> omega⟩
              clear c0 c1 c2 hz0 hz1 hz2 hcz z0i z1i z2i r0 r1 r2 r3 hk1 hp1
              go_wp2_with fail
              refine (pick_calls z1 16 wr z1'.out (by decide) (by decide)).mono ?_
              rintro e w5 ⟨rfl, rfl⟩
              go_wp2_with fail
              refine (pick_calls z2 12 wr z2'.out (by decide) (by decide)).mono ?_
              rintro e w5 ⟨rfl, rfl⟩
              clear hwk
              go_wp2_with fail
              refine (pick_calls z0 20 wr z0'.out (by decide) (by decide)).mono ?_
              rintro e w5 ⟨rfl, rfl⟩
              clear hwp
              go_upto_if 79 with (fail)
              go_cut [15, 16] (fun s15 s16 wx => ∃ k p, s15 = .int .i64 k ∧ s16 = .int .i64 p ∧ Aside0 (In64 k) ∧ Aside0 (In64 p) ∧ wr = wx)
              case first =>
                by_cases h19 : pk z0 20 = 19
                · go_wp2_with fail
                  go_meet
                  exact ⟨any, z2, rfl, rfl, ⟨hany⟩, z2', by first | rfl | trivial⟩
                · have h19b : (pk z0 20 == 19) = false := beq_eq_false_iff_ne.2 h19
                  clear h19
                  go_wp2_with fail
                  go_meet
                  exact ⟨k1, p1, by first | rfl | rw [hwk'.out], by first | rfl | rw [hwp'.out], k1i, p1i, by first | rfl | trivial⟩
              case rest =>
                obtain ⟨k, p, rfl, rfl, hk, hp, rfl⟩ := hcut
                have wk := Aside0.mk (wf_of hk.out)
                obtain ⟨X, hX⟩ : ∃ X, X = wr.heap.size := ⟨_, rfl⟩
                obtain ⟨V2, hV2⟩ : ∃ Q, Q = (wr.alloc (.cells #[.int .i64 0, .int .i64 0] 36)).alloc (.cells #[.int .i64 0, .int .i64 0] 36) := ⟨_, rfl⟩
                have hsz : (wr.alloc (.cells #[.int .i64 0, .int .i64 0] 36)).heap.size = X + 1 := by rw [hX]; simp
                have S2 : Aside0 (St V2 (.pointer o) R C xs m' n N (fun q => (q < W.heap.size ∨ q = X) ∨ q = X + 1)) := ⟨by
                  have h := (HS.out.alloc (.cells #[.int .i64 0, .int .i64 0] 36)).alloc (.cells #[.int .i64 0, .int .i64 0] 36)
                  rw [hsz, ← hX, ← hV2] at h
                  exact h⟩
                have bX2 : Aside0 (V2.heap[X]? = some (.cells #[.int .i64 0, .int .i64 0] 36 (0, 0))) := ⟨by rw [hV2, hX]; exact HeapM.blk_alloc (HeapM.blk_new _ _) _⟩
                have bY2 : Aside0 (V2.heap[X + 1]? = some (.cells #[.int .i64 0, .int .i64 0] 36 (0, 0))) := ⟨by rw [hV2, ← hsz]; exact HeapM.blk_new _ _⟩
                have KV2 : Aside0 (Kept wr V2 (fun q => q < W.heap.size)) := ⟨by rw [hV2]; exact ((Kept.refl _ _).alloc _).alloc _⟩
                have K5 := Aside0.mk (HK2.out.trans KV2.out)
                have e0 : ((wr.alloc (.cells #[.int .i64 0, .int .i64 0] 36)).alloc (.cells #[.int .i64 0, .int .i64 0] 36)).cell? ⟨b, off + i * 3, none⟩ = some (.int .i64 z0) := by rw [← hV2]; exact (KV2.out.cell (Nat.lt_of_lt_of_le hbW HK2.out.size) hbW _).trans d0
                have hX' := Aside0.mk hX
                have hV2' := Aside0.mk hV2
                have hWX : Aside0 (W.heap.size ≤ X) := ⟨by rw [hX]; exact HK2.out.size⟩
                clear hX hV2 hsz d0 d1 d2
                go_wp2_with fail
                refine (pick_calls z0 7 _ z0'.out (by decide) (by decide)).mono ?_
                rintro e w5 ⟨rfl, rfl⟩
                clear e0
                rw [← hV2'.out, ← hX'.out]
                obtain ⟨q0, q1⟩ := pk_range z0 7 (by decide)
                obtain ⟨q, hq⟩ : ∃ q, pk z0 7 = q := ⟨_, rfl⟩
                rw [hq] at q0 q1 ⊢
                clear hq
                go_upto_block 4 with (fail)
                refine blk4 _ (by kernel_rfl) _ _ V2 _ _ _ _ _ _ _ _ _ _ _ _ _ _ _ _ _ _ _ _ _ _ _ _ _ _ _ _ _ _ _ _ _ _ _ _ _ _ _ _ _ _ _ _ _ _ _ _ _ _ _ _ _ _ _ _ _ _ _ _ _ _ _ _ _ _ _ _ _ _ _ _ _ _ _ _ _ _ _ _ _ _ _ _ _ _ _ _ _ _ _ _ _ _ _ _ _ _ _ _ _ _ _ _ _ _ _ _ _ _ _ _ _ _ _ _ _ _ _ _ _ _ _ _ _ _ _ _ _ _ _ _ _ _ _ _ _ _ _ _ _ _ _ _ _ _ _ _ _ _ _ _ _ _ _ _ _ _ _ _ _ _ _ _ _ _ _ _ _ _ _ _ _ _ _ _ _ _ _ _ _ _ _ _ _ _ _ _ _ _ _ _ _ _ o R X k p q m' W C xs n N i HT (by have := h60'.out; omega) wk hWX S2 bX2 bY2 K5 q0 q1 ?_
                intro a x0 x1 C2 xs2 n2 N2 y21 y22 y94 y95 y96 y97 y98 y99 y100 y101 y102 y103 y104 y105 y106 y107 y108 y109 y110 y111 y112 y113 y114 y115 y116 y117 y118 y119 y120 y121 y122 y123 y124 y125 y126 y127 y128 y129 y130 y131 y132 y133 y134 y135 y136 y137 y138 y139 y140 y141 y142 y143 y144 y145 y146 y147 y148 y149 y150 y151 y152 wc S3a T3a bX3a bY3a K3a
                have S3 := Aside0.mk S3a
                have T3 := Aside0.mk T3a
                have bX3 := Aside0.mk bX3a
                have bY3 := Aside0.mk bY3a
                have K3 := Aside0.mk K3a
                clear S3a T3a bX3a bY3a K3a
                clear q0 q1
                have hn9 : n2 ≤ 1000000 := by have := T3.out.few; omega
                have hln : xs2.length ≤ 1000000 := by have := T3.out.len; omega
                obtain ⟨D, hA, hstep⟩ := S3.out.step
                have HTp := Lib.hid hA.top
                have hstep' := Lib.hid hstep
                clear hA hstep
                go_wp2_with fail
                refine HTp.out.mono ?_
                rintro e w6 ⟨t0, t1, tb, rfl, TT, A6, K6⟩
                obtain ⟨S6, K6b⟩ := hstep'.out _ _ _ _ A6 K6
                obtain ⟨V7, hV7⟩ : ∃ Q, Q = w6.alloc (.cells #[.int .i64 t0, .int .i64 t1] 36) := ⟨_, rfl⟩
                obtain ⟨T, hT7⟩ : ∃ Q, Q = w6.heap.size := ⟨_, rfl⟩
                have S7 := S6.alloc (.cells #[.int .i64 t0, .int .i64 t1] 36)
                have B7 : Below w6.heap.size w6 V7 := by rw [hV7]; apply below_alloc; exact Below.refl _ _
                have bT7 : V7.heap[T]? = some (.cells #[.int .i64 t0, .int .i64 t1] 36 (0, 0)) := by rw [hV7, hT7]; exact HeapM.blk_new _ _
                rw [← hV7, ← hT7] at S7
                have K7 := K6b.trans (Kept.of_below B7)
                have bX7 := K7.blk bX3.out (.inl (.inr rfl))
                have bY7 := K7.blk bY3.out (.inr rfl)
                have KW7 := Aside0.mk (K3.out.trans (K7.mono (fun q e => .inl (.inl e))))
                obtain ⟨G, hG, -⟩ := S7.rstep
                have HTr := Lib.hid (rtop_any V7 R xs2 _ G hG hln C2 T3.out.srt)
                have S7' := Aside0.mk S7
                have bX7' := Aside0.mk bX7
                have bY7' := Aside0.mk bY7
                have bT7' := Aside0.mk bT7
                have hV7' := Aside0.mk hV7
                have hT7' := Aside0.mk hT7
                have TT' := Aside0.mk TT
                clear HTp hstep' TT A6 K6 S6 K6b hV7 hT7 S7 B7 bT7 K7 bX7 bY7 hG
                go_wp2_with fail
                rw [← hV7'.out, ← hT7'.out]
                refine HTr.out.mono ?_
                rintro e w8 ⟨u0, u1, ub, rfl, TU, B8⟩
                rw [T3.out.len] at TU
                obtain ⟨rfl, rfl, rfl⟩ := TT'.out.same TU
                obtain ⟨V9, hV9⟩ : ∃ Q, Q = w8.alloc (.cells #[.int .i64 t0, .int .i64 t1] 36) := ⟨_, rfl⟩
                obtain ⟨U, hU9⟩ : ∃ Q, Q = w8.heap.size := ⟨_, rfl⟩
                have B9 : Below V7.heap.size V7 V9 := by rw [hV9]; apply below_alloc; exact B8
                have bU9 : V9.heap[U]? = some (.cells #[.int .i64 t0, .int .i64 t1] 36 (0, 0)) := by rw [hV9, hU9]; exact HeapM.blk_new _ _
                have bX9 := (B9.block X (HeapM.blk_lt bX7'.out)).trans bX7'.out
                have bY9 := (B9.block (X + 1) (HeapM.blk_lt bY7'.out)).trans bY7'.out
                have bT9 := (B9.block T (HeapM.blk_lt bT7'.out)).trans bT7'.out
                have S9 := Aside0.mk (S7'.out.below B9)
                have KW9 := Aside0.mk (KW7.out.trans (Kept.of_below (D := fun q => q < W.heap.size) B9))
                obtain ⟨hLook, hAll⟩ := S9.out.look hn9
                have hLook' := Lib.hid hLook
                have hAll' := Lib.hid hAll
                obtain ⟨G9, hG9, -⟩ := S9.out.rstep
                obtain ⟨ra, rc, rcell, rlt, DR, rIts, rD⟩ := ref_its hG9 hln
                have rIts' := Aside0.mk rIts
                have hV9' := Aside0.mk hV9
                have hU9' := Aside0.mk hU9
                have x0' : V9.cell? ⟨X, 0, none⟩ = some (.int .i64 x0) := (HeapM.blk_cell bX9 0).trans rfl
                have x1' : V9.cell? ⟨X, 1, none⟩ = some (.int .i64 x1) := (HeapM.blk_cell bX9 1).trans rfl
                have y0' : V9.cell? ⟨X + 1, 0, none⟩ = some (.int .i64 x0) := (HeapM.blk_cell bY9 0).trans rfl
                have y1' : V9.cell? ⟨X + 1, 1, none⟩ = some (.int .i64 x1) := (HeapM.blk_cell bY9 1).trans rfl
                have t0' : V9.cell? ⟨T, 0, none⟩ = some (.int .i64 t0) := (HeapM.blk_cell bT9 0).trans rfl
                have t1' : V9.cell? ⟨T, 1, none⟩ = some (.int .i64 t1) := (HeapM.blk_cell bT9 1).trans rfl
                have u0' : V9.cell? ⟨U, 0, none⟩ = some (.int .i64 t0) := (HeapM.blk_cell bU9 0).trans rfl
                have u1' : V9.cell? ⟨U, 1, none⟩ = some (.int .i64 t1) := (HeapM.blk_cell bU9 1).trans rfl
                have lX := HeapM.blk_lt bX9
                have lY := HeapM.blk_lt bY9
                have lT := HeapM.blk_lt bT9
                have lU := HeapM.blk_lt bU9
                have BB := Below.refl V9.heap.size V9
                have hlenN : Aside0 (xs2.length = n2) := ⟨T3.out.len⟩
                rw [T3.out.len] at rcell rIts'
                clear HTr TU B8 B9 bU9 bX9 bY9 bT9 hLook hAll hG9 rIts rD hV9 hU9
                go_wp2_with fail
                rw [← hV9'.out, ← hU9'.out]
                refine reg40 _ (by kernel_rfl) _ _ ?hp40 V9 _ _ _ _ _ _ _ _ _ _ _ _ _ _ _ _ _ _ _ _ _ _ _ _ _ _ _ _ _ _ _ _ _ _ _ _ _ _ _ _ _ _ _ _ _ _ _ _ _ _ _ _ _ _ _ _ _ _ _ _ _ _ _ _ _ _ _ _ _ _ _ _ _ _ _ _ _ _ _ _ _ _ _ _ _ _ _ _ _ _ _ _ _ _ _ _ _ _ _ _ _ _ _ _ _ _ _ _ _ _ _ _ _ _ _ _ _ _ _ _ _ _ _ _ _ _ _ _ _ _ _ _ _ _ _ _ _ _ _ _ _ _ _ _ _ _ _ _ _ _ _ _ _ _ _ _ _ _ _ _ _ _ _ _ _ _ _ _ _ _ _ _ _ _ _ _ _ _ _ _ _ _ _ _ _ _ _ _ _ _ _ _ _ _ _ _ _ _ _ _ _ _ _ R X T U n2 ra rc a tb x0 x1 t0 t1 C2 xs2 DR x0' x1' y0' y1' t0' t1' u0' u1' rcell lX lY lT lU rlt hLook'.out hAll'.out T3.out.srt hln rIts'.out ?_ rfl rfl rfl rfl rfl rfl rfl rfl rfl
                case hp40 => intro _ _ N _ _ h; cases N <;> exact h
                intro y163 y164 y165 y166 y167 y168 y169 y170 y171 y172 y173 y174 y175 y176 y177 y178 y179 y180 y181 y182 y183 y184 y185 y186 y187 y188 y189 y190 y191 y192 y193 y194 y195 y196 y197 y198 y199 w9 B5s
                have A1 := Aside0.mk ((S9.out.below B5s).less (E' := fun q => q < W.heap.size) (fun q e => .inl (.inl (.inl e))))
                have A2 := Aside0.mk (KW9.out.trans (Kept.of_below (D := fun q => q < W.heap.size) B5s))
                clear B5s x0' x1' y0' y1' t0' t1' u0' u1' rcell
                go_wp2_with fail
                refine ⟨⟨i + 1, C2, xs2, n2, N2, by first | rfl | (push_cast; rfl), by have := hlt'.out; omega, by have := h60'.out; omega, A1, T3, A2⟩, ?_⟩
                simp only [intOf]
                have := h60'.out
                omega
            · obtain rfl : i = 60 := by omega
              go_wp2_with fail
              refine ⟨⟨j + 1, by first | rfl | (push_cast; rfl), by have := hjl'.out; omega, HK2⟩, ?_⟩
              simp only [intOf]
              have := hjl'.out
              omega
          · obtain rfl : i = len := by omega
            go_wp2_with fail
            refine ⟨⟨j + 1, by first | rfl | (push_cast; rfl), by have := hjl'.out; omega, HK2⟩, ?_⟩
            simp only [intOf]
            have := hjl'.out
            omega
    · obtain rfl : j = 2 := by omega
      go_wp2_with fail
      go_returns
      exact ⟨rfl, BW'.out.trans ((HK.out.below (Nat.le_refl _) (fun _ e => e)).mono BW'.out.size)⟩
end Go.Proofs.Ytmihpgdpgacgcaa.HeapC
