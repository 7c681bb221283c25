/- QueueTells' walk. -/
import Derived.Test.YtclekakhgaggdaaQTb
import Derived.Deep.DeepCutAuto
namespace Go.Proofs.Ytclekakhgaggdaa.HeapC
open Go.RowKit Go.Proofs.Ytclekakhgaggdaa.HeapT Go.Proofs.Ytclekakhgaggdaa.HeapM Go.Proofs.Ytclekakhgaggdaa.QueueM Go.Proofs.YtclekakhgaggdaaW.PrintWords Go.Proofs.YtclekakhgaggdaaW.PrintLast Go.Proofs.YtclekakhgaggdaaW.PrintMore
set_option linter.unusedVariables false
set_option linter.unusedSimpArgs false
/-- What New answers: a queue, or none. -/
def QNew (o : Option Addr) (ok : Bool) (rm ag m' a' : Int) : Prop := (∃ g, o = some ⟨g, 0, none⟩ ∧ ok = true ∧ m' = rm ∧ a' = ag ∧ (1 ≤ rm ∧ rm ≤ 1000 ∧ 1 ≤ ag ∧ ag ≤ 1000)) ∨ (o = none ∧ ok = false ∧ m' = 0 ∧ a' = 0 ∧ (rm < 1 ∨ 1000 < rm ∨ ag < 1 ∨ 1000 < ag))
theorem qany_newx (rm ag : Int) (w : World) (D : Nat → Prop) (hD : ∀ k, D k → k < w.heap.size) :
    Calls Try.prog 10 #[.int .i64 rm, .int .i64 ag] w fun e w' => ∃ o ok m' a', e = .returned (.pointer o) ∧ QAny w' (.pointer o) (fun _ => none) (fun _ => false) a' m' 0 0 D ∧ Kept w w' D ∧ QNew o ok rm ag m' a' := by
  by_cases hm : 1 ≤ rm ∧ rm ≤ 1000 ∧ 1 ≤ ag ∧ ag ≤ 1000
  · refine (qok_new rm ag w hm.1 hm.2.1 hm.2.2.1 hm.2.2.2 D hD).mono ?_
    rintro e w' ⟨q, g, mb, rfl, H, K⟩
    exact ⟨_, true, rm, ag, rfl, .inl ⟨q, g, mb, rfl, H⟩, K, .inl ⟨q, rfl, rfl, rfl, rfl, hm⟩⟩
  · have hm2 : rm < 1 ∨ 1000 < rm ∨ ag < 1 ∨ 1000 < ag := by omega
    refine (qnew_no rm ag w hm2).mono ?_
    rintro e w' ⟨rfl, B⟩
    exact ⟨none, false, 0, 0, rfl, .inr ⟨rfl, rfl, rfl, rfl, rfl, rfl, fun k e => Nat.lt_of_lt_of_le (hD k e) B.size⟩, Kept.of_below B, .inr ⟨rfl, rfl, rfl, rfl, hm2⟩⟩
theorem rqnewx (rm ag : Int) (w : World) (o : Option Addr) (ok : Bool) (m' a' : Int) (h : QNew o ok rm ag m' a') :
    Calls Try.prog 11 #[.int .i64 rm, .int .i64 ag] w fun e w' => e = .returned (.tuple #[.agg #[.slice none 0 0, .int .i64 m', .int .i64 a', .slice none 0 0], .bool ok]) ∧ Below w.heap.size w w' := by
  rcases h with ⟨g, -, rfl, rfl, rfl, h1⟩ | ⟨-, rfl, rfl, rfl, h1⟩
  · exact rqnew_ok _ _ w h1.1 h1.2.1 h1.2.2.1 h1.2.2.2
  · exact rqnew_no rm ag w h1
theorem tq_new (w : World) (E : Nat → Prop) (qv : Value) (D : Nat → Prop) {V : World} {R : Nat} {most age : Int} (hV : V = w.alloc (.cells #[.slice none 0 0, .int .i64 most, .int .i64 age, .slice none 0 0] 34)) (hR : R = w.heap.size) (h : QAny w qv (fun _ => none) (fun _ => false) age most 0 0 D) (hE : ∀ k, E k → D k) :
    TQ V qv R (fun _ => none) (fun _ => false) age most 0 0 [] [] E := by
  have b : Below w.heap.size w V := by rw [hV]; apply below_alloc; exact Below.refl _ _
  refine ⟨fun k => D k ∨ k = R, fun k => k = R, h.turned (Chg.of_below b (fun _ => False)) (fun _ e => e.elim) ?_, ⟨.slice none 0 0, fun k => k = R, ⟨.slice none 0 0, ⟨by rw [hV, hR]; exact HeapM.blk_new _ _, World.ownsRow_nil _ _ _ _, by simp [Value.ownBlock]⟩, ?_, ?_⟩, ⟨none, 0, rfl, by simp, fun i hi => absurd hi (by simp)⟩, fun k e => e, ?_⟩, SortedOf.start, ⟨List.Pairwise.nil, fun x => by simp⟩, rfl, fun k e => .inr e, fun k e => ⟨.inl (hE k e), fun x => ?_⟩⟩
  · rintro k (e | rfl)
    · exact .inl e
    · exact .inr ⟨by omega, by rw [hV, hR]; simp⟩
  · rintro k (e | e)
    · exact e
    · simp [Value.ownBlock] at e
  · rintro k rfl; rw [hV, hR]; simp
  · rintro k rfl; rw [hV, hR]; simp
  · have := h.lt k (hE k e); omega
set_option maxHeartbeats 8000000 in
set_option maxRecDepth 20000 in
theorem tells_walk (room age : Int) (pv : Value) (len : Nat) (Z : Nat → Nat → Int) (any : Int) (w : World) (hroom : In64 room) (hage : In64 age) (hz : Arrs 4 w pv len Z) (hany : In64 any) :
    Calls Try.prog 3 #[.int .i64 room, .int .i64 age, pv, .int .i64 any] w fun e w' => e = .returned (.bool true) ∧ Below w.heap.size w w' := by
  obtain ⟨pa, pc, rfl, hmx, hcell⟩ := hz
  have hmx2 : len ≤ 9223372036854775807 := hmx
  have hcell' := Aside0.mk hcell
  clear hmx hcell
  go_enter Try.func3, Try.ntmps3
  go_wp2_with fail
  refine (awake_calls w).mono ?_
  rintro e w1 ⟨rfl, B1⟩
  go_wp2_with fail
  refine (pick_calls room 6 w1 hroom (by decide) (by decide)).mono ?_
  rintro e w2 ⟨rfl, rfl⟩
  obtain ⟨r0, r1⟩ := pk_range room 6 (by decide)
  obtain ⟨a0, a1⟩ := pk_range age 20 (by decide)
  obtain ⟨m2, hm2⟩ : ∃ m2, 1 + pk room 6 = m2 := ⟨_, rfl⟩
  obtain ⟨g2, hg2⟩ : ∃ m2, 1 + pk age 20 = m2 := ⟨_, rfl⟩
  have hw1 : wrap64 (1 + pk room 6) = m2 := by unfold wrap64; omega
  have hw2 : wrap64 (1 + pk age 20) = g2 := by unfold wrap64; omega
  have hm2' : Aside0 (In64 m2 ∧ In64 g2) := ⟨by constructor <;> constructor <;> omega⟩
  clear hm2 hg2 r0 r1 a0 a1
  go_wp2_with fail
  refine (pick_calls age 20 w1 hage (by decide) (by decide)).mono ?_
  rintro e w2 ⟨rfl, rfl⟩
  go_wp2_with fail
  rw [hw2]
  obtain ⟨W, hW⟩ : ∃ W, W = (w1.alloc (.cells #[.int .i64 room, .int .i64 age, .int .i64 m2, .int .i64 g2] 24)) := ⟨_, rfl⟩
  obtain ⟨S, hS⟩ : ∃ S, S = w1.heap.size := ⟨_, rfl⟩
  have bS : W.heap[S]? = some (.cells #[.int .i64 room, .int .i64 age, .int .i64 m2, .int .i64 g2] 24 (0, 0)) := by rw [hW, hS]; exact HeapM.blk_new _ _
  have BW : Below w.heap.size w W := by rw [hW]; apply below_alloc; exact B1
  have hW' := Aside0.mk hW
  have hS' := Aside0.mk hS
  have bS' := Aside0.mk bS
  have BW' := Aside0.mk BW
  rw [← hW, ← hS]
  clear B1 hW hS bS BW hw1 hw2
  go_loopw [39] (fun vj wr => ∃ (j : Nat), vj = .int .i64 j ∧ j ≤ 2 ∧ Aside0 (Kept W wr (fun k => k < W.heap.size))) (fun vj _ => 2 - (intOf vj).toNat)
  case atStart => exact ⟨0, rfl, by omega, ⟨Kept.refl _ _⟩⟩
  case round =>
    obtain ⟨j, rfl, hj2, HK⟩ := hrel
    by_cases hjl : j < 2
    · have hjl' := Aside0.mk hjl
      have hw1 : wrap64 ((j : Int) + 1) = j + 1 := by unfold wrap64; omega
      have hmo2 : ∃ rm ag, In64 rm ∧ In64 ag ∧ wr.cell? ⟨S, j * 2, none⟩ = some (.int .i64 rm) ∧ wr.cell? ⟨S, j * 2 + 1, none⟩ = some (.int .i64 ag) := by
        have hc := fun i => (HK.out.cell (HeapM.blk_lt bS'.out) (HeapM.blk_lt bS'.out) i).trans (HeapM.blk_cell bS'.out i)
        by_cases e : j = 0
        · subst e; exact ⟨room, age, hroom, hage, (hc 0).trans rfl, (hc 1).trans rfl⟩
        · obtain rfl : j = 1 := by omega
          exact ⟨m2, g2, hm2'.out.1, hm2'.out.2, (hc 2).trans rfl, (hc 3).trans rfl⟩
      obtain ⟨rm, ag, hrm64, hag64, hc0, hc1⟩ := hmo2
      have hrm' := Aside0.mk (And.intro hrm64 hag64)
      clear hrm64 hag64
      obtain ⟨V1, hV1⟩ : ∃ Q, Q = wr.alloc (.cells #[.int .i64 rm, .int .i64 ag] 24) := ⟨_, rfl⟩
      obtain ⟨X, hX⟩ : ∃ Q, Q = wr.heap.size := ⟨_, rfl⟩
      have bX := Aside0.mk (show V1.heap[X]? = some (.cells #[.int .i64 rm, .int .i64 ag] 24 (0, 0)) by rw [hV1, hX]; exact HeapM.blk_new _ _)
      have K1 : Aside0 (Kept W V1 (fun k => k < W.heap.size)) := ⟨by rw [hV1]; exact HK.out.alloc _⟩
      have HN := Lib.hid (qany_newx rm ag V1 (fun k => k < W.heap.size ∨ k = X) (fun k e => e.elim (fun e => Nat.lt_of_lt_of_le e K1.out.size) (fun e => e ▸ HeapM.blk_lt bX.out)))
      go_wp2_with fail
      rw [← hV1, ← hX]
      have hV1' := Aside0.mk hV1
      have hX' := Aside0.mk hX
      clear hV1 hX hc0 hc1
      refine HN.out.mono ?_
      rintro e w3 ⟨o, ok, m', a', rfl, HA, K3, hok0⟩
      have HA' := Aside0.mk HA
      have K3' := Aside0.mk (K1.out.trans (K3.mono (fun k e => .inl e)))
      have hok := Aside0.mk hok0
      have hbX := K3.blk bX.out (.inr rfl)
      have c0 : w3.cell? ⟨X, 0, none⟩ = some (.int .i64 rm) := (HeapM.blk_cell hbX 0).trans rfl
      have c1 : w3.cell? ⟨X, 1, none⟩ = some (.int .i64 ag) := (HeapM.blk_cell hbX 1).trans rfl
      clear HA K3 HN hok0 hbX
      go_wp2_with fail
      refine (rqnewx rm ag w3 o ok m' a' hok.out).mono ?_
      rintro e w4 ⟨rfl, B4⟩
      obtain ⟨V, hV⟩ : ∃ Q, Q = w4.alloc (.cells #[.slice none 0 0, .int .i64 m', .int .i64 a', .slice none 0 0] 34) := ⟨_, rfl⟩
      obtain ⟨R, hR⟩ : ∃ Q, Q = w4.heap.size := ⟨_, rfl⟩
      have ST := Aside0.mk (tq_new w4 (fun k => k < W.heap.size) _ _ hV hR (HA'.out.below B4) (fun k e => .inl e))
      have K4 : Aside0 (Kept W V (fun k => k < W.heap.size)) := ⟨by rw [hV]; exact (K3'.out.trans (Kept.of_below B4)).alloc _⟩
      have hV' := Aside0.mk hV
      have hR' := Aside0.mk hR
      clear hV hR B4 c0 c1
      go_upto_region 8 with (fail)
      rw [← hV'.out, ← hR'.out]
      go_cut [59] (fun s59 wx => s59 = .bool false ∧ V = wx)
      case first =>
        rcases hok.out with ⟨g, rfl, rfl, -⟩ | ⟨rfl, rfl, -⟩
        · clear ST HA' hok
          go_wp2_with fail
          go_meet
          exact ⟨by first | rfl | trivial, by first | rfl | trivial⟩
        · clear ST HA' hok
          go_wp2_with fail
          go_meet
          exact ⟨by first | rfl | trivial, by first | rfl | trivial⟩
      case rest =>
        obtain ⟨rfl, rfl⟩ := hcut
        go_wp2_with fail
        go_loopw [16] (fun vi wr => ∃ (i : Nat) (C : Int → Option Int) (S : Int → Bool) (n N : Nat) (xs : List Itm) (ys : List Int), vi = .int .i64 i ∧ i ≤ len ∧ i ≤ 60 ∧ Aside0 (TQ wr (.pointer o) R C S a' m' n N xs ys (fun k => k < W.heap.size)) ∧ Aside0 (N ≤ i * 5000000000) ∧ Aside0 (Kept W wr (fun k => k < W.heap.size))) (fun vi _ => 60 - (intOf vi).toNat)
        case atStart => exact ⟨0, _, _, 0, 0, _, _, rfl, by omega, by omega, ST, ⟨by omega⟩, K4⟩
        case round =>
          clear ST K4
          obtain ⟨i, C, S2, n, N, xs, ys, rfl, hil, hi60, HS, HN, HK2⟩ := hrel
          by_cases hlt : i < len
          · by_cases h60 : i < 60
            · have hlt' := Aside0.mk hlt
              have h60' := Aside0.mk h60
              have hw2 : wrap64 ((i : Int) + 1) = i + 1 := by unfold wrap64; omega
              obtain ⟨b, off, rfl, hb, hcz⟩ := hcell'.out i hlt
              obtain ⟨z0i, c0⟩ := hcz 0 (by decide)
              obtain ⟨z1i, c1⟩ := hcz 1 (by decide)
              obtain ⟨z2i, c2⟩ := hcz 2 (by decide)
              obtain ⟨z3i, c3⟩ := hcz 3 (by decide)
              have hbW : b < W.heap.size := Nat.lt_of_lt_of_le hb BW'.out.size
              have d0 : wr.cell? ⟨b, off + i * 4, none⟩ = some (.int .i64 (Z i 0)) := (HK2.out.cell hbW hbW (off + (i * 4 + 0))).trans ((BW'.out.cell (p := ⟨b, off + (i * 4 + 0), none⟩) hb).trans c0)
              have d1 : wr.cell? ⟨b, off + i * 4 + 1, none⟩ = some (.int .i64 (Z i 1)) := (HK2.out.cell hbW hbW (off + (i * 4 + 1))).trans ((BW'.out.cell (p := ⟨b, off + (i * 4 + 1), none⟩) hb).trans c1)
              have d2 : wr.cell? ⟨b, off + i * 4 + 2, none⟩ = some (.int .i64 (Z i 2)) := (HK2.out.cell hbW hbW (off + (i * 4 + 2))).trans ((BW'.out.cell (p := ⟨b, off + (i * 4 + 2), none⟩) hb).trans c2)
              have d3 : wr.cell? ⟨b, off + i * 4 + 3, none⟩ = some (.int .i64 (Z i 3)) := (HK2.out.cell hbW hbW (off + (i * 4 + 3))).trans ((BW'.out.cell (p := ⟨b, off + (i * 4 + 3), none⟩) hb).trans c3)
              obtain ⟨z0, hz0⟩ : ∃ z, Z i 0 = z := ⟨_, rfl⟩
              obtain ⟨z1, hz1⟩ : ∃ z, Z i 1 = z := ⟨_, rfl⟩
              obtain ⟨z2, hz2⟩ : ∃ z, Z i 2 = z := ⟨_, rfl⟩
              obtain ⟨z3, hz3⟩ : ∃ z, Z i 3 = z := ⟨_, rfl⟩
              rw [hz0] at d0 z0i
              rw [hz1] at d1 z1i
              rw [hz2] at d2 z2i
              rw [hz3] at d3 z3i
              have z0' := Aside0.mk z0i
              have z1' := Aside0.mk z1i
              have z2' := Aside0.mk z2i
              have z3' := Aside0.mk z3i
              obtain ⟨r0, r1⟩ := pk_range z1 12 (by decide)
              obtain ⟨r4, r5⟩ := pk_range z3 5 (by decide)
              obtain ⟨t1, ht1⟩ : ∃ k, (i : Int) + pk z3 5 = k := ⟨_, rfl⟩
              have hwt : wrap64 ((i : Int) + pk z3 5) = t1 := by unfold wrap64; omega
              have s1i : Aside0 (In64 (pk z1 12)) := ⟨by constructor <;> omega⟩
              have P1 := Aside0.mk (fun w0 => pick_calls z1 12 w0 z1'.out (by decide) (by decide))
              have P2 := Aside0.mk (fun w0 => pick_calls z2 9 w0 z2'.out (by decide) (by decide))
              have P3 := Aside0.mk (fun w0 => pick_calls z3 5 w0 z3'.out (by decide) (by decide))
              have P0 := Aside0.mk (fun w0 => pick_calls z0 12 w0 z0'.out (by decide) (by decide))
              obtain ⟨s1, hs1⟩ : ∃ k, pk z1 12 = k := ⟨_, rfl⟩
              obtain ⟨p1, hp1⟩ : ∃ k, pk z2 9 = k := ⟨_, rfl⟩
              obtain ⟨c12, hc12⟩ : ∃ k, pk z0 12 = k := ⟨_, rfl⟩
              obtain ⟨u5, hu5⟩ : ∃ k, pk z3 5 = k := ⟨_, rfl⟩
              rw [hs1] at P1 s1i
              rw [hp1] at P2
              rw [hu5] at P3 hwt
              rw [hc12] at P0
              clear c0 c1 c2 c3 hz0 hz1 hz2 hz3 hcz z0i z1i z2i z3i r0 r1 r4 r5 ht1 hs1 hp1 hc12 hu5 z1' z2' z3'
              go_wp2_with fail
              refine (P1.out wr).mono ?_
              rintro e w5 ⟨rfl, rfl⟩
              go_wp2_with fail
              refine (P2.out wr).mono ?_
              rintro e w5 ⟨rfl, rfl⟩
              go_wp2_with fail
              refine (P3.out wr).mono ?_
              rintro e w5 ⟨rfl, rfl⟩
              go_wp2_with fail
              refine (P0.out wr).mono ?_
              rintro e w5 ⟨rfl, rfl⟩
              clear P1 P2 P3 P0
              go_upto_block 4 with (fail)
              go_cut [17, 18, 19] (fun s17 s18 s19 wx => ∃ s p t, s17 = .int .i64 s ∧ s18 = .int .i64 p ∧ s19 = .int .i64 t ∧ Aside0 (In64 s) ∧ wr = wx)
              case first =>
                by_cases e0 : c12 = 0
                · subst e0
                  go_wp2_with fail
                  go_meet
                  exact ⟨any, p1, t1, rfl, rfl, rfl, ⟨hany⟩, by first | rfl | trivial⟩
                · have b0 : (c12 == 0) = false := beq_eq_false_iff_ne.2 e0
                  by_cases e1 : c12 = 1
                  · subst e1
                    clear e0 b0
                    go_wp2_with fail
                    go_meet
                    exact ⟨s1, any, t1, rfl, rfl, rfl, s1i, by first | rfl | trivial⟩
                  · have b1 : (c12 == 1) = false := beq_eq_false_iff_ne.2 e1
                    by_cases e2 : c12 = 2
                    · subst e2
                      clear e0 e1 b0 b1
                      go_wp2_with fail
                      go_meet
                      exact ⟨s1, p1, any, rfl, rfl, rfl, s1i, by first | rfl | trivial⟩
                    · have b2 : (c12 == 2) = false := beq_eq_false_iff_ne.2 e2
                      clear e0 e1 e2
                      go_wp2_with fail
                      go_meet
                      exact ⟨s1, p1, t1, rfl, rfl, rfl, s1i, by first | rfl | trivial⟩
              case rest =>
                obtain ⟨s, p, t, rfl, rfl, rfl, hs, rfl⟩ := hcut
                have wk := Aside0.mk (wf_of hs.out)
                clear hwt d1 d2 d3 hs s1i
                obtain ⟨q0, q1⟩ := pk_range z0 4 (by decide)
                have P0 := Aside0.mk (fun w0 => pick_calls z0 4 w0 z0'.out (by decide) (by decide))
                obtain ⟨q, hq⟩ : ∃ q, pk z0 4 = q := ⟨_, rfl⟩
                rw [hq] at q0 q1 P0
                have Q01 := Aside0.mk (And.intro q0 q1)
                clear hq q0 q1 z0'
                go_wp2_with fail
                refine (P0.out wr).mono ?_
                rintro e w5 ⟨rfl, rfl⟩
                clear d0 P0
                go_upto_block 5 with (fail)
                refine blk5 _ (by kernel_rfl) _ _ wr _ _ _ _ _ _ _ _ _ _ _ _ _ _ _ _ _ _ _ _ _ _ _ _ _ _ _ _ _ _ _ _ _ _ _ _ _ _ _ _ _ _ _ _ _ _ _ _ _ _ _ _ _ _ _ _ _ _ _ _ _ _ _ _ _ _ _ _ _ _ _ _ _ _ _ _ _ _ _ _ _ _ _ _ _ _ _ _ _ _ _ _ _ _ _ _ _ _ _ _ _ _ _ _ _ _ _ _ _ _ _ _ _ _ _ _ _ _ _ _ _ _ _ _ _ _ _ _ _ _ _ _ _ _ _ _ _ _ _ _ _ _ _ _ _ _ _ _ _ _ _ _ _ _ _ _ _ _ _ _ _ _ _ _ _ _ _ _ o R s p t q C S2 a' m' n N xs ys (fun k => k < W.heap.size) HS (by have := HN.out; omega) wk Q01.out.1 Q01.out.2 ?_
                intro y20 y21 y22 y23 y24 y25 y111 y112 y113 y114 y115 y116 y117 y118 y119 y120 y121 y122 y123 y124 y125 y126 y127 y128 y129 y130 y131 y132 y133 y134 y135 y136 y137 y138 y139 y140 y141 y142 y143 y144 y145 y146 y147 y148 y149 y150 y151 y152 y153 y154 y155 w9 hR9
                obtain ⟨C9, S9, n9, N9, xs9, ys9, T9, K9, hN9⟩ := hR9
                have T9' := Aside0.mk T9
                have K9' := Aside0.mk (HK2.out.trans K9)
                have HN9 : Aside0 (N9 ≤ (i + 1) * 5000000000) := ⟨by have := HN.out; omega⟩
                obtain ⟨hW9, hWR9, hD9, ⟨dv, hdc, hRl, hdv⟩, hl1, hl2⟩ := T9.look (by have := HN9.out; omega)
                obtain ⟨da, dc, rfl, hdi⟩ := hdv
                have hdv' := Aside0.mk (show Rd w9 (.slice da ys9.length dc) ys9 from ⟨da, dc, rfl, hdi⟩)
                have hW9' := Lib.hid hW9
                have hWR9' := Lib.hid hWR9
                have hD9' := Lib.hid hD9
                have hL9 := Aside0.mk (And.intro hl1 hl2)
                have hdc' := Aside0.mk (And.intro hdc hRl)
                clear T9 K9 hN9 hW9 hWR9 hD9 hdc hRl hdi hl1 hl2 HS HN HK2 Q01
                go_upto_region 37 with (fail)
                refine reg37 _ (by kernel_rfl) _ _ ?hp37 w9 _ _ _ _ _ _ _ _ _ _ _ _ _ _ _ _ _ _ _ _ _ _ _ _ _ _ _ _ _ _ _ _ _ _ _ _ _ _ _ _ _ _ _ _ _ _ _ _ _ _ _ _ _ _ _ _ _ _ _ _ _ _ _ _ _ _ _ _ _ _ _ _ _ _ _ _ _ _ _ _ _ _ _ _ _ _ _ _ _ _ _ _ _ _ _ _ _ _ _ _ _ _ _ _ _ _ _ _ _ _ _ _ _ _ _ _ _ _ _ _ _ _ _ _ _ _ _ _ _ _ _ _ _ _ _ _ _ _ _ _ _ _ _ _ _ _ _ _ _ _ _ _ _ _ _ _ _ _ _ _ _ _ _ _ _ _ _ _ _ _ _ _ _ R ys9.length dc da (xs9.map (·.1)) ys9 hW9'.out hWR9'.out hD9'.out hdc'.out.1 hdc'.out.2 hdv'.out (by rw [List.length_map]; have := hL9.out.1; omega) (by have := hL9.out.2; omega) ?_
                case hp37 => intro _ _ N _ _ h; cases N <;> exact h
                intro z156 z157 z158 z159 z160 z161 z162 z163 z164 z165 z166 z167 z168 z169 z170 wz Bz
                have A1 := Aside0.mk (T9'.out.below Bz)
                have A2 := Aside0.mk (K9'.out.trans (Kept.of_below (D := fun q => q < W.heap.size) Bz))
                clear Bz hdc' hdv' hW9' hWR9' hD9' T9' K9'
                go_wp2_with fail
                refine ⟨⟨i + 1, C9, S9, n9, N9, xs9, ys9, by first | rfl | (push_cast; rfl), by have := hlt'.out; omega, by have := h60'.out; omega, A1, HN9, A2⟩, ?_⟩
                simp only [intOf]
                have := h60'.out
                omega
            · obtain rfl : i = 60 := by omega
              go_wp2_with fail
              refine ⟨⟨j + 1, by first | rfl | (push_cast; rfl), by have := hjl'.out; omega, HK2⟩, ?_⟩
              simp only [intOf]
              have := hjl'.out
              omega
          · obtain rfl : i = len := by omega
            go_wp2_with fail
            refine ⟨⟨j + 1, by first | rfl | (push_cast; rfl), by have := hjl'.out; omega, HK2⟩, ?_⟩
            simp only [intOf]
            have := hjl'.out
            omega
    · obtain rfl : j = 2 := by omega
      go_wp2_with fail
      go_returns
      exact ⟨rfl, BW'.out.trans ((HK.out.below (Nat.le_refl _) (fun _ e => e)).mono BW'.out.size)⟩
end Go.Proofs.Ytclekakhgaggdaa.HeapC
