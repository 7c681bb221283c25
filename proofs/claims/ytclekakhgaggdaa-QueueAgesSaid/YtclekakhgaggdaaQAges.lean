/- QueueAges' walk. -/
import Derived.Test.YtclekakhgaggdaaQOnce
namespace Go.Proofs.Ytclekakhgaggdaa.HeapC
open Go.RowKit Go.Proofs.Ytclekakhgaggdaa.HeapT Go.Proofs.Ytclekakhgaggdaa.HeapM Go.Proofs.Ytclekakhgaggdaa.QueueM Go.Proofs.YtclekakhgaggdaaW.PrintWords Go.Proofs.YtclekakhgaggdaaW.PrintLast Go.Proofs.YtclekakhgaggdaaW.PrintMore
set_option linter.unusedVariables false
set_option linter.unusedSimpArgs false
def c1 (base : Int) (i : Int) : Int → Option Int := fun x => if x = 11 then some (-5) else if 10 - i < x ∧ x ≤ 10 then some (base - (10 - x)) else none
def c2 (base : Int) (n i : Int) : Int → Option Int := fun x => if 10 - n < x ∧ x ≤ 10 - i then some (base - (10 - x)) else none
theorem c1_add (base i : Int) (h0 : 0 ≤ i) (h1 : i < 10) : upd (c1 base i) (10 - i) (some (base - i)) = c1 base (i + 1) := by
  funext x
  unfold upd c1
  by_cases e : x = 10 - i
  · rw [if_pos e, if_neg (by omega), if_pos (by omega)]; congr 1; omega
  · rw [if_neg e]
    by_cases e1 : x = 11
    · rw [if_pos e1, if_pos e1]
    · rw [if_neg e1, if_neg e1]
      by_cases e2 : 10 - i < x ∧ x ≤ 10
      · rw [if_pos e2, if_pos (by omega)]
      · rw [if_neg e2, if_neg (by omega)]
theorem c1_free (base i : Int) (h0 : 0 ≤ i) (h1 : i < 10) : c1 base i (10 - i) = none := by
  unfold c1; rw [if_neg (by omega), if_neg (by omega)]
theorem c1_top {base n k p : Int} (hb : base ≤ -6) (h : Most (c1 base n) k p) : k = 11 := by
  have h2 := h.2 11 (-5) (by unfold c1; rw [if_pos rfl])
  have h1 := h.1
  unfold c1 at h1
  split at h1
  · assumption
  · split at h1
    · have := Option.some.inj h1
      unfold Ahead at h2
      simp only at h2
      omega
    · cases h1
theorem c1_pop (base n : Int) : upd (c1 base n) 11 none = c2 base n 0 := by
  funext x
  unfold upd c1 c2
  by_cases e : x = 11
  · rw [if_pos e, if_neg (by omega)]
  · rw [if_neg e, if_neg e]
    by_cases e2 : 10 - n < x ∧ x ≤ 10
    · rw [if_pos e2, if_pos (by omega)]
    · rw [if_neg e2, if_neg (by omega)]
theorem c2_top {base n i k p : Int} (h0 : i < n) (h : Most (c2 base n i) k p) : k = 10 - i := by
  have h2 := h.2 (10 - i) (base - i) (by unfold c2; rw [if_pos (by omega)]; congr 1; omega)
  have h1 := h.1
  unfold c2 at h1
  split at h1
  · have := Option.some.inj h1
    unfold Ahead at h2
    simp only at h2
    omega
  · cases h1
theorem c2_pop (base n i : Int) : upd (c2 base n i) (10 - i) none = c2 base n (i + 1) := by
  funext x
  unfold upd c2
  by_cases e : x = 10 - i
  · rw [if_pos e, if_neg (by omega)]
  · rw [if_neg e]
    by_cases e2 : 10 - n < x ∧ x ≤ 10 - i
    · rw [if_pos e2, if_pos (by omega)]
    · rw [if_neg e2, if_neg (by omega)]
set_option maxHeartbeats 2000000 in
set_option maxRecDepth 20000 in
theorem ages_walk (age prio later many : Int) (w : World) (ha : In64 age) (hp : In64 prio) (hl : In64 later) (hm : In64 many) :
    Calls Try.prog 5 #[.int .i64 age, .int .i64 prio, .int .i64 later, .int .i64 many] w fun e w' => e = .returned (.bool true) ∧ Below w.heap.size w w' := by
  obtain ⟨a0, a1⟩ := pk_range age 30 (by decide)
  obtain ⟨p0, p1⟩ := pk_range prio 1001 (by decide)
  obtain ⟨l0, l1⟩ := pk_range later 1000 (by decide)
  obtain ⟨m0, m1⟩ := pk_range many 10 (by decide)
  have PA := Aside0.mk (fun w0 => pick_calls age 30 w0 ha (by decide) (by decide))
  have PP := Aside0.mk (fun w0 => pick_calls prio 1001 w0 hp (by decide) (by decide))
  have PL := Aside0.mk (fun w0 => pick_calls later 1000 w0 hl (by decide) (by decide))
  have PM := Aside0.mk (fun w0 => pick_calls many 10 w0 hm (by decide) (by decide))
  obtain ⟨G, hG⟩ : ∃ G, 1 + pk age 30 = G := ⟨_, rfl⟩
  obtain ⟨n, hn⟩ : ∃ n : Nat, 1 + pk many 10 = (n : Int) := ⟨(1 + pk many 10).toNat, by omega⟩
  have wA : wrap64 (1 + pk age 30) = G := by rw [hG]; unfold wrap64; omega
  have wM : wrap64 (1 + pk many 10) = (n : Int) := by rw [hn]; unfold wrap64; omega
  generalize pk prio 1001 = P at p0 p1 PP
  generalize pk later 1000 = L at l0 l1 PL
  have hG0 : 1 ≤ G ∧ G ≤ 30 := by omega
  have hn0 : 1 ≤ n ∧ n ≤ 10 := by omega
  have HPG : 0 ≤ P * G ∧ P * G ≤ 1000 * G := ⟨Int.mul_nonneg p0 (by omega), Int.mul_le_mul_of_nonneg_right (by omega) (by omega)⟩
  obtain ⟨base, hbase⟩ : ∃ base, base = P * G - (6 + 1000 * G + L) := ⟨_, rfl⟩
  have hb6 : base ≤ -6 := by generalize P * G = m at *; omega
  have HW := Lib.hid (And.intro wA wM)
  have HB := Aside0.mk hbase
  clear ha hp hl hm a0 a1 m0 m1 hG hn wA wM HPG hbase
  go_enter Try.func5, Try.ntmps5
  go_wp2_with fail
  refine (awake_calls w).mono ?_
  rintro e w1 ⟨rfl, B1⟩
  go_wp2_with fail
  refine (PA.out _).mono ?_
  rintro e w2 ⟨rfl, rfl⟩
  obtain ⟨wA, wM⟩ := HW.out
  go_wp2_with fail
  rw [wA]
  refine (qok_new 20 G w1 (by decide) (by decide) hG0.1 (by omega) (fun k => k < w.heap.size) (fun k d => Nat.lt_of_lt_of_le d B1.size)).mono ?_
  rintro e w2 ⟨q, g, mb, rfl, H2, K2⟩
  have Q2 := Aside0.mk H2
  have K2' := Aside0.mk ((Kept.of_below (D := fun k => k < w.heap.size) B1).trans K2)
  clear H2 K2 B1 wA
  go_wp2_with fail
  refine (PM.out _).mono ?_
  rintro e w3 ⟨rfl, rfl⟩
  go_wp2_with fail
  rw [wM]
  clear wM
  refine (Q2.out.want (by decide) 11 0 5 (by unfold WOk; decide)).mono ?_
  rintro e w3 ⟨r3, C3, S3, n3, N3, rfl, t3, H3, K3, hN3⟩
  obtain ⟨rfl, rfl, rfl, rfl⟩ : r3 = 0 ∧ C3 = c1 base 0 ∧ S3 = (fun _ => false) ∧ n3 = 1 := by
    rcases t3 with ⟨old, e, _⟩ | ⟨_, _, e1, e2, e3, e4⟩ | ⟨_, e, _⟩
    · cases e
    · refine ⟨e1, ?_, e3.trans (sadd_no _), e4⟩
      rw [e2]; funext x; unfold upd c1
      by_cases e : x = 11
      · rw [if_pos e, if_pos e]; congr 1; omega
      · rw [if_neg e, if_neg e, if_neg (by omega)]
    · exact absurd e (by decide)
  have Q3 := Aside0.mk H3
  have K3' := Aside0.mk (K2'.out.trans K3)
  have HN3 := Aside0.mk hN3
  clear t3 H3 K3 hN3 Q2 K2'
  go_wp2_with fail
  go_loopw [14] (fun vi wr => ∃ (i : Nat) (N : Nat), vi = .int .i64 i ∧ i ≤ n ∧ Aside0 (QOk wr q g mb (c1 base i) (fun _ => false) G 20 (1 + i) N (fun k => k < w.heap.size)) ∧ Aside0 (N ≤ (i + 1) * 4000000) ∧ Aside0 (Kept w wr (fun k => k < w.heap.size))) (fun vi _ => n - (intOf vi).toNat)
  case atStart => exact ⟨0, N3, rfl, by omega, Q3, ⟨by have := HN3.out; omega⟩, K3'⟩
  case round =>
    clear Q3 K3' HN3
    obtain ⟨i, N, rfl, hi, HQ, HN, HK⟩ := hrel
    by_cases hlt : i < n
    · have hw1 : wrap64 ((i : Int) + 1) = i + 1 := by unfold wrap64; omega
      have e0 : wrap64 (10 - (i : Int)) = 10 - i := by unfold wrap64; omega
      have e1 : wrap64 (1000 * G) = 1000 * G := by unfold wrap64; omega
      have e2 : wrap64 (5 + 1000 * G) = 5 + 1000 * G := by unfold wrap64; omega
      have e3 : wrap64 (5 + 1000 * G + 1) = 5 + 1000 * G + 1 := by unfold wrap64; omega
      have e4 : wrap64 (5 + 1000 * G + 1 + L) = 5 + 1000 * G + 1 + L := by unfold wrap64; omega
      have e5 : wrap64 (5 + 1000 * G + 1 + L + i) = 5 + 1000 * G + 1 + L + i := by unfold wrap64; omega
      go_wp2_with fail
      refine (PP.out _).mono ?_
      rintro e w5 ⟨rfl, rfl⟩
      go_wp2_with fail
      refine (PL.out _).mono ?_
      rintro e w5 ⟨rfl, rfl⟩
      go_wp2_with fail
      (try rw [e1, e2, e3, e4, e5])
      obtain ⟨tt, htt⟩ : ∃ tt, 5 + 1000 * G + 1 + L + (i : Int) = tt := ⟨_, rfl⟩
      rw [htt]
      have hwk : P * G - tt = base - i := by have := HB.out; rw [← htt, this]; generalize P * G = m; omega
      have hok : WOk (10 - i) P tt := by unfold WOk; omega
      clear e0 e1 e2 e3 e4 e5
      refine (HQ.out.want (by have := HN.out; omega) (10 - i) P tt hok).mono ?_
      rintro e w5 ⟨r5, C5, S5, n5, N5, rfl, t5, H5, K5, hN5⟩
      rw [hwk] at t5
      obtain ⟨rfl, rfl, rfl, rfl⟩ : r5 = 0 ∧ C5 = c1 base (i + 1) ∧ S5 = (fun _ => false) ∧ n5 = 1 + i + 1 := by
        have hfree := c1_free base i (by omega) (by omega)
        rcases t5 with ⟨old, e, _⟩ | ⟨_, _, e1, e2, e3, e4⟩ | ⟨_, e, _⟩
        · rw [hfree] at e; cases e
        · exact ⟨e1, e2.trans (c1_add base i (by omega) (by omega)), e3.trans (sadd_no _), e4⟩
        · omega
      have Q5 := Aside0.mk (show QOk w5 q g mb (c1 base ((i + 1 : Nat) : Int)) (fun _ => false) G 20 (1 + (i + 1)) N5 (fun k => k < w.heap.size) by rw [show ((i + 1 : Nat) : Int) = (i : Int) + 1 by omega, show 1 + (i + 1) = 1 + i + 1 by omega]; exact H5)
      have K5' := Aside0.mk (HK.out.trans K5)
      have HN5 := Aside0.mk (show N5 ≤ (i + 1 + 1) * 4000000 by have := HN.out; omega)
      clear t5 H5 K5 hN5 htt hwk hok
      go_wp2_with fail
      go_roundw
      case rel => exact ⟨i + 1, N5, rfl, by omega, Q5, HN5, K5'⟩
      case measure => simp only [intOf]; omega
    · obtain rfl : i = n := by omega
      go_wp2_with fail
      refine (HQ.out.next (by have := HN.out; omega) 0).mono ?_
      rintro e w6 ⟨k6, p6, b6, C6, S6, n6, N6, rfl, t6, H6, K6, hN6⟩
      obtain ⟨u6, rfl, rfl, rfl⟩ := t6.clean
      obtain ⟨rfl, m6⟩ := topis_some u6 (by omega)
      obtain rfl := c1_top hb6 m6
      have Q6 := Aside0.mk (show QOk w6 q g mb (c2 base i 0) (fun _ => false) G 20 i N6 (fun k => k < w.heap.size) by
        rw [← c1_pop]; have e : 1 + i - 1 = i := by omega
        rw [e] at H6; exact H6)
      have K6' := Aside0.mk (HK.out.trans K6)
      have HN6 := Aside0.mk (show N6 ≤ 5100000000 by have := HN.out; omega)
      clear t6 u6 m6 H6 K6 hN6 HQ HN HK
      go_wp2_with fail
      go_loopw [17, 18, 19] (fun vi _ _ wr => ∃ (j : Nat) (N : Nat), vi = .int .i64 j ∧ j ≤ i ∧ Aside0 (QOk wr q g mb (c2 base i j) (fun _ => false) G 20 (i - j) N (fun k => k < w.heap.size)) ∧ Aside0 (N ≤ 5100000000 + j * 5000000000) ∧ Aside0 (Kept w wr (fun k => k < w.heap.size))) (fun vi _ _ _ => i - (intOf vi).toNat)
      case atStart => exact ⟨0, N6, rfl, by omega, Q6, ⟨by have := HN6.out; omega⟩, K6'⟩
      case round =>
        clear Q6 K6' HN6
        obtain ⟨j, N, rfl, hj, HQ, HN, HK⟩ := hrel
        by_cases hlt2 : j < i
        · have hw1 : wrap64 ((j : Int) + 1) = j + 1 := by unfold wrap64; omega
          have e0 : wrap64 (10 - (j : Int)) = 10 - j := by unfold wrap64; omega
          go_wp2_with fail
          refine (HQ.out.next (by have := HN.out; omega) 0).mono ?_
          rintro e w7 ⟨k7, p7, b7, C7, S7, n7, N7, rfl, t7, H7, K7, hN7⟩
          obtain ⟨u7, rfl, rfl, rfl⟩ := t7.clean
          obtain ⟨rfl, m7⟩ := topis_some u7 (by omega)
          obtain rfl := c2_top (by omega) m7
          have Q7 := Aside0.mk (show QOk w7 q g mb (c2 base i ((j + 1 : Nat) : Int)) (fun _ => false) G 20 (i - (j + 1)) N7 (fun k => k < w.heap.size) by
            rw [show ((j + 1 : Nat) : Int) = (j : Int) + 1 by omega, ← c2_pop, show i - (j + 1) = i - j - 1 by omega]; exact H7)
          have K7' := Aside0.mk (HK.out.trans K7)
          have HN7 := Aside0.mk (show N7 ≤ 5100000000 + (j + 1) * 5000000000 by have := HN.out; omega)
          clear t7 u7 m7 H7 K7 hN7
          go_wp2_with fail
          go_roundw
          case rel => exact ⟨j + 1, N7, rfl, by omega, Q7, HN7, K7'⟩
          case measure => simp only [intOf]; omega
        · obtain rfl : j = i := by omega
          go_wp2_with fail
          refine (HQ.out.next (by have := HN.out; omega) 0).mono ?_
          rintro e w8 ⟨k8, p8, b8, C8, S8, n8, N8, rfl, t8, H8, K8, hN8⟩
          obtain ⟨u8, -, -, -⟩ := t8.clean
          obtain rfl := topis_none u8 (by omega)
          have K8' := Aside0.mk (HK.out.trans K8)
          clear t8 u8 H8 K8 hN8
          go_wp2_with fail
          go_ret
          exact ⟨rfl, K8'.out.below (Nat.le_refl _) (fun k d => d)⟩
end Go.Proofs.Ytclekakhgaggdaa.HeapC
