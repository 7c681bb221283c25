/- QueueOnce's walk. -/
import Derived.Test.YtclekakhgaggdaaQAw
namespace Go.Proofs.Ytclekakhgaggdaa.HeapC
open Go.RowKit Go.Proofs.Ytclekakhgaggdaa.HeapT Go.Proofs.Ytclekakhgaggdaa.HeapM Go.Proofs.Ytclekakhgaggdaa.QueueM Go.Proofs.YtclekakhgaggdaaW.PrintWords Go.Proofs.YtclekakhgaggdaaW.PrintLast Go.Proofs.YtclekakhgaggdaaW.PrintMore
attribute [local go_sem] max2_int min2_int max_two min_two
set_option linter.unusedVariables false
set_option linter.unusedSimpArgs false
theorem sadd_no (s : Int) : sadd (fun _ => false) s false = fun _ => false := by funext x; unfold sadd; split <;> rfl
/-- With no dirty ones. -/
theorem NextTo.clean {C : Int → Option Int} {n : Nat} {most t k p : Int} {b : Bool} {C' : Int → Option Int} {S' : Int → Bool} {n' : Nat} (h : NextTo C (fun _ => false) n most t k p b C' S' n') : TopIs C n k p b ∧ C' = (if b then upd C k none else C) ∧ S' = (fun _ => false) ∧ n' = n - 1 := by
  obtain ⟨h1, ys, m, h2, h3⟩ := h
  obtain rfl : ys = [] := h2.set.one [] (by simp) (fun x => by simp)
  obtain rfl : m = 0 := h2.much.trans (by simp)
  exact ⟨h1, by funext x; rw [h2.cont x]; simp, by funext x; rw [h2.dirt x]; simp, h3⟩
def cOf (mx : Int) : Int → Option Int := if mx < 0 then (fun _ => none) else upd (fun _ => none) 3 (some (mx * 10 - 7))
def nOf (mx : Int) : Nat := if mx < 0 then 0 else 1
theorem once_step {mx p r : Int} {C' : Int → Option Int} {S' : Int → Bool} {n' : Nat} (h1 : -1 ≤ mx) (hp : 0 ≤ p) (h : WantTo (cOf mx) (fun _ => false) (nOf mx) 5 3 (p * 10 - 7) r C' S' n') : r = 0 ∧ C' = cOf (max mx p) ∧ S' = (fun _ => false) ∧ n' = nOf (max mx p) := by
  have hm : ¬ max mx p < 0 := by omega
  unfold cOf nOf at h ⊢
  rw [if_neg hm, if_neg hm]
  by_cases h0 : mx < 0
  · rw [if_pos h0, if_pos h0] at h
    have hx : max mx p = p := by omega
    rw [hx]
    rcases h with ⟨old, e, _⟩ | ⟨_, _, e1, e2, e3, e4⟩ | ⟨_, e, _⟩
    · cases e
    · exact ⟨e1, e2, e3.trans (sadd_no _), e4⟩
    · exact absurd e (by decide)
  · rw [if_neg h0, if_neg h0] at h
    rcases h with ⟨old, e, e1, e2, e3, e4⟩ | ⟨e, _⟩ | ⟨e, _⟩
    · rw [upd_same] at e
      obtain rfl := Option.some.inj e
      refine ⟨e1, ?_, e3, e4⟩
      rw [e2]
      funext x
      unfold upd
      split
      · congr 1; omega
      · rfl
    · rw [upd_same] at e; cases e
    · rw [upd_same] at e; cases e
theorem cOf4 (mx : Int) : cOf mx 4 = none := by unfold cOf; split <;> rfl
theorem upd_two {C : Int → Option Int} {k p : Int} (h : ∀ x, C x = none) {x : Int} {v : Int} (e : upd C k (some p) x = some v) : x = k ∧ v = p := by
  unfold upd at e
  split at e
  · exact ⟨by assumption, (Option.some.inj e).symm⟩
  · rw [h] at e; cases e
theorem topis_none {C : Int → Option Int} {k p : Int} {b : Bool} {n : Nat} (h : TopIs C n k p b) (hn : n = 0) : b = false := by
  rcases h with ⟨_, _, _, e⟩ | ⟨e, _⟩
  · exact e
  · omega
theorem topis_some {C : Int → Option Int} {k p : Int} {b : Bool} {n : Nat} (h : TopIs C n k p b) (hn : 0 < n) : b = true ∧ Most C k p := by
  rcases h with ⟨e, _⟩ | ⟨_, hm, e⟩
  · omega
  · exact ⟨e, hm⟩
theorem once_end0 {mx o k6 p6 k7 p7 k8 p8 : Int} {b6 b7 b8 : Bool} (hm : mx < 0) (h6 : TopIs (upd (cOf mx) 4 (some (o * 10 - 7))) (nOf mx + 1) k6 p6 b6) (h7 : TopIs (if b6 then upd (upd (cOf mx) 4 (some (o * 10 - 7))) k6 none else upd (cOf mx) 4 (some (o * 10 - 7))) (nOf mx + 1 - 1) k7 p7 b7) (h8 : TopIs (if b7 then upd (if b6 then upd (upd (cOf mx) 4 (some (o * 10 - 7))) k6 none else upd (cOf mx) 4 (some (o * 10 - 7))) k7 none else (if b6 then upd (upd (cOf mx) 4 (some (o * 10 - 7))) k6 none else upd (cOf mx) 4 (some (o * 10 - 7)))) (nOf mx + 1 - 1 - 1) k8 p8 b8) : b6 = true ∧ k6 = 4 ∧ b7 = false ∧ b8 = false := by
  have hn : nOf mx = 0 := by unfold nOf; rw [if_pos hm]
  rw [hn] at h6 h7 h8
  obtain ⟨e6, m6⟩ := topis_some h6 (by omega)
  refine ⟨e6, ?_, topis_none h7 (by omega), topis_none h8 (by omega)⟩
  exact (upd_two (fun x => by unfold cOf; rw [if_pos hm]) m6.1).1
theorem once_end1 {mx o k6 p6 k7 p7 k8 p8 : Int} {b6 b7 b8 : Bool} (hm : ¬ mx < 0) (h6 : TopIs (upd (cOf mx) 4 (some (o * 10 - 7))) (nOf mx + 1) k6 p6 b6) (h7 : TopIs (if b6 then upd (upd (cOf mx) 4 (some (o * 10 - 7))) k6 none else upd (cOf mx) 4 (some (o * 10 - 7))) (nOf mx + 1 - 1) k7 p7 b7) (h8 : TopIs (if b7 then upd (if b6 then upd (upd (cOf mx) 4 (some (o * 10 - 7))) k6 none else upd (cOf mx) 4 (some (o * 10 - 7))) k7 none else (if b6 then upd (upd (cOf mx) 4 (some (o * 10 - 7))) k6 none else upd (cOf mx) 4 (some (o * 10 - 7)))) (nOf mx + 1 - 1 - 1) k8 p8 b8) : b6 = true ∧ b7 = true ∧ b8 = false ∧ (o ≤ mx → k6 = 3 ∧ k7 = 4) ∧ (¬ o ≤ mx → k6 = 4 ∧ k7 = 3) := by
  have hn : nOf mx = 1 := by unfold nOf; rw [if_neg hm]
  have hc : cOf mx = upd (fun _ => none) 3 (some (mx * 10 - 7)) := by unfold cOf; rw [if_neg hm]
  rw [hn, hc] at h6 h7 h8
  obtain ⟨rfl, m6⟩ := topis_some h6 (by omega)
  obtain ⟨rfl, m7⟩ := topis_some h7 (by omega)
  refine ⟨rfl, rfl, topis_none h8 (by omega), ?_⟩
  simp only [if_true] at m7
  have g3 : upd (upd (fun _ => none) 3 (some (mx * 10 - 7))) 4 (some (o * 10 - 7)) 3 = some (mx * 10 - 7) := rfl
  have g4 : upd (upd (fun _ => none) 3 (some (mx * 10 - 7))) 4 (some (o * 10 - 7)) 4 = some (o * 10 - 7) := rfl
  have key : ∀ x v, upd (upd (fun _ => none) 3 (some (mx * 10 - 7))) 4 (some (o * 10 - 7)) x = some v → (x = 4 ∧ v = o * 10 - 7) ∨ (x = 3 ∧ v = mx * 10 - 7) := by
    intro x v e
    unfold upd at e
    split at e
    · exact .inl ⟨by assumption, (Option.some.inj e).symm⟩
    · split at e
      · exact .inr ⟨by assumption, (Option.some.inj e).symm⟩
      · cases e
  have m7' : ∃ v, k7 ≠ k6 ∧ upd (upd (fun _ => none) 3 (some (mx * 10 - 7))) 4 (some (o * 10 - 7)) k7 = some v := by
    have := m7.1
    unfold upd at this
    split at this
    · cases this
    · rename_i hne
      exact ⟨p7, hne, this⟩
  obtain ⟨v7, hne, e7⟩ := m7'
  constructor
  · intro hom
    have h3 := m6.2 3 _ g3
    have h4 := m6.2 4 _ g4
    unfold Ahead at h3 h4
    simp only at h3 h4
    rcases key _ _ m6.1 with ⟨rfl, rfl⟩ | ⟨rfl, rfl⟩ <;> rcases key _ _ e7 with ⟨rfl, rfl⟩ | ⟨rfl, rfl⟩ <;> omega
  · intro hom
    have h3 := m6.2 3 _ g3
    have h4 := m6.2 4 _ g4
    unfold Ahead at h3 h4
    simp only at h3 h4
    rcases key _ _ m6.1 with ⟨rfl, rfl⟩ | ⟨rfl, rfl⟩ <;> rcases key _ _ e7 with ⟨rfl, rfl⟩ | ⟨rfl, rfl⟩ <;> omega
set_option maxHeartbeats 2000000 in
set_option maxRecDepth 20000 in
theorem once_walk (pv : Value) (zs : List Int) (other : Int) (w : World) (hz : Ints w pv zs) (ho : In64 other) :
    Calls Try.prog 6 #[pv, .int .i64 other] w fun e w' => e = .returned (.bool true) ∧ Below w.heap.size w w' := by
  obtain ⟨a, cap, rfl, hmx, hcell⟩ := hz
  have hc' := Aside0.mk hcell
  obtain ⟨zl, hzl⟩ : ∃ l, l = zs.length := ⟨_, rfl⟩
  have hmx2 : zl ≤ 9223372036854775807 := by rw [hzl]; exact hmx
  have HZL := Aside0.mk hzl
  rw [← hzl]
  have HO := Aside0.mk ho
  clear hcell hmx hzl ho
  go_enter Try.func6, Try.ntmps6
  go_wp2_with fail
  refine (awake_calls w).mono ?_
  rintro e w1 ⟨rfl, B1⟩
  go_wp2_with fail
  refine (qok_new 5 10 w1 (by decide) (by decide) (by decide) (by decide) (fun k => k < w.heap.size) (fun k d => Nat.lt_of_lt_of_le d B1.size)).mono ?_
  rintro e w2 ⟨q, g, mb, rfl, H2, K2⟩
  have Q2 := Aside0.mk H2
  have K2' := Aside0.mk ((Kept.of_below (D := fun k => k < w.heap.size) B1).trans K2)
  clear H2 K2 B1
  go_wp2_with fail
  go_loopw [7, 8, 9] (fun vm vi _ wr => ∃ (i : Nat) (mx : Int) (N : Nat), vm = .int .i64 mx ∧ vi = .int .i64 i ∧ i ≤ zl ∧ i ≤ 12 ∧ -1 ≤ mx ∧ mx ≤ 99 ∧ Aside0 (QOk wr q g mb (cOf mx) (fun _ => false) 10 5 (nOf mx) N (fun k => k < w.heap.size)) ∧ Aside0 (N ≤ i * 4000000) ∧ Aside0 (Kept w wr (fun k => k < w.heap.size))) (fun _ vi _ _ => 12 - (intOf vi).toNat)
  case atStart => exact ⟨0, -1, 0, rfl, rfl, by omega, by omega, by omega, by omega, Q2, ⟨by omega⟩, K2'⟩
  case round =>
    obtain ⟨i, mx, N, rfl, rfl, hiz, hi12, hm0, hm1, HQ, HN, HK⟩ := hrel
    have d1 : decide ((i : Int) < 12) = decide (i < 12) := by simp; omega
    by_cases hl : i < zl
    · by_cases h12 : i < 12
      · have hw1 : wrap64 ((i : Int) + 1) = i + 1 := by unfold wrap64; omega
        obtain ⟨b, off, rfl, hb, h64, hcl⟩ := hc'.out i (by have := HZL.out; omega)
        have hcw : wr.cell? ⟨b, off + i, none⟩ = some (.int .i64 (zs.getD i 0)) := (HK.out.cell hb hb (off + i)).trans hcl
        obtain ⟨z, hzz⟩ : ∃ z, zs.getD i 0 = z := ⟨_, rfl⟩
        rw [hzz] at hcw h64
        clear hcl hzz d1
        have d2 : decide ((i : Int) < 12) = true := decide_eq_true (by omega)
        go_wp2_with fail
        refine (pick_calls z 100 wr h64 (by decide) (by decide)).mono ?_
        rintro e w4 ⟨rfl, rfl⟩
        obtain ⟨hp0, hp1⟩ := pk_range z 100 (by decide)
        obtain ⟨p, hp⟩ : ∃ p, pk z 100 = p := ⟨_, rfl⟩
        rw [hp] at hp0 hp1 ⊢
        clear hp h64 hcw
        go_wp2_with fail
        · have hMX : max mx p = p := by omega
          refine (HQ.out.want (by have := HN.out; omega) 3 p 7 (by unfold WOk; omega)).mono ?_
          rintro e w5 ⟨r5, C5, S5, n5, N5, rfl, t5, H5, K5, hN5⟩
          obtain ⟨rfl, rfl, rfl, rfl⟩ := once_step hm0 hp0 t5
          rw [hMX] at H5
          have hI : Aside0 (QOk w5 q g mb (cOf p) (fun _ => false) 10 5 (nOf p) N5 (fun k => k < w.heap.size)) := ⟨H5⟩
          have hI2 := Aside0.mk (show N5 ≤ (i + 1) * 4000000 by have := HN.out; omega)
          have hI3 := Aside0.mk (HK.out.trans K5)
          clear t5 H5 K5 hN5
          go_wp2_with fail
          go_roundw
          case rel => exact ⟨i + 1, p, N5, rfl, rfl, by omega, by omega, by omega, by omega, hI, hI2, hI3⟩
          case measure => simp [intOf]; omega
        · have hMX : max mx p = mx := by omega
          refine (HQ.out.want (by have := HN.out; omega) 3 p 7 (by unfold WOk; omega)).mono ?_
          rintro e w5 ⟨r5, C5, S5, n5, N5, rfl, t5, H5, K5, hN5⟩
          obtain ⟨rfl, rfl, rfl, rfl⟩ := once_step hm0 hp0 t5
          rw [hMX] at H5
          have hI : Aside0 (QOk w5 q g mb (cOf mx) (fun _ => false) 10 5 (nOf mx) N5 (fun k => k < w.heap.size)) := ⟨H5⟩
          have hI2 := Aside0.mk (show N5 ≤ (i + 1) * 4000000 by have := HN.out; omega)
          have hI3 := Aside0.mk (HK.out.trans K5)
          clear t5 H5 K5 hN5
          go_wp2_with fail
          go_roundw
          case rel => exact ⟨i + 1, mx, N5, rfl, rfl, by omega, by omega, by omega, by omega, hI, hI2, hI3⟩
          case measure => simp [intOf]; omega
      · have d2 : decide ((i : Int) < 12) = false := decide_eq_false (by omega)
        clear d1
        go_wp2_with fail
        refine (pick_calls other 100 _ HO.out (by decide) (by decide)).mono ?_
        rintro e w4 ⟨rfl, rfl⟩
        obtain ⟨o0, o1⟩ := pk_range other 100 (by decide)
        obtain ⟨o, ho⟩ : ∃ o, pk other 100 = o := ⟨_, rfl⟩
        rw [ho] at o0 o1 ⊢
        clear ho
        go_wp2_with fail
        refine (HQ.out.want (by have := HN.out; omega) 4 o 7 (by unfold WOk; omega)).mono ?_
        rintro e w5 ⟨r5, C5, S5, n5, N5, rfl, t5, H5, K5, hN5⟩
        obtain ⟨rfl, rfl, rfl, rfl⟩ : r5 = 0 ∧ C5 = upd (cOf mx) 4 (some (o * 10 - 7)) ∧ S5 = (fun _ => false) ∧ n5 = nOf mx + 1 := by
          have hn1 : nOf mx ≤ 1 := by unfold nOf; split <;> omega
          rcases t5 with ⟨old, e, _⟩ | ⟨_, _, e1, e2, e3, e4⟩ | ⟨_, e, _⟩
          · rw [cOf4] at e; cases e
          · exact ⟨e1, e2, e3.trans (sadd_no _), e4⟩
          · omega
        have Q5 := Aside0.mk H5
        have K5' := Aside0.mk (HK.out.trans K5)
        have HN5 := Aside0.mk (show N5 ≤ 12 * 4000000 + 4000000 by have := HN.out; omega)
        clear t5 H5 K5 hN5
        go_wp2_with fail
        refine (Q5.out.next (by have := HN5.out; omega) 8).mono ?_
        rintro e w6 ⟨k6, p6, b6, C6, S6, n6, N6, rfl, t6, H6, K6, hN6⟩
        obtain ⟨u6, rfl, rfl, rfl⟩ := t6.clean
        have Q6 := Aside0.mk H6
        have K6' := Aside0.mk (K5'.out.trans K6)
        have HN6 := Aside0.mk (show N6 ≤ 12 * 4000000 + 4000000 + 5000000000 by have := HN5.out; omega)
        have T6 := Aside0.mk u6
        clear t6 u6 H6 K6 hN6
        go_wp2_with fail
        refine (Q6.out.next (by have := HN6.out; omega) 8).mono ?_
        rintro e w7 ⟨k7, p7, b7, C7, S7, n7, N7, rfl, t7, H7, K7, hN7⟩
        obtain ⟨u7, rfl, rfl, rfl⟩ := t7.clean
        have Q7 := Aside0.mk H7
        have K7' := Aside0.mk (K6'.out.trans K7)
        have HN7 := Aside0.mk (show N7 ≤ 12 * 4000000 + 4000000 + 10000000000 by have := HN6.out; omega)
        have T7 := Aside0.mk u7
        clear t7 u7 H7 K7 hN7
        go_wp2_with fail
        refine (Q7.out.next (by have := HN7.out; omega) 8).mono ?_
        rintro e w8 ⟨k8, p8, b8, C8, S8, n8, N8, rfl, t8, H8, K8, hN8⟩
        obtain ⟨u8, -, -, -⟩ := t8.clean
        have K8' := Aside0.mk (K7'.out.trans K8)
        have T8 := Aside0.mk u8
        clear t8 u8 H8 K8 hN8
        by_cases hmx : mx < 0
        · obtain ⟨rfl, rfl, rfl, rfl⟩ := once_end0 hmx T6.out T7.out T8.out
          have dm : decide (mx < 0) = true := decide_eq_true hmx
          clear T6 T7 T8
          go_wp2_with fail
          go_ret
          exact ⟨rfl, K8'.out.below (Nat.le_refl _) (fun k d => d)⟩
        · have dm : decide (mx < 0) = false := decide_eq_false hmx
          obtain ⟨rfl, rfl, rfl, hk⟩ := once_end1 hmx T6.out T7.out T8.out
          clear T6 T7 T8
          by_cases hom : o ≤ mx
          · obtain ⟨rfl, rfl⟩ := hk.1 hom
            have dn : decide (o ≤ mx) = true := decide_eq_true hom
            clear hk
            go_wp2_with fail
            go_ret
            exact ⟨rfl, K8'.out.below (Nat.le_refl _) (fun k d => d)⟩
          · obtain ⟨rfl, rfl⟩ := hk.2 hom
            have dn : decide (o ≤ mx) = false := decide_eq_false hom
            clear hk
            go_wp2_with fail
            go_ret
            exact ⟨rfl, K8'.out.below (Nat.le_refl _) (fun k d => d)⟩
    · clear d1
      go_wp2_with fail
      refine (pick_calls other 100 _ HO.out (by decide) (by decide)).mono ?_
      rintro e w4 ⟨rfl, rfl⟩
      obtain ⟨o0, o1⟩ := pk_range other 100 (by decide)
      obtain ⟨o, ho⟩ : ∃ o, pk other 100 = o := ⟨_, rfl⟩
      rw [ho] at o0 o1 ⊢
      clear ho
      go_wp2_with fail
      refine (HQ.out.want (by have := HN.out; omega) 4 o 7 (by unfold WOk; omega)).mono ?_
      rintro e w5 ⟨r5, C5, S5, n5, N5, rfl, t5, H5, K5, hN5⟩
      obtain ⟨rfl, rfl, rfl, rfl⟩ : r5 = 0 ∧ C5 = upd (cOf mx) 4 (some (o * 10 - 7)) ∧ S5 = (fun _ => false) ∧ n5 = nOf mx + 1 := by
        have hn1 : nOf mx ≤ 1 := by unfold nOf; split <;> omega
        rcases t5 with ⟨old, e, _⟩ | ⟨_, _, e1, e2, e3, e4⟩ | ⟨_, e, _⟩
        · rw [cOf4] at e; cases e
        · exact ⟨e1, e2, e3.trans (sadd_no _), e4⟩
        · omega
      have Q5 := Aside0.mk H5
      have K5' := Aside0.mk (HK.out.trans K5)
      have HN5 := Aside0.mk (show N5 ≤ 12 * 4000000 + 4000000 by have := HN.out; omega)
      clear t5 H5 K5 hN5
      go_wp2_with fail
      refine (Q5.out.next (by have := HN5.out; omega) 8).mono ?_
      rintro e w6 ⟨k6, p6, b6, C6, S6, n6, N6, rfl, t6, H6, K6, hN6⟩
      obtain ⟨u6, rfl, rfl, rfl⟩ := t6.clean
      have Q6 := Aside0.mk H6
      have K6' := Aside0.mk (K5'.out.trans K6)
      have HN6 := Aside0.mk (show N6 ≤ 12 * 4000000 + 4000000 + 5000000000 by have := HN5.out; omega)
      have T6 := Aside0.mk u6
      clear t6 u6 H6 K6 hN6
      go_wp2_with fail
      refine (Q6.out.next (by have := HN6.out; omega) 8).mono ?_
      rintro e w7 ⟨k7, p7, b7, C7, S7, n7, N7, rfl, t7, H7, K7, hN7⟩
      obtain ⟨u7, rfl, rfl, rfl⟩ := t7.clean
      have Q7 := Aside0.mk H7
      have K7' := Aside0.mk (K6'.out.trans K7)
      have HN7 := Aside0.mk (show N7 ≤ 12 * 4000000 + 4000000 + 10000000000 by have := HN6.out; omega)
      have T7 := Aside0.mk u7
      clear t7 u7 H7 K7 hN7
      go_wp2_with fail
      refine (Q7.out.next (by have := HN7.out; omega) 8).mono ?_
      rintro e w8 ⟨k8, p8, b8, C8, S8, n8, N8, rfl, t8, H8, K8, hN8⟩
      obtain ⟨u8, -, -, -⟩ := t8.clean
      have K8' := Aside0.mk (K7'.out.trans K8)
      have T8 := Aside0.mk u8
      clear t8 u8 H8 K8 hN8
      by_cases hmx : mx < 0
      · obtain ⟨rfl, rfl, rfl, rfl⟩ := once_end0 hmx T6.out T7.out T8.out
        have dm : decide (mx < 0) = true := decide_eq_true hmx
        clear T6 T7 T8
        go_wp2_with fail
        go_ret
        exact ⟨rfl, K8'.out.below (Nat.le_refl _) (fun k d => d)⟩
      · have dm : decide (mx < 0) = false := decide_eq_false hmx
        obtain ⟨rfl, rfl, rfl, hk⟩ := once_end1 hmx T6.out T7.out T8.out
        clear T6 T7 T8
        by_cases hom : o ≤ mx
        · obtain ⟨rfl, rfl⟩ := hk.1 hom
          have dn : decide (o ≤ mx) = true := decide_eq_true hom
          clear hk
          go_wp2_with fail
          go_ret
          exact ⟨rfl, K8'.out.below (Nat.le_refl _) (fun k d => d)⟩
        · obtain ⟨rfl, rfl⟩ := hk.2 hom
          have dn : decide (o ≤ mx) = false := decide_eq_false hom
          clear hk
          go_wp2_with fail
          go_ret
          exact ⟨rfl, K8'.out.below (Nat.le_refl _) (fun k d => d)⟩
end Go.Proofs.Ytclekakhgaggdaa.HeapC
