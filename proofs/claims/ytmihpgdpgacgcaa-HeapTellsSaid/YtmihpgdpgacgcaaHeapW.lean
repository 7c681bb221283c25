/- pick; a law's slice of ints; HeapFull's walk. -/
import Derived.Test.YtmihpgdpgacgcaaHeapV
namespace Go.Proofs.Ytmihpgdpgacgcaa.HeapC
open Go.RowKit Go.Proofs.Ytmihpgdpgacgcaa.HeapT Go.Proofs.Ytmihpgdpgacgcaa.HeapM Go.Proofs.YtmihpgdpgacgcaaW.PrintWords Go.Proofs.YtmihpgdpgacgcaaW.PrintLast Go.Proofs.YtmihpgdpgacgcaaW.PrintMore
set_option linter.unusedVariables false
set_option linter.unusedSimpArgs false

def In64 (c : Int) : Prop := -9223372036854775808 ≤ c ∧ c ≤ 9223372036854775807
theorem in64_of {c : Int} (h : (Lit.int .i64 c).wf = true) : In64 c := by
  unfold Lit.wf at h
  rw [Bool.and_eq_true, decide_eq_true_eq, decide_eq_true_eq] at h
  exact ⟨h.1, h.2⟩
theorem wf_of {c : Int} (h : In64 c) : (Lit.int .i64 c).wf = true := by
  unfold Lit.wf
  rw [Bool.and_eq_true, decide_eq_true_eq, decide_eq_true_eq]
  exact ⟨h.1, h.2⟩
/-- Which of n things a raw number speaks of. -/
def pk (c n : Int) : Int := Int.emod (if c < 0 then -(c + 1) else c) n
theorem pk_range (c n : Int) (h : 0 < n) : 0 ≤ pk c n ∧ pk c n < n := ⟨Int.emod_nonneg _ (by omega), Int.emod_lt_of_pos _ h⟩

set_option maxHeartbeats 1000000 in
theorem pick_calls (c n : Int) (w : World) (hc : In64 c) (h0 : 0 < n) (h1 : n ≤ 1000000) :
    Calls Try.prog 10 #[.int .i64 c, .int .i64 n] w fun e w' => e = .returned (.int .i64 (pk c n)) ∧ w = w' := by
  unfold In64 at hc
  have hr := pk_range c n h0
  have hn0 : (n == 0) = false := beq_eq_false_iff_ne.2 (by omega)
  have hn1 : (n == -1) = false := beq_eq_false_iff_ne.2 (by omega)
  by_cases hneg : c < 0
  · have e1 : wrap64 (c + 1) = c + 1 := by unfold wrap64; omega
    have e2 : wrap64 (-(c + 1)) = -(c + 1) := by unfold wrap64; omega
    have e3 : (-(c + 1)).tmod n = pk c n := by unfold pk; rw [if_pos hneg, Int.tmod_eq_emod_of_nonneg (by omega)]; rfl
    have e4 : wrap64 (pk c n) = pk c n := by unfold wrap64; omega
    have H := Lib.hid (And.intro e1 (And.intro e2 (And.intro e3 e4)))
    have d : decide (c < 0) = true := decide_eq_true hneg
    go_enter Try.func10, Try.ntmps10
    go_wp2
    go_returns
    obtain ⟨e1, e2, e3, e4⟩ := H.out
    exact ⟨rfl, rfl⟩
  · have e3 : c.tmod n = pk c n := by unfold pk; rw [if_neg hneg, Int.tmod_eq_emod_of_nonneg (by omega)]; rfl
    have e4 : wrap64 (pk c n) = pk c n := by unfold wrap64; omega
    have H := Lib.hid (And.intro e3 e4)
    have d : decide (c < 0) = false := decide_eq_false hneg
    go_enter Try.func10, Try.ntmps10
    go_wp2
    go_returns
    obtain ⟨e3, e4⟩ := H.out
    exact ⟨rfl, rfl⟩

/-- A slice of ints that was handed in. -/
def Ints (w : World) (v : Value) (zs : List Int) : Prop :=
  ∃ a cap, v = .slice a zs.length cap ∧ zs.length ≤ maxLen ∧ ∀ i, i < zs.length → ∃ b off, a = some ⟨b, off, none⟩ ∧ b < w.heap.size ∧ In64 (zs.getD i 0) ∧ w.cell? ⟨b, off + i, none⟩ = some (.int .i64 (zs.getD i 0))

theorem cell_addr {w : World} {x : Addr} {v : Value} (h : w.cell? x = some v) : x.spot = none ∧ x.block < w.heap.size := by
  unfold World.cell? at h
  split at h
  · rename_i e
    refine ⟨?_, (Array.getElem?_eq_some_iff.1 e).1⟩
    cases hs : x.spot with
    | none => rfl
    | some s => rw [hs] at h; simp at h
  · cases h
theorem add_addr (x : Addr) (h : x.spot = none) (i : Nat) : x.add i = ⟨x.block, x.off + i, none⟩ := by
  obtain ⟨b, o, s⟩ := x
  simp at h; subst h
  unfold Addr.add
  split
  · rename_i e; simp [e]
  · rfl
theorem ints_nil (w : World) : Ints w (.slice none 0 0) [] := ⟨none, 0, rfl, Nat.zero_le _, fun i h => absurd h (by simp)⟩
theorem ints_of {w : World} {x : Addr} {l c : Nat} {zs : List Int} (hl : l ≤ c) (hm : c ≤ maxLen) (hz : zs.length = c) (hc : ∀ i, i < zs.length → w.cell? (x.add i) = some (.int .i64 (zs.getD i 0))) (hw : ∀ n ∈ zs, (Lit.int .i64 n).wf = true) :
    Ints w (.slice (some x) l c) (zs.take l) := by
  have hlt : (zs.take l).length = l := by rw [List.length_take]; omega
  refine ⟨some x, c, by rw [hlt], by omega, fun i hi => ?_⟩
  rw [hlt] at hi
  have h0 := hc 0 (by omega)
  rw [show x.add 0 = x from rfl] at h0
  obtain ⟨s0, s1⟩ := cell_addr h0
  have e : (zs.take l).getD i 0 = zs.getD i 0 := by simp [List.getD, List.getElem?_take, hi]
  refine ⟨x.block, x.off, by obtain ⟨b, o, s⟩ := x; simp at s0; subst s0; rfl, s1, ?_, ?_⟩
  · rw [e]; refine in64_of (hw _ ?_)
    rw [List.getD_eq_getElem?_getD, List.getElem?_eq_getElem (by omega)]; exact List.getElem_mem _
  · rw [e, ← add_addr x s0]; exact hc i (by omega)

/-- The keys are those from 0 to i. -/
def Upto (C : Int → Option Int) (i : Int) : Prop := ∀ k, C k ≠ none ↔ 0 ≤ k ∧ k < i
theorem upto_none : Upto (fun _ => none) 0 := fun k => ⟨fun h => absurd rfl h, fun h => by omega⟩
theorem Upto.add {C : Int → Option Int} {i : Int} (h : Upto C i) (hi : 0 ≤ i) (p : Int) : Upto (upd C i (some p)) (i + 1) := fun k => by
  unfold upd
  by_cases e : k = i
  · rw [if_pos e]; constructor
    · intro _; omega
    · intro _; simp
  · rw [if_neg e, h k]; omega

set_option maxHeartbeats 8000000 in
set_option maxRecDepth 20000 in
theorem full_walk (room : Int) (pv : Value) (zs : List Int) (which : Int) (w : World) (hr : In64 room) (hz : Ints w pv zs) (hw : In64 which) :
    Calls Try.prog 8 #[.int .i64 room, pv, .int .i64 which] w fun e w' => e = .returned (.bool true) ∧ Below w.heap.size w w' := by
  obtain ⟨a, cap, rfl, hmx, hcell⟩ := hz
  have hc' := Aside0.mk hcell
  have hmx2 : zs.length ≤ 9223372036854775807 := hmx
  clear hcell hmx
  go_enter Try.func8, Try.ntmps8
  go_wp2_with fail
  refine (awake_calls w).mono ?_
  rintro e w1 ⟨rfl, B1⟩
  go_wp2_with fail
  refine (pick_calls room 12 w1 hr (by decide) (by decide)).mono ?_
  rintro e w2 ⟨rfl, rfl⟩
  obtain ⟨r0, r1⟩ := pk_range room 12 (by decide)
  obtain ⟨n, hn⟩ : ∃ n : Nat, 1 + pk room 12 = n := ⟨(1 + pk room 12).toNat, by omega⟩
  have hn1 : wrap64 (1 + pk room 12) = n := by unfold wrap64; omega
  have hn0 : 1 ≤ n ∧ n ≤ 12 := by omega
  obtain ⟨hn2, hn3⟩ := hn0
  clear r0 r1 hn
  go_wp2_with fail
  rw [hn1]
  refine (held_new n w1 (by omega) (by omega) (fun k => k < w.heap.size) (fun _ e => Nat.lt_of_lt_of_le e B1.size)).mono ?_
  rintro e w3 ⟨g, rfl, H3, K3⟩
  have H3' := Aside0.mk H3
  have K3' : Aside0 (Kept w w3 (fun k => k < w.heap.size)) := ⟨(Kept.of_below B1).trans K3⟩
  clear H3 K3 B1 hn1
  go_wp2_with fail
  go_loopw [10] (fun vi wr => ∃ (i : Nat) (C : Int → Option Int) (N : Nat), vi = .int .i64 i ∧ i ≤ n ∧ Aside0 (Held wr g C n i N (fun k => k < w.heap.size)) ∧ Aside0 (N ≤ i * 4000000) ∧ Aside0 (Upto C i) ∧ Aside0 (Kept w wr (fun k => k < w.heap.size))) (fun vi _ => n - (intOf vi).toNat)
  case atStart => exact ⟨0, _, 0, rfl, by omega, H3', ⟨by omega⟩, ⟨upto_none⟩, K3'⟩
  case round =>
    obtain ⟨i, C, N, rfl, hin, HH, HN, HU, HK⟩ := hrel
    have HP := Lib.hid (fun p => HH.out.push_ok (by have := HN.out; omega) (by omega) i p (wf_of ⟨by omega, by omega⟩) (Classical.not_not.1 (fun h => by have := (HU.out i).1 h; omega)))
    by_cases hlt : i < n
    · have hw1 : wrap64 ((i : Int) + 1) = i + 1 := by unfold wrap64; omega
      by_cases hzl : i < zs.length
      · obtain ⟨b, off, rfl, hb, h64, hcl⟩ := hc'.out i hzl
        have hcw : wr.cell? ⟨b, off + i, none⟩ = some (.int .i64 (zs.getD i 0)) := (HK.out.cell hb hb (off + i)).trans hcl
        obtain ⟨z, hzz⟩ : ∃ z, zs.getD i 0 = z := ⟨_, rfl⟩
        rw [hzz] at hcw h64
        clear hcl hzz
        go_wp2_with fail
        refine (pick_calls z 9 wr h64 (by decide) (by decide)).mono ?_
        rintro e w4 ⟨rfl, rfl⟩
        clear hcw
        go_wp2_with fail
        refine (HP.out _ (by omega)).mono ?_
        rintro e w5 ⟨rfl, H5, K5⟩
        have R := Aside0.mk (And.intro H5 (And.intro (HK.out.trans K5) (HU.out.add (by omega) (pk z 9))))
        clear H5 K5
        go_wp2_with fail
        refine ⟨⟨i + 1, _, N + 4000000, by first | rfl | (push_cast; rfl), by omega, ⟨R.out.1⟩, ⟨by have := HN.out; omega⟩, ⟨by have := R.out.2.2; push_cast; exact this⟩, ⟨R.out.2.1⟩⟩, ?_⟩
        simp only [intOf]
        omega
      · go_wp2_with fail
        refine (HP.out _ (by omega)).mono ?_
        rintro e w5 ⟨rfl, H5, K5⟩
        have R := Aside0.mk (And.intro H5 (And.intro (HK.out.trans K5) (HU.out.add (by omega) 0)))
        clear H5 K5
        go_wp2_with fail
        refine ⟨⟨i + 1, _, N + 4000000, by first | rfl | (push_cast; rfl), by omega, ⟨R.out.1⟩, ⟨by have := HN.out; omega⟩, ⟨by have := R.out.2.2; push_cast; exact this⟩, ⟨R.out.2.1⟩⟩, ?_⟩
        simp only [intOf]
        omega
    · obtain rfl : i = n := by omega
      go_wp2_with fail
      clear HP
      have hCn : C (i : Int) = none := Classical.not_not.1 (fun h => by have := (HU.out i).1 h; omega)
      have hCn1 : C ((i : Int) + 1) = none := Classical.not_not.1 (fun h => by have := (HU.out ((i : Int) + 1)).1 h; omega)
      refine (HH.out.push_full i 5 (wf_of ⟨by omega, by omega⟩) hCn (Int.le_refl _)).mono ?_
      rintro e w4 ⟨rfl, B4⟩
      have H4 := HH.out.below B4
      have K4 := Aside0.mk (HK.out.trans (Kept.of_below B4))
      clear B4
      obtain ⟨r0, r1⟩ := pk_range which i (by omega)
      have HC2 : C (pk which i) ≠ none := (HU.out _).2 ⟨r0, r1⟩
      have wfr : (Lit.int .i64 (pk which i)).wf = true := wf_of ⟨by omega, by omega⟩
      have HA := Lib.hid (H4.push_there (pk which i) 5 wfr HC2)
      have HRm := Lib.hid (H4.remove_some (by have := HN.out; omega) (by omega) (pk which i) wfr HC2)
      have HPp := Lib.hid (H4.pop_some (by have := HN.out; omega) (by omega) (by omega))
      have hCn' := Aside0.mk hCn
      have hCn1' := Aside0.mk hCn1
      clear H4 r0 r1 HC2 wfr hCn hCn1
      go_wp2_with fail
      refine (pick_calls which i w4 hw (by omega) (by omega)).mono ?_
      rintro e w5 ⟨rfl, rfl⟩
      go_wp2_with fail
      refine HA.out.mono ?_
      rintro e w5 ⟨rfl, rfl⟩
      go_wp2_with fail
      refine (pick_calls which 2 w4 hw (by omega) (by omega)).mono ?_
      rintro e w5 ⟨rfl, rfl⟩
      have wfi : (Lit.int .i64 (i : Int)).wf = true := wf_of ⟨by omega, by omega⟩
      have wfi1 : (Lit.int .i64 ((i : Int) + 1)).wf = true := wf_of ⟨by omega, by omega⟩
      have hwi : wrap64 ((i : Int) + 1) = i + 1 := by unfold wrap64; omega
      by_cases h2 : pk which 2 = 0
      · obtain ⟨k, p, -, wk, HPk⟩ := HPp.out
        have HPk' := Lib.hid HPk
        clear HPk HA HRm HPp wk
        go_wp2_with fail
        refine HPk'.out.mono ?_
        rintro e w5 ⟨rfl, H5, K5⟩
        have K5' := Aside0.mk (K4.out.trans K5)
        clear K5 HPk'
        obtain ⟨W6, hW6⟩ : ∃ W6, W6 = w5.alloc (.cells #[.int .i64 k, .int .i64 p] 36) := ⟨_, rfl⟩
        have B6 : Below w5.heap.size w5 W6 := by rw [hW6]; apply below_alloc; exact Below.refl _ _
        have H6 := H5.below B6
        have K6 := Aside0.mk (K5'.out.trans (Kept.of_below B6))
        have hW6' := Aside0.mk hW6
        clear H5 B6 hW6
        have hCx : upd C k none (i : Int) = none := by unfold upd; split; rfl; exact hCn'.out
        have hCx1 : upd C k none ((i : Int) + 1) = none := by unfold upd; split; rfl; exact hCn1'.out
        have HO := Lib.hid (H6.push_ok (by have := HN.out; omega) (by omega) i 5 wfi hCx (by omega))
        have hCy : upd (upd C k none) (i : Int) (some 5) ((i : Int) + 1) = none := by rw [upd_other _ _ _ _ (by omega)]; exact hCx1
        have hCy' := Aside0.mk hCy
        clear H6 hCx hCx1 hCy
        go_wp2_with fail
        rw [← hW6'.out]
        refine HO.out.mono ?_
        rintro e w7 ⟨rfl, H7, K7⟩
        have H7' : Aside0 (Held w7 g (upd (upd C k none) (i : Int) (some 5)) i i (N + 4000010 + 4000000) (fun k => k < w.heap.size)) := ⟨by have := H7; rwa [show i - 1 + 1 = i by omega] at this⟩
        have K7' := Aside0.mk (K6.out.trans K7)
        clear H7 K7 HO
        go_wp2_with fail
        refine (H7'.out.push_full ((i : Int) + 1) 5 wfi1 hCy'.out (Int.le_refl _)).mono ?_
        rintro e w8 ⟨rfl, B8⟩
        have H8 := Aside0.mk (H7'.out.below B8)
        have K8 := Aside0.mk (K7'.out.trans (Kept.of_below B8))
        clear B8
        go_wp2_with fail
        refine (H8.out.len).mono ?_
        rintro e w9 ⟨rfl, rfl⟩
        go_wp2_with fail
        go_ret
        exact ⟨rfl, K8.out.below (Nat.le_refl _) (fun _ e => e)⟩
      · clear HPp
        have h2b : (pk which 2 == 0) = false := beq_eq_false_iff_ne.2 h2
        clear h2
        go_wp2_with fail
        refine (pick_calls which i w4 hw (by omega) (by omega)).mono ?_
        rintro e w5 ⟨rfl, rfl⟩
        go_wp2_with fail
        refine HRm.out.mono ?_
        rintro e w6 ⟨rfl, -, H6, K6a⟩
        have K6 := Aside0.mk (K4.out.trans K6a)
        clear K6a HRm HA
        have hCx : upd C (pk which i) none (i : Int) = none := by unfold upd; split; rfl; exact hCn'.out
        have hCx1 : upd C (pk which i) none ((i : Int) + 1) = none := by unfold upd; split; rfl; exact hCn1'.out
        have HO := Lib.hid (H6.push_ok (by have := HN.out; omega) (by omega) i 5 wfi hCx (by omega))
        have hCy : upd (upd C (pk which i) none) (i : Int) (some 5) ((i : Int) + 1) = none := by rw [upd_other _ _ _ _ (by omega)]; exact hCx1
        have hCy' := Aside0.mk hCy
        clear H6 hCx hCx1 hCy
        go_wp2_with fail
        refine HO.out.mono ?_
        rintro e w7 ⟨rfl, H7, K7⟩
        have H7' : Aside0 (Held w7 g (upd (upd C (pk which i) none) (i : Int) (some 5)) i i (N + 4000010 + 4000000) (fun k => k < w.heap.size)) := ⟨by have := H7; rwa [show i - 1 + 1 = i by omega] at this⟩
        have K7' := Aside0.mk (K6.out.trans K7)
        clear H7 K7 HO
        go_wp2_with fail
        refine (H7'.out.push_full ((i : Int) + 1) 5 wfi1 hCy'.out (Int.le_refl _)).mono ?_
        rintro e w8 ⟨rfl, B8⟩
        have H8 := Aside0.mk (H7'.out.below B8)
        have K8 := Aside0.mk (K7'.out.trans (Kept.of_below B8))
        clear B8
        go_wp2_with fail
        refine (H8.out.len).mono ?_
        rintro e w9 ⟨rfl, rfl⟩
        go_wp2_with fail
        go_ret
        exact ⟨rfl, K8.out.below (Nat.le_refl _) (fun _ e => e)⟩
end Go.Proofs.Ytmihpgdpgacgcaa.HeapC
