/- HeapKeeps' walk. -/
import Derived.Test.YtmihpgdpgacgcaaHeapA
namespace Go.Proofs.Ytmihpgdpgacgcaa.HeapC
open Go.RowKit Go.Proofs.Ytmihpgdpgacgcaa.HeapT Go.Proofs.Ytmihpgdpgacgcaa.HeapM Go.Proofs.YtmihpgdpgacgcaaW.PrintWords Go.Proofs.YtmihpgdpgacgcaaW.PrintLast Go.Proofs.YtmihpgdpgacgcaaW.PrintMore
set_option linter.unusedVariables false
set_option linter.unusedSimpArgs false


set_option maxHeartbeats 4000000 in
set_option maxRecDepth 20000 in
theorem keeps_walk (pv : Value) (len : Nat) (Z : Nat → Nat → Int) (key : Int) (w : World) (hz : Arrs 2 w pv len Z) (hk : In64 key) :
    Calls Try.prog 6 #[pv, .int .i64 key] w fun e w' => e = .returned (.bool true) ∧ Below w.heap.size w w' := by
  have hz' := Aside0.mk hz
  clear hz
  go_enter Try.func6, Try.ntmps6
  go_wp2_with fail
  refine (awake_calls w).mono ?_
  rintro e w1 ⟨rfl, B1⟩
  go_wp2_with fail
  refine (made_calls pv len Z w1 (hz'.out.below B1)).mono ?_
  rintro e w2 ⟨g, C, n, N, i, rfl, H2a, M2, i30, -, -, K2a⟩
  have H2 := H2a.less (D' := fun k => k < w.heap.size) (fun k e => Nat.lt_of_lt_of_le e B1.size)
  have K2 := Aside0.mk ((Kept.of_below (D := fun k => k < w.heap.size) B1).trans (K2a.mono (fun k e => Nat.lt_of_lt_of_le e B1.size)))
  have n30 : n ≤ 30 := Nat.le_trans M2.hn i30
  have N30 : N ≤ 120000000 := by have := M2.hN; omega
  have HA := Lib.hid (H2.all_its (by omega))
  clear B1 H2a K2a M2 i30 hz' H2
  go_wp2_with fail
  refine HA.out.mono ?_
  rintro e w3 ⟨v3, ys, D3, rfl, S3, yl, I3a, H3, hD3a, K3⟩
  have KA := Aside0.mk (K2.out.trans K3)
  have I3 := Aside0.mk I3a
  have S3' := Aside0.mk S3
  have hD3 := Aside0.mk hD3a
  have hyl := Aside0.mk yl
  obtain ⟨a3, cap3, rfl, -, -⟩ := I3a
  rw [yl] at I3 ⊢
  clear HA S3 hD3a K2 K3 yl
  go_wp2_with fail
  refine (pick_calls key 50 w3 hk (by decide) (by decide)).mono ?_
  rintro e w4 ⟨rfl, rfl⟩
  obtain ⟨r0, r1⟩ := pk_range key 50 (by decide)
  obtain ⟨k, hkk⟩ : ∃ k, pk key 50 = k := ⟨_, rfl⟩
  rw [hkk] at r0 r1 ⊢
  have wk : (Lit.int .i64 k).wf = true := wf_of ⟨by omega, by omega⟩
  have HP := Lib.hid (H3.prio k wk)
  have HR := Lib.hid (H3.remove_any (by omega) (by omega) k wk)
  obtain ⟨is, his0⟩ : ∃ th, (C k).isSome = th := ⟨_, rfl⟩
  obtain ⟨p, hp0⟩ : ∃ ws, (C k).getD 0 = ws := ⟨_, rfl⟩
  have his := Aside0.mk his0
  have hp := Aside0.mk hp0
  clear hkk r0 r1 H3 his0 hp0
  go_wp2_with fail
  refine HP.out.mono ?_
  rintro e w4 ⟨rfl, rfl⟩
  rw [his.out, hp.out]
  clear HP
  cases is with
  | true => 
    have hnn : C k ≠ none := fun e => by have := his.out; rw [e] at this; cases this
    have hnn' := Aside0.mk hnn
    have hCb : upd (upd C k none) k (some p) = C := by
      funext q; unfold upd
      by_cases e : q = k
      · rw [if_pos e, e]
        have := hp.out
        cases h : C k with
        | none => exact absurd h hnn
        | some z => rw [h] at this; exact congrArg some this.symm
      · rw [if_neg e, if_neg e]
    have hCb' := Aside0.mk hCb
    clear hnn hCb
    go_wp2_with fail
    refine HR.out.mono ?_
    rintro e w4 ⟨n4, N4, rfl, H4, K4, hN4, n4le, n4a, n4b⟩
    rw [his.out]
    have I4 := I3.out.kept K4
    have KA4 := Aside0.mk (KA.out.trans (K4.mono hD3.out))
    have HA2 := Lib.hid (H4.all_its (by omega))
    have n4a' := Aside0.mk n4a
    have n4b' := Aside0.mk n4b
    have I4' := Aside0.mk I4
    have I3' := I3
    have KA' := KA
    clear HR H4 K4 I4 I3 n4a n4b KA
    go_wp2_with fail
    refine HA2.out.mono ?_
    rintro e w5 ⟨v5, zs, D5, rfl, S5, zl, I5, H5, hD5, K5⟩
    have I5a := I4'.out.kept K5
    have KA5 := Aside0.mk (KA4.out.trans (K5.mono hD3.out))
    have HP5 := Lib.hid (fun q (hq : (Lit.int .i64 q).wf = true) => H5.prio q hq)
    have HH5 := Aside0.mk H5
    have S5' := Aside0.mk S5
    have I5a' := Aside0.mk (I5a.mono hD5)
    have hD5' := Aside0.mk hD5
    obtain ⟨b5, cap5, rfl, -, h5⟩ := id I5
    have h5' := Aside0.mk h5
    have I5' := Aside0.mk I5
    have hzl := Aside0.mk zl
    rw [zl] at h5' I5' ⊢
    clear HA2 S5 K5 H5 I5 I5a hD5 h5 zl I4' KA4
    go_wp2_with fail
    refine (HP5.out k wk).mono ?_
    rintro e w6 ⟨rfl, rfl⟩
    rw [show (upd C k none k).isSome = false by unfold upd; rw [if_pos rfl]; rfl]
    go_wp2_with fail
    go_loopw [15] (fun vi wr => ∃ (i : Nat), vi = .int .i64 i ∧ i ≤ n4 ∧ w5 = wr) (fun vi _ => n4 - (intOf vi).toNat)
    case atStart => exact ⟨0, rfl, by omega, rfl⟩
    case round =>
      obtain ⟨i, rfl, hin, rfl⟩ := hrel
      by_cases hlt : i < n4
      · have hw1 : wrap64 ((i : Int) + 1) = i + 1 := by unfold wrap64; omega
        obtain ⟨g1, rfl, -, l1, c1, c2⟩ := h5'.out i hlt
        have hm := it_mem (xs := zs) (i := i) (by rw [hzl.out]; exact hlt)
        have hw := S5'.out.wf i (by rw [hzl.out]; exact hlt)
        obtain ⟨x, hx⟩ : ∃ x, (it zs i).1 = x := ⟨_, rfl⟩
        obtain ⟨y, hy⟩ : ∃ y, (it zs i).2 = y := ⟨_, rfl⟩
        have hC := (S5'.out.mem (it zs i).1 (it zs i).2).1 hm
        rw [hx, hy] at hC
        rw [hx] at c1 hw
        rw [hy] at c2
        have hxk : (x == k) = false := beq_eq_false_iff_ne.2 (fun e => by rw [e] at hC; unfold upd at hC; rw [if_pos rfl] at hC; cases hC)
        have hC' := Aside0.mk hC
        have hlt' := Aside0.mk hlt
        clear hm hx hy hC
        go_wp2_with fail
        refine (HP5.out x hw).mono ?_
        rintro e w6 ⟨rfl, rfl⟩
        rw [hC'.out]
        rw [show ((some y : Option Int).getD 0) = y from rfl, show (some y : Option Int).isSome = true from rfl]
        go_wp2_with fail
        refine ⟨⟨i + 1, by first | rfl | (push_cast; rfl), by have := hlt'.out; omega, by first | rfl | trivial⟩, ?_⟩
        simp only [intOf]
        have := hlt'.out
        omega
      · obtain rfl : i = n4 := by omega
        clear HP5
        have hn1 := n4a'.out hnn'.out
        have hn2 : (n : Int) - 1 = i := by omega
        have hn3 : wrap64 ((n : Int) - 1) = i := by unfold wrap64; omega
        have HPu := Lib.hid (HH5.out.push_ok (by omega) (by decide) k p wk (by unfold upd; rw [if_pos rfl]) (by omega))
        clear hn1
        go_wp2_with fail
        refine (count_true w5).mono ?_
        rintro e w6 ⟨rfl, rfl⟩
        go_wp2_with fail
        refine HPu.out.mono ?_
        rintro e w6 ⟨rfl, H6, K6⟩
        rw [hCb'.out] at H6
        have I6 := I5a'.out.kept K6
        have KB := Aside0.mk (KA5.out.trans (K6.mono (fun q e => hD5'.out q (hD3.out q e))))
        have hn9 := Aside0.mk (n4a'.out hnn'.out)
        clear hn2 hn3 HPu K6
        have HA6 := Lib.hid (H6.all_its (by omega))
        clear H6
        go_wp2_with fail
        refine HA6.out.mono ?_
        rintro e w7 ⟨v7, zs7, D7, rfl, S7, zl7, I7, H7, hD7, K7⟩
        obtain rfl := SortedOf.unique S7 S3'.out
        have I3b := (I6.kept K7)
        have K8 := Aside0.mk (KB.out.trans (K7.mono (fun q e => hD5'.out q (hD3.out q e))))
        have I7' := Aside0.mk I7
        have I3b' := Aside0.mk I3b
        have hl7 : zs7.length ≤ 1000000 := by omega
        have hl8 := Aside0.mk hl7
        clear HA6 S7 K7 I7 I3b H7 hD7 zl7 hl7
        go_wp2_with fail
        refine (same_calls w7 _ _ _ _ zs7 I7'.out (by first | exact I3b'.out | (have h_ := I3b'.out; rw [hyl.out] at h_; exact h_)) hl8.out).mono ?_
        rintro e w8 ⟨rfl, B8⟩
        have K9 := Aside0.mk (K8.out.trans (Kept.of_below B8))
        clear B8
        go_wp2_with fail
        go_returns
        exact ⟨rfl, K9.out.below (Nat.le_refl _) (fun _ e => e)⟩
  | false => 
    have hnn : C k = none := by
      cases h : C k with
      | none => rfl
      | some z => have := his.out; rw [h] at this; cases this
    have hCb' := Aside0.mk (upd_none hnn)
    have hnn' := Aside0.mk hnn
    clear hnn
    go_wp2_with fail
    refine HR.out.mono ?_
    rintro e w4 ⟨n4, N4, rfl, H4, K4, hN4, n4le, n4a, n4b⟩
    rw [his.out]
    have I4 := I3.out.kept K4
    have KA4 := Aside0.mk (KA.out.trans (K4.mono hD3.out))
    have HA2 := Lib.hid (H4.all_its (by omega))
    have n4a' := Aside0.mk n4a
    have n4b' := Aside0.mk n4b
    have I4' := Aside0.mk I4
    have I3' := I3
    have KA' := KA
    clear HR H4 K4 I4 I3 n4a n4b KA
    go_wp2_with fail
    refine HA2.out.mono ?_
    rintro e w5 ⟨v5, zs, D5, rfl, S5, zl, I5, H5, hD5, K5⟩
    have I5a := I4'.out.kept K5
    have KA5 := Aside0.mk (KA4.out.trans (K5.mono hD3.out))
    have HP5 := Lib.hid (fun q (hq : (Lit.int .i64 q).wf = true) => H5.prio q hq)
    have HH5 := Aside0.mk H5
    have S5' := Aside0.mk S5
    have I5a' := Aside0.mk (I5a.mono hD5)
    have hD5' := Aside0.mk hD5
    obtain ⟨b5, cap5, rfl, -, h5⟩ := id I5
    have h5' := Aside0.mk h5
    have I5' := Aside0.mk I5
    have hzl := Aside0.mk zl
    rw [zl] at h5' I5' ⊢
    clear HA2 S5 K5 H5 I5 I5a hD5 h5 zl I4' KA4
    go_wp2_with fail
    refine (HP5.out k wk).mono ?_
    rintro e w6 ⟨rfl, rfl⟩
    rw [show (upd C k none k).isSome = false by unfold upd; rw [if_pos rfl]; rfl]
    go_wp2_with fail
    go_loopw [15] (fun vi wr => ∃ (i : Nat), vi = .int .i64 i ∧ i ≤ n4 ∧ w5 = wr) (fun vi _ => n4 - (intOf vi).toNat)
    case atStart => exact ⟨0, rfl, by omega, rfl⟩
    case round =>
      obtain ⟨i, rfl, hin, rfl⟩ := hrel
      by_cases hlt : i < n4
      · have hw1 : wrap64 ((i : Int) + 1) = i + 1 := by unfold wrap64; omega
        obtain ⟨g1, rfl, -, l1, c1, c2⟩ := h5'.out i hlt
        have hm := it_mem (xs := zs) (i := i) (by rw [hzl.out]; exact hlt)
        have hw := S5'.out.wf i (by rw [hzl.out]; exact hlt)
        obtain ⟨x, hx⟩ : ∃ x, (it zs i).1 = x := ⟨_, rfl⟩
        obtain ⟨y, hy⟩ : ∃ y, (it zs i).2 = y := ⟨_, rfl⟩
        have hC := (S5'.out.mem (it zs i).1 (it zs i).2).1 hm
        rw [hx, hy] at hC
        rw [hx] at c1 hw
        rw [hy] at c2
        have hxk : (x == k) = false := beq_eq_false_iff_ne.2 (fun e => by rw [e] at hC; unfold upd at hC; rw [if_pos rfl] at hC; cases hC)
        have hC' := Aside0.mk hC
        have hlt' := Aside0.mk hlt
        clear hm hx hy hC
        go_wp2_with fail
        refine (HP5.out x hw).mono ?_
        rintro e w6 ⟨rfl, rfl⟩
        rw [hC'.out]
        rw [show ((some y : Option Int).getD 0) = y from rfl, show (some y : Option Int).isSome = true from rfl]
        go_wp2_with fail
        refine ⟨⟨i + 1, by first | rfl | (push_cast; rfl), by have := hlt'.out; omega, by first | rfl | trivial⟩, ?_⟩
        simp only [intOf]
        have := hlt'.out
        omega
      · obtain rfl : i = n4 := by omega
        clear HP5
        have hn1 := n4b'.out hnn'.out
        have hn2 : (n : Int) - 0 = i := by omega
        have hn3 : wrap64 ((n : Int) - 0) = i := by unfold wrap64; omega
        clear hn1
        go_wp2_with fail
        refine (count_false w5).mono ?_
        rintro e w6 ⟨rfl, rfl⟩
        have H6 := HH5.out
        rw [hCb'.out] at H6
        have I6 := I5a'.out
        have HA6 := Lib.hid (H6.all_its (by omega))
        clear H6
        go_wp2_with fail
        refine HA6.out.mono ?_
        rintro e w7 ⟨v7, zs7, D7, rfl, S7, zl7, I7, H7, hD7, K7⟩
        obtain rfl := SortedOf.unique S7 S3'.out
        have I3b := (I6.kept K7)
        have K8 := Aside0.mk (KA5.out.trans (K7.mono (fun q e => hD5'.out q (hD3.out q e))))
        have I7' := Aside0.mk I7
        have I3b' := Aside0.mk I3b
        have hl7 : zs7.length ≤ 1000000 := by omega
        have hl8 := Aside0.mk hl7
        clear HA6 S7 K7 I7 I3b H7 hD7 zl7 hl7
        go_wp2_with fail
        refine (same_calls w7 _ _ _ _ zs7 I7'.out (by first | exact I3b'.out | (have h_ := I3b'.out; rw [hyl.out] at h_; exact h_)) hl8.out).mono ?_
        rintro e w8 ⟨rfl, B8⟩
        have K9 := Aside0.mk (K8.out.trans (Kept.of_below B8))
        clear B8
        go_wp2_with fail
        go_returns
        exact ⟨rfl, K9.out.below (Nat.le_refl _) (fun _ e => e)⟩
end Go.Proofs.Ytmihpgdpgacgcaa.HeapC
