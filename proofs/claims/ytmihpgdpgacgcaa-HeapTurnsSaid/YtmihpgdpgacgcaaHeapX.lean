/- Two heaps beside one another; HeapTurns' walk. -/
import Derived.Test.YtmihpgdpgacgcaaHeapW
namespace Go.Proofs.Ytmihpgdpgacgcaa.HeapC
open Go.RowKit Go.Proofs.Ytmihpgdpgacgcaa.HeapT Go.Proofs.Ytmihpgdpgacgcaa.HeapM Go.Proofs.YtmihpgdpgacgcaaW.PrintWords Go.Proofs.YtmihpgdpgacgcaaW.PrintLast Go.Proofs.YtmihpgdpgacgcaaW.PrintMore

set_option linter.unusedVariables false
set_option linter.unusedSimpArgs false

/-- Two heaps that share no block, nor one with D. -/
def Two (w : World) (g h : Nat) (C1 C2 : Int → Option Int) (m1 m2 : Int) (n1 n2 N1 N2 : Nat) (D : Nat → Prop) : Prop :=
  ∃ F G, IsHeap w g C1 m1 n1 N1 F ∧ IsHeap w h C2 m2 n2 N2 G ∧ (∀ k, F k → ¬ G k) ∧ ∀ k, D k → ¬ F k ∧ ¬ G k ∧ k < w.heap.size
section
variable {w : World} {g h : Nat} {C1 C2 : Int → Option Int} {m1 m2 : Int} {n1 n2 N1 N2 : Nat} {D : Nat → Prop}
theorem Two.swap (t : Two w g h C1 C2 m1 m2 n1 n2 N1 N2 D) : Two w h g C2 C1 m2 m1 n2 n1 N2 N1 D := by
  obtain ⟨F, G, a, b, c, d⟩ := t
  exact ⟨G, F, b, a, fun k e f => c k f e, fun k e => ⟨(d k e).2.1, (d k e).1, (d k e).2.2⟩⟩
theorem Two.step (t : Two w g h C1 C2 m1 m2 n1 n2 N1 N2 D) : ∃ D', Held w g C1 m1 n1 N1 D' ∧ ∀ w' C1' n1' N1', Held w' g C1' m1 n1' N1' D' → Kept w w' D' → Two w' g h C1' C2 m1 m2 n1' n2 N1' N2 D ∧ Kept w w' D := by
  obtain ⟨F, G, a, b, c, d⟩ := t
  refine ⟨fun k => D k ∨ G k, ⟨F, a, ?_, ?_⟩, fun w' C1' n1' N1' H K => ?_⟩
  · rintro k e (f | f)
    · exact (d k f).1 e
    · exact c k e f
  · rintro k (f | f)
    · exact (d k f).2.2
    · exact b.lt k f
  · obtain ⟨F', p, q, r⟩ := H
    refine ⟨⟨F', G, p, b.keep K (fun k e f => e (.inr f)), fun k e f => q k e (.inr f), fun k e => ⟨fun f => q k f (.inl e), (d k e).2.1, r k (.inl e)⟩⟩, K.mono (fun k e => .inl e)⟩
theorem Two.below {w' : World} (t : Two w g h C1 C2 m1 m2 n1 n2 N1 N2 D) (b : Below w.heap.size w w') : Two w' g h C1 C2 m1 m2 n1 n2 N1 N2 D := by
  obtain ⟨F, G, a, c, d, e⟩ := t
  exact ⟨F, G, a.below b, c.below b, d, fun k f => ⟨(e k f).1, (e k f).2.1, Nat.lt_of_lt_of_le (e k f).2.2 b.size⟩⟩
theorem Two.alloc (t : Two w g h C1 C2 m1 m2 n1 n2 N1 N2 D) (o : Obj) : Two (w.alloc o) g h C1 C2 m1 m2 n1 n2 N1 N2 (fun k => D k ∨ k = w.heap.size) := by
  have b : Below w.heap.size w (w.alloc o) := by apply below_alloc; exact Below.refl _ _
  obtain ⟨F, G, a, c, d, e⟩ := t
  refine ⟨F, G, a.below b, c.below b, d, ?_⟩
  rintro k (f | rfl)
  · exact ⟨(e k f).1, (e k f).2.1, Nat.lt_of_lt_of_le (e k f).2.2 b.size⟩
  · exact ⟨fun f => absurd (a.lt _ f) (by omega), fun f => absurd (c.lt _ f) (by omega), by simp⟩
theorem Two.more {N1' N2' : Nat} (t : Two w g h C1 C2 m1 m2 n1 n2 N1 N2 D) (h1 : N1 ≤ N1') (h2 : N2 ≤ N2') : Two w g h C1 C2 m1 m2 n1 n2 N1' N2' D := by
  obtain ⟨F, G, ⟨⟨mb, v, xs, M, m, r⟩, hl⟩, ⟨⟨mb2, v2, xs2, M2, m', r2⟩, hl2⟩, d, e⟩ := t
  exact ⟨F, G, ⟨⟨mb, v, xs, M, ⟨m.head, m.row, m.map.mono h1, m.gm, m.vg, m.vm⟩, r⟩, hl⟩, ⟨⟨mb2, v2, xs2, M2, ⟨m'.head, m'.row, m'.map.mono h2, m'.gm, m'.vg, m'.vm⟩, r2⟩, hl2⟩, d, e⟩
theorem Two.less {D' : Nat → Prop} (t : Two w g h C1 C2 m1 m2 n1 n2 N1 N2 D) (hd : ∀ k, D' k → D k) : Two w g h C1 C2 m1 m2 n1 n2 N1 N2 D' := by
  obtain ⟨F, G, a, c, d, e⟩ := t
  exact ⟨F, G, a, c, d, fun k f => e k (hd k f)⟩
theorem Two.fst (t : Two w g h C1 C2 m1 m2 n1 n2 N1 N2 D) : Held w g C1 m1 n1 N1 D := by
  obtain ⟨F, G, a, b, c, d⟩ := t
  exact ⟨F, a, fun k e f => (d k f).1 e, fun k e => (d k e).2.2⟩
/-- The second heap is made beside the first one. -/
theorem Held.two (t : Held w g C1 m1 n1 N1 D) (h0 : 1 ≤ m2) (h1 : m2 ≤ 1000) :
    Calls Try.prog 11 #[.int .i64 m2] w fun e w' => ∃ h, e = .returned (.pointer (some ⟨h, 0, none⟩)) ∧ Two w' g h C1 (fun _ => none) m1 m2 n1 0 N1 0 D ∧ Kept w w' D := by
  obtain ⟨F, a, b, c⟩ := t
  refine (new_calls m2 w h0 h1).mono ?_
  rintro e w' ⟨h, G, rfl, i, j, k⟩
  refine ⟨h, rfl, ⟨F, G, a.below j, i, fun q e f => ?_, fun q e => ⟨fun f => b q f e, fun f => ?_, Nat.lt_of_lt_of_le (c q e) j.size⟩⟩, Kept.of_below j⟩
  · have := k q f; have := a.lt q e; omega
  · have := k q f; have := c q e; omega
end

theorem most_one {C : Int → Option Int} {k p k' p' : Int} (h : Most C k p) (g : Most C k' p') : k = k' ∧ p = p' := by
  by_cases e : k = k'
  · subst e; have := h.1.symm.trans g.1; exact ⟨rfl, Option.some.inj this⟩
  · have a := h.2 k' p' g.1
    have b := g.2 k p h.1
    unfold Ahead at a b
    simp at a b
    omega

/-- What is in the two heaps behind i rounds. -/
def upTo (P : Int → Int) (i : Int) : Int → Option Int := fun k => if 0 ≤ k ∧ k < i then some (P k) else none
def downTo (P : Int → Int) (n K i : Int) : Int → Option Int := fun k => if n - i ≤ k ∧ k < n then some (if k = K then P k + 5 else P k) else none
theorem upTo_zero (P : Int → Int) : upTo P 0 = fun _ => none := by funext k; unfold upTo; rw [if_neg (by omega)]
theorem downTo_zero (P : Int → Int) (n K : Int) : downTo P n K 0 = fun _ => none := by funext k; unfold downTo; rw [if_neg (by omega)]
theorem upTo_add (P : Int → Int) (i : Int) (h : 0 ≤ i) : upd (upTo P i) i (some (P i)) = upTo P (i + 1) := by
  funext k; unfold upd upTo
  by_cases e : k = i
  · subst e; rw [if_pos rfl, if_pos (by omega)]
  · rw [if_neg e]
    by_cases f : 0 ≤ k ∧ k < i
    · rw [if_pos f, if_pos (by omega)]
    · rw [if_neg f, if_neg (by omega)]
theorem downTo_add (P : Int → Int) (n K i j : Int) (hj : j = n - 1 - i) (h0 : 0 ≤ i) (h : i < n) : upd (downTo P n K i) j (some (if j = K then P j + 5 else P j)) = downTo P n K (i + 1) := by
  funext k; unfold upd downTo
  by_cases e : k = j
  · subst e; rw [if_pos rfl, if_pos (show n - (i + 1) ≤ k ∧ k < n by omega)]
  · rw [if_neg e]
    by_cases f : n - i ≤ k ∧ k < n
    · rw [if_pos f, if_pos (show n - (i + 1) ≤ k ∧ k < n by omega)]
    · rw [if_neg f, if_neg (show ¬ (n - (i + 1) ≤ k ∧ k < n) by omega)]
theorem down_change (P : Int → Int) (n K : Int) (hK : 0 ≤ K) : (if K < n then upd (downTo P n K n) K (some (P K)) else downTo P n K n) = upTo P n := by
  funext k
  split
  · unfold upd downTo upTo
    by_cases e : k = K
    · subst e; rw [if_pos rfl, if_pos (by omega)]
    · rw [if_neg e, if_neg e]
      by_cases f : 0 ≤ k ∧ k < n
      · rw [if_pos (by omega), if_pos f]
      · rw [if_neg (by omega), if_neg f]
  · unfold downTo upTo
    by_cases f : 0 ≤ k ∧ k < n
    · rw [if_pos (by omega), if_pos f, if_neg (by omega)]
    · rw [if_neg (by omega), if_neg f]

set_option maxHeartbeats 2000000 in
set_option maxRecDepth 20000 in
theorem turns_walk (pv : Value) (zs : List Int) (which : Int) (w : World) (hz : Ints w pv zs) (hw : In64 which) :
    Calls Try.prog 5 #[pv, .int .i64 which] w fun e w' => e = .returned (.bool true) ∧ Below w.heap.size w w' := by
  obtain ⟨a, cap, rfl, hmx, hcell⟩ := hz
  have hmx2 : zs.length ≤ 9223372036854775807 := hmx
  obtain ⟨Z, hZ⟩ : ∃ Z : Nat → Int, Z = fun i => zs.getD i 0 := ⟨_, rfl⟩
  have hc' : Aside0 (∀ i, i < zs.length → ∃ b off, a = some ⟨b, off, none⟩ ∧ b < w.heap.size ∧ In64 (Z i) ∧ w.cell? ⟨b, off + i, none⟩ = some (.int .i64 (Z i))) := ⟨by rw [hZ]; exact hcell⟩
  clear hZ
  obtain ⟨P, hP⟩ : ∃ P : Int → Int, P = fun k => pk (Z k.toNat) 9 := ⟨_, rfl⟩
  have hPi : ∀ i : Nat, pk (Z i) 9 = P i := fun i => by rw [hP]; simp
  have hP' := Aside0.mk hPi
  have hPr : ∀ k, 0 ≤ P k ∧ P k < 9 := fun k => by rw [hP]; exact pk_range _ _ (by decide)
  have hPr' := Aside0.mk hPr
  clear hcell hmx hPi hPr hP
  go_enter Try.func5, Try.ntmps5
  go_wp2_with fail
  refine (awake_calls w).mono ?_
  rintro e w1 ⟨rfl, B1⟩
  go_wp2_with fail
  refine (held_new 100 w1 (by decide) (by decide) (fun k => k < w.heap.size) (fun _ e => Nat.lt_of_lt_of_le e B1.size)).mono ?_
  rintro e w2 ⟨g, rfl, H2, K2⟩
  have K2' : Aside0 (Kept w w2 (fun k => k < w.heap.size)) := ⟨(Kept.of_below B1).trans K2⟩
  clear B1 K2
  go_wp2_with fail
  refine (H2.two (by decide) (by decide)).mono ?_
  rintro e w3 ⟨h, rfl, T3, K3⟩
  have K3' := Aside0.mk (K2'.out.trans K3)
  have T3' := Aside0.mk T3
  clear H2 T3 K3 K2'
  obtain ⟨n, hn⟩ : ∃ n : Nat, n = min zs.length 30 := ⟨_, rfl⟩
  have hn30 : n ≤ 30 := by omega
  have hnz : n ≤ zs.length := by omega
  have hmin : min (zs.length : Int) 30 = n := by omega
  have hw1 : wrap64 ((n : Int) + 1) = n + 1 := by unfold wrap64; omega
  clear hn
  go_wp2_with fail
  refine (pick_calls which ((n : Int) + 1) w3 hw (by omega) (by omega)).mono ?_
  rintro e w4 ⟨rfl, rfl⟩
  obtain ⟨r0, r1⟩ := pk_range which ((n : Int) + 1) (by omega)
  obtain ⟨K, hK⟩ : ∃ K : Nat, pk which ((n : Int) + 1) = K := ⟨(pk which ((n : Int) + 1)).toNat, by omega⟩
  rw [hK] at r0 r1
  rw [hK]
  clear hK hmin hw1 r0
  have hKn : K ≤ n := by omega
  clear r1
  go_wp2_with fail
  go_loopw [10] (fun vi wr => ∃ (i : Nat) (N1 N2 : Nat), vi = .int .i64 i ∧ i ≤ n ∧ Aside0 (Two wr g h (upTo P i) (downTo P n K i) 100 100 i i N1 N2 (fun k => k < w.heap.size)) ∧ Aside0 (N1 ≤ i * 4000000 ∧ N2 ≤ i * 4000000) ∧ Aside0 (Kept w wr (fun k => k < w.heap.size))) (fun vi _ => n - (intOf vi).toNat)
  case atStart => exact ⟨0, 0, 0, rfl, by omega, ⟨by rw [show upTo P ((0 : Nat) : Int) = _ from upTo_zero P, show downTo P n K ((0 : Nat) : Int) = _ from downTo_zero P n K]; exact T3'.out⟩, ⟨by omega⟩, K3'⟩
  case round =>
    obtain ⟨i, N1, N2, rfl, hin, HT, HN, HK⟩ := hrel
    by_cases hlt : i < n
    · obtain ⟨j, hj⟩ : ∃ j : Nat, n = i + j + 1 := ⟨n - i - 1, by omega⟩
      obtain ⟨m, hm⟩ : ∃ m : Nat, m = i + j := ⟨_, rfl⟩
      have hw4 : wrap64 ((i : Int) + 1) = i + 1 := by unfold wrap64; omega
      have hiz : i < zs.length := by omega
      have hjz : j < zs.length := by omega
      have hj' := Aside0.mk hj
      have hm' := Aside0.mk hm
      obtain ⟨b, off, rfl, hb, h64, hcl⟩ := hc'.out i hiz
      obtain ⟨b2, off2, e2, hb2, h642, hcl2⟩ := hc'.out j hjz
      have e3 := Option.some.inj e2
      injection e3 with e4 e5
      subst e4; subst e5
      have hcw : wr.cell? ⟨b, off + i, none⟩ = some (.int .i64 (Z i)) := (HK.out.cell hb hb (off + i)).trans hcl
      obtain ⟨DA, HA, HA2⟩ := HT.out.step
      have HPa := Lib.hid (fun p => HA.push_ok (by have := HN.out; omega) (by decide) i p (wf_of ⟨by omega, by omega⟩) (by unfold upTo; rw [if_neg (by omega)]) (by omega))
      have HA2' := Lib.hid HA2
      have hPi := Aside0.mk (hP'.out i)
      have hcl2' := Aside0.mk hcl2
      have h64a := Aside0.mk h64
      have h642a := Aside0.mk h642
      clear HA HA2 e2 hcl hcl2 hm h64 h642 hj
      go_wp2_with fail
      rw [show ((n : Int) - 1 - (i : Int)) = (j : Int) by have := hj'.out; omega]
      refine (pick_calls (Z i) 9 wr h64a.out (by decide) (by decide)).mono ?_
      rintro e w5 ⟨rfl, rfl⟩
      rw [hPi.out]
      clear hcw
      go_wp2_with fail
      refine (HPa.out (P i)).mono ?_
      rintro e w6 ⟨rfl, H6, K6⟩
      obtain ⟨T6, K6b⟩ := HA2'.out _ _ _ _ H6 K6
      rw [upTo_add P i (by omega)] at T6
      have K6' := Aside0.mk (HK.out.trans K6b)
      obtain ⟨DB, HB, HB2a⟩ := T6.swap.step
      have HP2 := Lib.hid (fun p => HB.push_ok (by have := HN.out; omega) (by decide) j p (wf_of ⟨by have := hj'.out; omega, by have := hj'.out; omega⟩) (by unfold downTo; have := hj'.out; rw [if_neg (by omega)]) (by omega))
      have HB2 := Lib.hid HB2a
      have hcj : w6.cell? ⟨b, off + j, none⟩ = some (.int .i64 (Z j)) := (K6'.out.cell hb hb (off + j)).trans hcl2'.out
      clear H6 K6 T6 K6b HB HB2a HPa HA2'
      by_cases hjK : j = K
      · have hbJ : ((j : Int) == (K : Int)) = true := beq_iff_eq.2 (by have := hj'.out; omega)
        have hjKa := Aside0.mk hjK
        clear hjK
        have hwp : wrap64 (P j + 5) = P j + 5 := by have := hPr'.out j; unfold wrap64; omega
        have hPj := Aside0.mk (hP'.out j)
        go_wp2_with fail
        refine (pick_calls (Z j) 9 w6 h642a.out (by decide) (by decide)).mono ?_
        rintro e w7 ⟨rfl, rfl⟩
        rw [hPj.out]
        clear hcj
        go_wp2_with fail
        refine (HP2.out (P j + 5)).mono ?_
        rintro e w8 ⟨rfl, H8, K8⟩
        obtain ⟨T8, K8b⟩ := HB2.out _ _ _ _ H8 K8
        have R : Aside0 (Two w8 g h (upTo P ((i + 1 : Nat) : Int)) (downTo P n K ((i + 1 : Nat) : Int)) 100 100 (i + 1) (i + 1) (N1 + 4000000) (N2 + 4000000) (fun k => k < w.heap.size) ∧ Kept w w8 (fun k => k < w.heap.size)) := ⟨by
          have e1 := downTo_add P n K i j (by have := hj'.out; omega) (by have := hj'.out; omega) (by have := hj'.out; omega)
          rw [if_pos (by have := hjKa.out; omega)] at e1
          have := T8.swap
          rw [e1] at this
          push_cast
          exact this, K6'.out.trans K8b⟩
        clear H8 K8 T8 K8b HP2 HB2
        go_wp2_with fail
        refine ⟨⟨i + 1, N1 + 4000000, N2 + 4000000, by first | rfl | (push_cast; rfl), by have := hj'.out; omega, ⟨R.out.1⟩, ⟨by have := HN.out; omega⟩, ⟨R.out.2⟩⟩, ?_⟩
        simp only [intOf]
        omega
      · have hbJ : ((j : Int) == (K : Int)) = false := beq_eq_false_iff_ne.2 (by have := hj'.out; omega)
        have hwp : wrap64 (P j + 5) = P j + 5 := by have := hPr'.out j; unfold wrap64; omega
        have hPj := Aside0.mk (hP'.out j)
        go_wp2_with fail
        refine (pick_calls (Z j) 9 w6 h642a.out (by decide) (by decide)).mono ?_
        rintro e w7 ⟨rfl, rfl⟩
        rw [hPj.out]
        clear hcj
        go_wp2_with fail
        refine (HP2.out (P j)).mono ?_
        rintro e w8 ⟨rfl, H8, K8⟩
        obtain ⟨T8, K8b⟩ := HB2.out _ _ _ _ H8 K8
        have R : Aside0 (Two w8 g h (upTo P ((i + 1 : Nat) : Int)) (downTo P n K ((i + 1 : Nat) : Int)) 100 100 (i + 1) (i + 1) (N1 + 4000000) (N2 + 4000000) (fun k => k < w.heap.size) ∧ Kept w w8 (fun k => k < w.heap.size)) := ⟨by
          have e1 := downTo_add P n K i j (by have := hj'.out; omega) (by have := hj'.out; omega) (by have := hj'.out; omega)
          rw [if_neg (by have := hj'.out; omega)] at e1
          have := T8.swap
          rw [e1] at this
          push_cast
          exact this, K6'.out.trans K8b⟩
        clear H8 K8 T8 K8b HP2 HB2
        go_wp2_with fail
        refine ⟨⟨i + 1, N1 + 4000000, N2 + 4000000, by first | rfl | (push_cast; rfl), by have := hj'.out; omega, ⟨R.out.1⟩, ⟨by have := HN.out; omega⟩, ⟨R.out.2⟩⟩, ?_⟩
        simp only [intOf]
        omega
    · obtain rfl : i = n := by omega
      by_cases hKi : K < i
      · have hKz : K < zs.length := by omega
        obtain ⟨b, off, rfl, hb, h64, hcl⟩ := hc'.out K hKz
        have hcw : wr.cell? ⟨b, off + K, none⟩ = some (.int .i64 (Z K)) := (HK.out.cell hb hb (off + K)).trans hcl
        obtain ⟨DB, HB, HB2a⟩ := HT.out.swap.step
        have HCh := Lib.hid (HB.change_some (by have := HN.out; omega) (by omega) K (P K) (wf_of ⟨by omega, by omega⟩) (by unfold downTo; rw [if_pos (by omega)]; simp))
        have HB2 := Lib.hid HB2a
        have h64a := Aside0.mk h64
        have hPK := Aside0.mk (hP'.out K)
        clear HB HB2a hcl h64
        go_wp2_with fail
        refine (pick_calls (Z K) 9 wr h64a.out (by decide) (by decide)).mono ?_
        rintro e w5 ⟨rfl, rfl⟩
        rw [hPK.out]
        clear hcw
        go_wp2_with fail
        refine HCh.out.mono ?_
        rintro e w6 ⟨rfl, H6, K6⟩
        obtain ⟨T6, K6b⟩ := HB2.out _ _ _ _ H6 K6
        have TT : Aside0 (Two w6 g h (upTo P i) (upTo P i) 100 100 i i N1 (N2 + 4000000) (fun k => k < w.heap.size)) := ⟨by
          have e1 := down_change P i K (by omega)
          rw [if_pos (by omega)] at e1
          rw [e1] at T6
          exact T6.swap⟩
        have KK := Aside0.mk (HK.out.trans K6b)
        clear H6 K6 T6 K6b HCh HB2
        go_wp2_with fail
        go_loopw [13] (fun vi wr => ∃ (q : Nat) (C : Int → Option Int) (M1 M2 : Nat), vi = .int .i64 q ∧ q ≤ i + 1 ∧ Aside0 (Two wr g h C C 100 100 (i - q) (i - q) M1 M2 (fun k => k < w.heap.size)) ∧ Aside0 (M1 ≤ 200000000 + q * 4000010 ∧ M2 ≤ 200000000 + q * 4000010) ∧ Aside0 (Kept w wr (fun k => k < w.heap.size))) (fun vi _ => i + 1 - (intOf vi).toNat)
        case atStart => exact ⟨0, _, _, _, rfl, by omega, ⟨TT.out⟩, ⟨by have := HN.out; omega⟩, KK⟩
        case round =>
          obtain ⟨q, C, M1, M2, rfl, hq, HT2, HM, HK2⟩ := hrel
          have hw5 : wrap64 ((q : Int) + 1) = q + 1 := by unfold wrap64; omega
          by_cases hqi : q < i
          · skip
            obtain ⟨DA, HA, HA2⟩ := HT2.out.step
            obtain ⟨k, p, mm1, wk, HPa⟩ := HA.pop_some (by have := HM.out; omega) (by omega) (by omega)
            have HPa' := Lib.hid HPa
            have HA2' := Lib.hid HA2
            have mm1' := Aside0.mk mm1
            clear HA HA2 HPa mm1 wk
            go_wp2_with fail
            refine HPa'.out.mono ?_
            rintro e wa ⟨rfl, Ha, Ka⟩
            obtain ⟨Ta, Kab⟩ := HA2'.out _ _ _ _ Ha Ka
            obtain ⟨Wb, hWb⟩ : ∃ Wb, Wb = wa.alloc (.cells #[.int .i64 k, .int .i64 p] 36) := ⟨_, rfl⟩
            obtain ⟨X, hX⟩ : ∃ X, X = wa.heap.size := ⟨_, rfl⟩
            have bX := HeapM.blk_new wa (.cells #[.int .i64 k, .int .i64 p] 36 (0, 0))
            have Tb := Ta.alloc (.cells #[.int .i64 k, .int .i64 p] 36 (0, 0))
            have Bb : Below wa.heap.size wa Wb := by rw [hWb]; apply below_alloc; exact Below.refl _ _
            rw [← hX] at bX Tb
            rw [show wa.alloc (.cells #[.int .i64 k, .int .i64 p] 36 (0, 0)) = Wb from hWb.symm] at bX Tb
            have Kb := Aside0.mk ((HK2.out.trans Kab).trans (Kept.of_below Bb))
            obtain ⟨DB, HB, HB2⟩ := Tb.swap.step
            obtain ⟨k2, p2, mm2, -, HPb⟩ := HB.pop_some (by have := HM.out; omega) (by omega) (by omega)
            obtain ⟨rfl, rfl⟩ := most_one mm1'.out mm2
            have HPb' := Lib.hid HPb
            have HB2' := Lib.hid HB2
            have hWb' := Aside0.mk hWb
            have hX' := Aside0.mk hX
            have bX' := Aside0.mk bX
            clear Ha Ka Ta Kab bX Tb Bb HB HB2 HPb mm2 hWb hX HPa' HA2' mm1'
            go_wp2_with fail
            rw [← hWb'.out, ← hX'.out]
            refine HPb'.out.mono ?_
            rintro e wc ⟨rfl, Hc, Kc⟩
            obtain ⟨Tc, Kcb⟩ := HB2'.out _ _ _ _ Hc Kc
            obtain ⟨Wd, hWd⟩ : ∃ Wd, Wd = wc.alloc (.cells #[.int .i64 k, .int .i64 p] 36) := ⟨_, rfl⟩
            have Bd : Below wc.heap.size wc Wd := by rw [hWd]; apply below_alloc; exact Below.refl _ _
            have bXd := HeapM.blk_alloc (Kcb.blk bX'.out (.inr rfl)) (.cells #[.int .i64 k, .int .i64 p] 36 (0, 0))
            have bYd := HeapM.blk_new wc (.cells #[.int .i64 k, .int .i64 p] 36 (0, 0))
            have hx0 : (wc.alloc (.cells #[.int .i64 k, .int .i64 p] 36)).cell? ⟨X, 0, none⟩ = some (.int .i64 k) := (HeapM.blk_cell bXd 0).trans rfl
            have hx1 : (wc.alloc (.cells #[.int .i64 k, .int .i64 p] 36)).cell? ⟨X, 1, none⟩ = some (.int .i64 p) := (HeapM.blk_cell bXd 1).trans rfl
            have hy0 : (wc.alloc (.cells #[.int .i64 k, .int .i64 p] 36)).cell? ⟨wc.heap.size, 0, none⟩ = some (.int .i64 k) := (HeapM.blk_cell bYd 0).trans rfl
            have hy1 : (wc.alloc (.cells #[.int .i64 k, .int .i64 p] 36)).cell? ⟨wc.heap.size, 1, none⟩ = some (.int .i64 p) := (HeapM.blk_cell bYd 1).trans rfl
            have RR : Aside0 (Two Wd g h (upd C k none) (upd C k none) 100 100 (i - (q + 1)) (i - (q + 1)) (M1 + 4000010) (M2 + 4000010) (fun k => k < w.heap.size) ∧ Kept w Wd (fun k => k < w.heap.size)) := ⟨by
              have t := (Tc.swap.below Bd).less (D' := fun k => k < w.heap.size) (fun k e => .inl e)
              rw [show i - q - 1 = i - (q + 1) by omega] at t
              exact ⟨t, (Kb.out.trans (Kcb.mono (fun k e => .inl e))).trans (Kept.of_below Bd)⟩⟩
            have hWd' := Aside0.mk hWd
            clear Hc Kc Tc Kcb Bd bXd bYd HPb' HB2' hWd
            go_wp2_with fail
            refine ⟨⟨q + 1, _, M1 + 4000010, M2 + 4000010, by first | rfl | (push_cast; rfl), by omega, ⟨by rw [← hWd'.out]; exact RR.out.1⟩, ⟨by have := HM.out; omega⟩, ⟨by rw [← hWd'.out]; exact RR.out.2⟩⟩, ?_⟩
            simp only [intOf]
            omega
          · by_cases hqe : q = i
            · obtain rfl : q = i := hqe
              have T0 := HT2.out
              rw [Nat.sub_self] at T0
              have HPa := Lib.hid T0.fst.pop_none
              have HPb := Lib.hid (fun (w2 : World) (bb : Below wr.heap.size wr w2) => (T0.below bb).swap.fst.pop_none)
              have T0' := Aside0.mk T0
              clear T0
              go_wp2_with fail
              refine HPa.out.mono ?_
              rintro e wa ⟨rfl, Ba⟩
              obtain ⟨Wb, hWb⟩ : ∃ Wb, Wb = wa.alloc (.cells #[.int .i64 0, .int .i64 0] 36) := ⟨_, rfl⟩
              obtain ⟨X, hX⟩ : ∃ X, X = wa.heap.size := ⟨_, rfl⟩
              have bX := HeapM.blk_new wa (.cells #[.int .i64 0, .int .i64 0] 36 (0, 0))
              have Bb : Below wr.heap.size wr Wb := by rw [hWb]; apply below_alloc; exact Ba
              rw [← hX] at bX
              rw [show wa.alloc (.cells #[.int .i64 0, .int .i64 0] 36 (0, 0)) = Wb from hWb.symm] at bX
              have hWb' := Aside0.mk hWb
              have hX' := Aside0.mk hX
              have bX' := Aside0.mk bX
              have Bb' := Aside0.mk Bb
              clear Ba bX Bb hWb hX
              go_wp2_with fail
              rw [← hWb'.out, ← hX'.out]
              refine (HPb.out _ Bb'.out).mono ?_
              rintro e wc ⟨rfl, Bc⟩
              obtain ⟨Wd, hWd⟩ : ∃ Wd, Wd = wc.alloc (.cells #[.int .i64 0, .int .i64 0] 36) := ⟨_, rfl⟩
              have Bd : Below wr.heap.size wr Wd := by rw [hWd]; apply below_alloc; exact Bb'.out.trans (Bc.mono Bb'.out.size)
              have bXd := HeapM.blk_alloc ((Bc.block _ (HeapM.blk_lt bX'.out)).trans bX'.out) (.cells #[.int .i64 0, .int .i64 0] 36 (0, 0))
              have bYd := HeapM.blk_new wc (.cells #[.int .i64 0, .int .i64 0] 36 (0, 0))
              have hx0 : (wc.alloc (.cells #[.int .i64 0, .int .i64 0] 36)).cell? ⟨X, 0, none⟩ = some (.int .i64 0) := (HeapM.blk_cell bXd 0).trans rfl
              have hx1 : (wc.alloc (.cells #[.int .i64 0, .int .i64 0] 36)).cell? ⟨X, 1, none⟩ = some (.int .i64 0) := (HeapM.blk_cell bXd 1).trans rfl
              have hy0 : (wc.alloc (.cells #[.int .i64 0, .int .i64 0] 36)).cell? ⟨wc.heap.size, 0, none⟩ = some (.int .i64 0) := (HeapM.blk_cell bYd 0).trans rfl
              have hy1 : (wc.alloc (.cells #[.int .i64 0, .int .i64 0] 36)).cell? ⟨wc.heap.size, 1, none⟩ = some (.int .i64 0) := (HeapM.blk_cell bYd 1).trans rfl
              have RR : Aside0 (Two Wd g h C C 100 100 (q - (q + 1)) (q - (q + 1)) (M1 + 4000010) (M2 + 4000010) (fun k => k < w.heap.size) ∧ Kept w Wd (fun k => k < w.heap.size)) := ⟨by
                have t := T0'.out.below Bd
                rw [show q - (q + 1) = 0 by omega]
                exact ⟨t.more (by omega) (by omega), HK2.out.trans (Kept.of_below Bd)⟩⟩
              have hWd' := Aside0.mk hWd
              clear Bc Bd bXd bYd HPa HPb hWd
              go_wp2_with fail
              refine ⟨⟨q + 1, _, M1 + 4000010, M2 + 4000010, by first | rfl | (push_cast; rfl), by omega, ⟨by rw [← hWd'.out]; exact RR.out.1⟩, ⟨by have := HM.out; omega⟩, ⟨by rw [← hWd'.out]; exact RR.out.2⟩⟩, ?_⟩
              simp only [intOf]
              omega
            · obtain rfl : q = i + 1 := by omega
              go_wp2_with fail
              go_returns
              exact ⟨rfl, HK2.out.below (Nat.le_refl _) (fun _ e => e)⟩
      · have TT : Aside0 (Two wr g h (upTo P i) (upTo P i) 100 100 i i N1 N2 (fun k => k < w.heap.size)) := ⟨by
          have e1 := down_change P i K (by omega)
          rw [if_neg (by omega)] at e1
          have := HT.out
          rw [e1] at this
          exact this⟩
        have KK := HK
        go_wp2_with fail
        go_loopw [13] (fun vi wr => ∃ (q : Nat) (C : Int → Option Int) (M1 M2 : Nat), vi = .int .i64 q ∧ q ≤ i + 1 ∧ Aside0 (Two wr g h C C 100 100 (i - q) (i - q) M1 M2 (fun k => k < w.heap.size)) ∧ Aside0 (M1 ≤ 200000000 + q * 4000010 ∧ M2 ≤ 200000000 + q * 4000010) ∧ Aside0 (Kept w wr (fun k => k < w.heap.size))) (fun vi _ => i + 1 - (intOf vi).toNat)
        case atStart => exact ⟨0, _, _, _, rfl, by omega, ⟨TT.out⟩, ⟨by have := HN.out; omega⟩, KK⟩
        case round =>
          obtain ⟨q, C, M1, M2, rfl, hq, HT2, HM, HK2⟩ := hrel
          have hw5 : wrap64 ((q : Int) + 1) = q + 1 := by unfold wrap64; omega
          by_cases hqi : q < i
          · skip
            obtain ⟨DA, HA, HA2⟩ := HT2.out.step
            obtain ⟨k, p, mm1, wk, HPa⟩ := HA.pop_some (by have := HM.out; omega) (by omega) (by omega)
            have HPa' := Lib.hid HPa
            have HA2' := Lib.hid HA2
            have mm1' := Aside0.mk mm1
            clear HA HA2 HPa mm1 wk
            go_wp2_with fail
            refine HPa'.out.mono ?_
            rintro e wa ⟨rfl, Ha, Ka⟩
            obtain ⟨Ta, Kab⟩ := HA2'.out _ _ _ _ Ha Ka
            obtain ⟨Wb, hWb⟩ : ∃ Wb, Wb = wa.alloc (.cells #[.int .i64 k, .int .i64 p] 36) := ⟨_, rfl⟩
            obtain ⟨X, hX⟩ : ∃ X, X = wa.heap.size := ⟨_, rfl⟩
            have bX := HeapM.blk_new wa (.cells #[.int .i64 k, .int .i64 p] 36 (0, 0))
            have Tb := Ta.alloc (.cells #[.int .i64 k, .int .i64 p] 36 (0, 0))
            have Bb : Below wa.heap.size wa Wb := by rw [hWb]; apply below_alloc; exact Below.refl _ _
            rw [← hX] at bX Tb
            rw [show wa.alloc (.cells #[.int .i64 k, .int .i64 p] 36 (0, 0)) = Wb from hWb.symm] at bX Tb
            have Kb := Aside0.mk ((HK2.out.trans Kab).trans (Kept.of_below Bb))
            obtain ⟨DB, HB, HB2⟩ := Tb.swap.step
            obtain ⟨k2, p2, mm2, -, HPb⟩ := HB.pop_some (by have := HM.out; omega) (by omega) (by omega)
            obtain ⟨rfl, rfl⟩ := most_one mm1'.out mm2
            have HPb' := Lib.hid HPb
            have HB2' := Lib.hid HB2
            have hWb' := Aside0.mk hWb
            have hX' := Aside0.mk hX
            have bX' := Aside0.mk bX
            clear Ha Ka Ta Kab bX Tb Bb HB HB2 HPb mm2 hWb hX HPa' HA2' mm1'
            go_wp2_with fail
            rw [← hWb'.out, ← hX'.out]
            refine HPb'.out.mono ?_
            rintro e wc ⟨rfl, Hc, Kc⟩
            obtain ⟨Tc, Kcb⟩ := HB2'.out _ _ _ _ Hc Kc
            obtain ⟨Wd, hWd⟩ : ∃ Wd, Wd = wc.alloc (.cells #[.int .i64 k, .int .i64 p] 36) := ⟨_, rfl⟩
            have Bd : Below wc.heap.size wc Wd := by rw [hWd]; apply below_alloc; exact Below.refl _ _
            have bXd := HeapM.blk_alloc (Kcb.blk bX'.out (.inr rfl)) (.cells #[.int .i64 k, .int .i64 p] 36 (0, 0))
            have bYd := HeapM.blk_new wc (.cells #[.int .i64 k, .int .i64 p] 36 (0, 0))
            have hx0 : (wc.alloc (.cells #[.int .i64 k, .int .i64 p] 36)).cell? ⟨X, 0, none⟩ = some (.int .i64 k) := (HeapM.blk_cell bXd 0).trans rfl
            have hx1 : (wc.alloc (.cells #[.int .i64 k, .int .i64 p] 36)).cell? ⟨X, 1, none⟩ = some (.int .i64 p) := (HeapM.blk_cell bXd 1).trans rfl
            have hy0 : (wc.alloc (.cells #[.int .i64 k, .int .i64 p] 36)).cell? ⟨wc.heap.size, 0, none⟩ = some (.int .i64 k) := (HeapM.blk_cell bYd 0).trans rfl
            have hy1 : (wc.alloc (.cells #[.int .i64 k, .int .i64 p] 36)).cell? ⟨wc.heap.size, 1, none⟩ = some (.int .i64 p) := (HeapM.blk_cell bYd 1).trans rfl
            have RR : Aside0 (Two Wd g h (upd C k none) (upd C k none) 100 100 (i - (q + 1)) (i - (q + 1)) (M1 + 4000010) (M2 + 4000010) (fun k => k < w.heap.size) ∧ Kept w Wd (fun k => k < w.heap.size)) := ⟨by
              have t := (Tc.swap.below Bd).less (D' := fun k => k < w.heap.size) (fun k e => .inl e)
              rw [show i - q - 1 = i - (q + 1) by omega] at t
              exact ⟨t, (Kb.out.trans (Kcb.mono (fun k e => .inl e))).trans (Kept.of_below Bd)⟩⟩
            have hWd' := Aside0.mk hWd
            clear Hc Kc Tc Kcb Bd bXd bYd HPb' HB2' hWd
            go_wp2_with fail
            refine ⟨⟨q + 1, _, M1 + 4000010, M2 + 4000010, by first | rfl | (push_cast; rfl), by omega, ⟨by rw [← hWd'.out]; exact RR.out.1⟩, ⟨by have := HM.out; omega⟩, ⟨by rw [← hWd'.out]; exact RR.out.2⟩⟩, ?_⟩
            simp only [intOf]
            omega
          · by_cases hqe : q = i
            · obtain rfl : q = i := hqe
              have T0 := HT2.out
              rw [Nat.sub_self] at T0
              have HPa := Lib.hid T0.fst.pop_none
              have HPb := Lib.hid (fun (w2 : World) (bb : Below wr.heap.size wr w2) => (T0.below bb).swap.fst.pop_none)
              have T0' := Aside0.mk T0
              clear T0
              go_wp2_with fail
              refine HPa.out.mono ?_
              rintro e wa ⟨rfl, Ba⟩
              obtain ⟨Wb, hWb⟩ : ∃ Wb, Wb = wa.alloc (.cells #[.int .i64 0, .int .i64 0] 36) := ⟨_, rfl⟩
              obtain ⟨X, hX⟩ : ∃ X, X = wa.heap.size := ⟨_, rfl⟩
              have bX := HeapM.blk_new wa (.cells #[.int .i64 0, .int .i64 0] 36 (0, 0))
              have Bb : Below wr.heap.size wr Wb := by rw [hWb]; apply below_alloc; exact Ba
              rw [← hX] at bX
              rw [show wa.alloc (.cells #[.int .i64 0, .int .i64 0] 36 (0, 0)) = Wb from hWb.symm] at bX
              have hWb' := Aside0.mk hWb
              have hX' := Aside0.mk hX
              have bX' := Aside0.mk bX
              have Bb' := Aside0.mk Bb
              clear Ba bX Bb hWb hX
              go_wp2_with fail
              rw [← hWb'.out, ← hX'.out]
              refine (HPb.out _ Bb'.out).mono ?_
              rintro e wc ⟨rfl, Bc⟩
              obtain ⟨Wd, hWd⟩ : ∃ Wd, Wd = wc.alloc (.cells #[.int .i64 0, .int .i64 0] 36) := ⟨_, rfl⟩
              have Bd : Below wr.heap.size wr Wd := by rw [hWd]; apply below_alloc; exact Bb'.out.trans (Bc.mono Bb'.out.size)
              have bXd := HeapM.blk_alloc ((Bc.block _ (HeapM.blk_lt bX'.out)).trans bX'.out) (.cells #[.int .i64 0, .int .i64 0] 36 (0, 0))
              have bYd := HeapM.blk_new wc (.cells #[.int .i64 0, .int .i64 0] 36 (0, 0))
              have hx0 : (wc.alloc (.cells #[.int .i64 0, .int .i64 0] 36)).cell? ⟨X, 0, none⟩ = some (.int .i64 0) := (HeapM.blk_cell bXd 0).trans rfl
              have hx1 : (wc.alloc (.cells #[.int .i64 0, .int .i64 0] 36)).cell? ⟨X, 1, none⟩ = some (.int .i64 0) := (HeapM.blk_cell bXd 1).trans rfl
              have hy0 : (wc.alloc (.cells #[.int .i64 0, .int .i64 0] 36)).cell? ⟨wc.heap.size, 0, none⟩ = some (.int .i64 0) := (HeapM.blk_cell bYd 0).trans rfl
              have hy1 : (wc.alloc (.cells #[.int .i64 0, .int .i64 0] 36)).cell? ⟨wc.heap.size, 1, none⟩ = some (.int .i64 0) := (HeapM.blk_cell bYd 1).trans rfl
              have RR : Aside0 (Two Wd g h C C 100 100 (q - (q + 1)) (q - (q + 1)) (M1 + 4000010) (M2 + 4000010) (fun k => k < w.heap.size) ∧ Kept w Wd (fun k => k < w.heap.size)) := ⟨by
                have t := T0'.out.below Bd
                rw [show q - (q + 1) = 0 by omega]
                exact ⟨t.more (by omega) (by omega), HK2.out.trans (Kept.of_below Bd)⟩⟩
              have hWd' := Aside0.mk hWd
              clear Bc Bd bXd bYd HPa HPb hWd
              go_wp2_with fail
              refine ⟨⟨q + 1, _, M1 + 4000010, M2 + 4000010, by first | rfl | (push_cast; rfl), by omega, ⟨by rw [← hWd'.out]; exact RR.out.1⟩, ⟨by have := HM.out; omega⟩, ⟨by rw [← hWd'.out]; exact RR.out.2⟩⟩, ?_⟩
              simp only [intOf]
              omega
            · obtain rfl : q = i + 1 := by omega
              go_wp2_with fail
              go_returns
              exact ⟨rfl, HK2.out.below (Nat.le_refl _) (fun _ e => e)⟩
end Go.Proofs.Ytmihpgdpgacgcaa.HeapC
