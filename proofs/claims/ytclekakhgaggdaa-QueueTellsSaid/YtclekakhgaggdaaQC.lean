/- What Want does. -/
import Derived.Test.YtclekakhgaggdaaQH
namespace Go.Proofs.Ytclekakhgaggdaa.HeapC
open Go.RowKit Go.Proofs.Ytclekakhgaggdaa.HeapT Go.Proofs.Ytclekakhgaggdaa.HeapM Go.Proofs.Ytclekakhgaggdaa.QueueM Go.Proofs.YtclekakhgaggdaaW.PrintWords Go.Proofs.YtclekakhgaggdaaW.PrintLast Go.Proofs.YtclekakhgaggdaaW.PrintMore
attribute [local go_sem] max2_int min2_int max_two min_two
set_option linter.unusedVariables false
set_option linter.unusedSimpArgs false
theorem setU : Try.prog.underlying 53 = some (.map 3 60) := by kernel_rfl
theorem intU : Try.prog.underlying 3 = some (.int .i64) := by kernel_rfl
theorem unitZ (w : World) : (zeroValue 60).run Try.prog w = .ok (.agg #[]) w := by kernel_rfl
/-- May it be asked for so? -/
def WOk (s p t : Int) : Prop := 0 ≤ s ∧ s < 1000 ∧ 0 ≤ p ∧ p ≤ 1000 ∧ 0 ≤ t ∧ t ≤ 1099511627776
theorem wf_small {k : Int} (h0 : -9000000000000000000 ≤ k) (h1 : k ≤ 9000000000000000000) : (Lit.int .i64 k).wf = true := by
  unfold Lit.wf
  rw [Bool.and_eq_true, decide_eq_true_eq, decide_eq_true_eq]
  exact ⟨by show -9223372036854775808 ≤ k; omega, by show k ≤ 9223372036854775807; omega⟩
section
variable {w : World} {q g mb : Nat} {C : Int → Option Int} {S : Int → Bool} {age most : Int} {n N : Nat} {D : Nat → Prop}
set_option maxHeartbeats 1000000 in
set_option maxRecDepth 20000 in
theorem QHeld.want_there (h : QHeld w q g mb C S age most n N D) (hN : N < 3000000000000000000) (hn : n ≤ 1000000) (ha0 : 1 ≤ age) (ha1 : age ≤ 1000) (s p t : Int) (hw : WOk s p t) (old : Int) (hc : C s = some old) :
    Calls Try.prog 12 #[.pointer (some ⟨q, 0, none⟩), .int .i64 s, .int .i64 p, .int .i64 t] w fun e w' => e = .returned (.int .i64 0) ∧ QHeld w' q g mb (upd C s (some (max old (p * age - t)))) S age most n (N + 4000000) D ∧ Kept w w' D := by
  have HC := Aside0.mk hc
  clear hc
  have hp0 : 0 ≤ p * age := Int.mul_nonneg hw.2.2.1 (by omega)
  have hp1 : p * age ≤ 1000000 := Int.le_trans (Int.mul_le_mul hw.2.2.2.1 ha1 (by omega) (by omega)) (by omega)
  have e1 : wrap64 (p * age) = p * age := by generalize p * age = m at hp0 hp1; unfold wrap64; omega
  have e2 : wrap64 (p * age - t) = p * age - t := by
    obtain ⟨_, _, _, _, h5, h6⟩ := hw
    generalize p * age = m at hp0 hp1; unfold wrap64; omega
  obtain ⟨m, hm⟩ : ∃ m, p * age - t = m := ⟨_, rfl⟩
  (try rw [hm])
  have HE := Lib.hid (And.intro e1 (And.intro e2 hm))
  clear hm
  have hk := Aside0.mk (wf_small (k := s) (by unfold WOk at hw; omega) (by unfold WOk at hw; omega))
  obtain ⟨g1, g2, g3, g4, g5, g6⟩ := hw
  have d1 : decide (s < 0) = false := decide_eq_false (by omega)
  have d2 : decide (1000 ≤ s) = false := decide_eq_false (by omega)
  have d3 : decide (p < 0) = false := decide_eq_false (by omega)
  have d4 : decide (1000 < p) = false := decide_eq_false (by omega)
  have d5 : decide (t < 0) = false := decide_eq_false (by omega)
  have d6 : decide (1099511627776 < t) = false := decide_eq_false (by omega)
  have H := Aside0.mk h
  have HN := Aside0.mk hN
  have HL := Aside0.mk hn
  have c0 : w.cell? ⟨q, 0, none⟩ = some (.pointer (some ⟨g, 0, none⟩)) := (HeapM.blk_cell h.head 0).trans rfl
  have c1 : w.cell? ⟨q, 1, none⟩ = some (.int .i64 age) := (HeapM.blk_cell h.head 1).trans rfl
  have c2 : w.cell? ⟨q, 2, none⟩ = some (.map (some mb)) := (HeapM.blk_cell h.head 2).trans rfl
  clear e1 e2 g1 g2 g3 g4 g5 g6 hp0 hp1 ha0 ha1 h hN hn
  go_enter Try.func12, Try.ntmps12
  go_wp2_with fail
  obtain ⟨e1, e2, e3⟩ := HE.out
  rw [e1, e2, e3]
  clear e1 e2 e3
  refine (H.out.heap.prio s hk.out).mono ?_
  rintro e w1 ⟨rfl, rfl⟩
  rw [HC.out]
  go_wp2_with fail
  · have hx : max old m = m := by omega
    refine (H.out.heap.change_some HN.out HL.out s m hk.out (by rw [HC.out]; exact Option.some_ne_none _)).mono ?_
    rintro e w2 ⟨rfl, H2, K2⟩
    have HH := Aside0.mk (H.out.step H2 K2 (by omega))
    clear H2 K2
    go_wp2_with fail
    go_ret
    rw [hx]
    exact ⟨rfl, HH.out⟩
  · have hx : max old m = old := by omega
    refine (H.out.heap.change_some HN.out HL.out s old hk.out (by rw [HC.out]; exact Option.some_ne_none _)).mono ?_
    rintro e w2 ⟨rfl, H2, K2⟩
    have HH := Aside0.mk (H.out.step H2 K2 (by omega))
    clear H2 K2
    go_wp2_with fail
    go_ret
    rw [hx]
    exact ⟨rfl, HH.out⟩
set_option maxHeartbeats 1000000 in
set_option maxRecDepth 20000 in
theorem QHeld.want_push (h : QHeld w q g mb C S age most n N D) (hN : N < 3000000000000000000) (hn : n ≤ 1000000) (ha0 : 1 ≤ age) (ha1 : age ≤ 1000) (s p t : Int) (hw : WOk s p t) (hc : C s = none) (hr : n < most) (hm1 : most ≤ 1000) :
    Calls Try.prog 12 #[.pointer (some ⟨q, 0, none⟩), .int .i64 s, .int .i64 p, .int .i64 t] w fun e w' => e = .returned (.int .i64 0) ∧ QHeld w' q g mb (upd C s (some (p * age - t))) (sadd S s false) age most (n + 1) (N + 4000000) D ∧ Kept w w' D := by
  have HC := Aside0.mk hc
  have HR := Aside0.mk hr
  have HM1 := Aside0.mk hm1
  clear hc hr hm1
  have hp0 : 0 ≤ p * age := Int.mul_nonneg hw.2.2.1 (by omega)
  have hp1 : p * age ≤ 1000000 := Int.le_trans (Int.mul_le_mul hw.2.2.2.1 ha1 (by omega) (by omega)) (by omega)
  have e1 : wrap64 (p * age) = p * age := by generalize p * age = m at hp0 hp1; unfold wrap64; omega
  have e2 : wrap64 (p * age - t) = p * age - t := by
    obtain ⟨_, _, _, _, h5, h6⟩ := hw
    generalize p * age = m at hp0 hp1; unfold wrap64; omega
  obtain ⟨m, hm⟩ : ∃ m, p * age - t = m := ⟨_, rfl⟩
  (try rw [hm])
  have HE := Lib.hid (And.intro e1 (And.intro e2 hm))
  clear hm
  have hk := Aside0.mk (wf_small (k := s) (by unfold WOk at hw; omega) (by unfold WOk at hw; omega))
  obtain ⟨g1, g2, g3, g4, g5, g6⟩ := hw
  have d1 : decide (s < 0) = false := decide_eq_false (by omega)
  have d2 : decide (1000 ≤ s) = false := decide_eq_false (by omega)
  have d3 : decide (p < 0) = false := decide_eq_false (by omega)
  have d4 : decide (1000 < p) = false := decide_eq_false (by omega)
  have d5 : decide (t < 0) = false := decide_eq_false (by omega)
  have d6 : decide (1099511627776 < t) = false := decide_eq_false (by omega)
  have H := Aside0.mk h
  have HN := Aside0.mk hN
  have HL := Aside0.mk hn
  have c0 : w.cell? ⟨q, 0, none⟩ = some (.pointer (some ⟨g, 0, none⟩)) := (HeapM.blk_cell h.head 0).trans rfl
  have c1 : w.cell? ⟨q, 1, none⟩ = some (.int .i64 age) := (HeapM.blk_cell h.head 1).trans rfl
  have c2 : w.cell? ⟨q, 2, none⟩ = some (.map (some mb)) := (HeapM.blk_cell h.head 2).trans rfl
  clear e1 e2 g1 g2 g3 g4 g5 g6 hp0 hp1 ha0 ha1 h hN hn
  go_enter Try.func12, Try.ntmps12
  go_wp2_with fail
  obtain ⟨e1, e2, e3⟩ := HE.out
  rw [e1, e2, e3]
  clear e1 e2 e3
  refine (H.out.heap.prio s hk.out).mono ?_
  rintro e w1 ⟨rfl, rfl⟩
  rw [HC.out]
  go_wp2_with fail
  refine (H.out.heap.push_ok HN.out HM1.out s m hk.out HC.out HR.out).mono ?_
  rintro e w2 ⟨rfl, H2, K2⟩
  obtain ⟨H3, K3⟩ := H.out.step H2 K2 (by omega)
  have HH := Aside0.mk H3
  have HK := Aside0.mk K3
  clear H2 K2 K3 c0 c1 c2
  obtain ⟨w3, r3, i3, k3⟩ := H3.set.drop setU intU s hk.out 0
  have H4 := Aside0.mk (H3.turn i3 k3 (Nat.le_refl _))
  have c2 : w2.cell? ⟨q, 2, none⟩ = some (.map (some mb)) := (HeapM.blk_cell H3.head 2).trans rfl
  clear H3 i3 k3
  go_wp2_with fail
  go_ret
  exact ⟨rfl, H4.out.1, HK.out.trans H4.out.2⟩
set_option maxHeartbeats 1000000 in
set_option maxRecDepth 20000 in
theorem QHeld.want_full (h : QHeld w q g mb C S age most n N D) (hN : N < 3000000000000000000) (hn : n ≤ 1000000) (ha0 : 1 ≤ age) (ha1 : age ≤ 1000) (s p t : Int) (hw : WOk s p t) (hc : C s = none) (hr : most ≤ n) :
    Calls Try.prog 12 #[.pointer (some ⟨q, 0, none⟩), .int .i64 s, .int .i64 p, .int .i64 t] w fun e w' => e = .returned (.int .i64 50) ∧ QHeld w' q g mb C (sadd S s true) age most n (N + 1) D ∧ Kept w w' D := by
  have HC := Aside0.mk hc
  have HR := Aside0.mk hr
  clear hc hr
  have hp0 : 0 ≤ p * age := Int.mul_nonneg hw.2.2.1 (by omega)
  have hp1 : p * age ≤ 1000000 := Int.le_trans (Int.mul_le_mul hw.2.2.2.1 ha1 (by omega) (by omega)) (by omega)
  have e1 : wrap64 (p * age) = p * age := by generalize p * age = m at hp0 hp1; unfold wrap64; omega
  have e2 : wrap64 (p * age - t) = p * age - t := by
    obtain ⟨_, _, _, _, h5, h6⟩ := hw
    generalize p * age = m at hp0 hp1; unfold wrap64; omega
  obtain ⟨m, hm⟩ : ∃ m, p * age - t = m := ⟨_, rfl⟩
  (try rw [hm])
  have HE := Lib.hid (And.intro e1 (And.intro e2 hm))
  clear hm
  have hk := Aside0.mk (wf_small (k := s) (by unfold WOk at hw; omega) (by unfold WOk at hw; omega))
  obtain ⟨g1, g2, g3, g4, g5, g6⟩ := hw
  have d1 : decide (s < 0) = false := decide_eq_false (by omega)
  have d2 : decide (1000 ≤ s) = false := decide_eq_false (by omega)
  have d3 : decide (p < 0) = false := decide_eq_false (by omega)
  have d4 : decide (1000 < p) = false := decide_eq_false (by omega)
  have d5 : decide (t < 0) = false := decide_eq_false (by omega)
  have d6 : decide (1099511627776 < t) = false := decide_eq_false (by omega)
  have H := Aside0.mk h
  have HN := Aside0.mk hN
  have HL := Aside0.mk hn
  have c0 : w.cell? ⟨q, 0, none⟩ = some (.pointer (some ⟨g, 0, none⟩)) := (HeapM.blk_cell h.head 0).trans rfl
  have c1 : w.cell? ⟨q, 1, none⟩ = some (.int .i64 age) := (HeapM.blk_cell h.head 1).trans rfl
  have c2 : w.cell? ⟨q, 2, none⟩ = some (.map (some mb)) := (HeapM.blk_cell h.head 2).trans rfl
  clear e1 e2 g1 g2 g3 g4 g5 g6 hp0 hp1 ha0 ha1 h hN hn
  go_enter Try.func12, Try.ntmps12
  go_wp2_with fail
  obtain ⟨e1, e2, e3⟩ := HE.out
  rw [e1, e2, e3]
  clear e1 e2 e3
  refine (H.out.heap.prio s hk.out).mono ?_
  rintro e w1 ⟨rfl, rfl⟩
  rw [HC.out]
  go_wp2_with fail
  refine (H.out.heap.push_full s m hk.out HC.out HR.out).mono ?_
  rintro e w2 ⟨rfl, b⟩
  have H3 := H.out.below b
  have HK := Aside0.mk (Kept.of_below (D := D) b)
  clear b c0 c1 c2
  obtain ⟨w3, r3, i3, k3⟩ := H3.set.add setU intU (by have := HN.out; omega) s hk.out
  have H4 := Aside0.mk (H3.turn i3 k3 (by omega))
  have c2 : w2.cell? ⟨q, 2, none⟩ = some (.map (some mb)) := (HeapM.blk_cell H3.head 2).trans rfl
  clear H3 i3 k3
  go_wp2_with fail
  go_ret
  exact ⟨rfl, H4.out.1, HK.out.trans H4.out.2⟩
/-- What may not be asked for. -/
theorem want_bad (q : Option Addr) (s p t : Int) (hw : q = none ∨ ¬ WOk s p t) :
    Calls Try.prog 12 #[.pointer q, .int .i64 s, .int .i64 p, .int .i64 t] w fun e w' => e = .returned (.int .i64 1) ∧ w = w' := by
  cases q with
  | none =>
    clear hw
    go_enter Try.func12, Try.ntmps12
    go_wp2_with fail
    go_ret
    exact ⟨rfl, rfl⟩
  | some a =>
    have hw' : ¬ WOk s p t := hw.resolve_left (by simp)
    unfold WOk at hw'
    clear hw
    by_cases c1 : s < 0
    · have d1 : decide (s < 0) = true := decide_eq_true c1
      clear hw'
      go_enter Try.func12, Try.ntmps12
      go_wp2_with fail
      go_ret
      exact ⟨rfl, rfl⟩
    have d1 : decide (s < 0) = false := decide_eq_false c1
    by_cases c2 : 1000 ≤ s
    · have d2 : decide (1000 ≤ s) = true := decide_eq_true c2
      clear hw' c1
      go_enter Try.func12, Try.ntmps12
      go_wp2_with fail
      go_ret
      exact ⟨rfl, rfl⟩
    have d2 : decide (1000 ≤ s) = false := decide_eq_false c2
    by_cases c3 : p < 0
    · have d3 : decide (p < 0) = true := decide_eq_true c3
      clear hw' c1 c2
      go_enter Try.func12, Try.ntmps12
      go_wp2_with fail
      go_ret
      exact ⟨rfl, rfl⟩
    have d3 : decide (p < 0) = false := decide_eq_false c3
    by_cases c4 : 1000 < p
    · have d4 : decide (1000 < p) = true := decide_eq_true c4
      clear hw' c1 c2 c3
      go_enter Try.func12, Try.ntmps12
      go_wp2_with fail
      go_ret
      exact ⟨rfl, rfl⟩
    have d4 : decide (1000 < p) = false := decide_eq_false c4
    by_cases c5 : t < 0
    · have d5 : decide (t < 0) = true := decide_eq_true c5
      clear hw' c1 c2 c3 c4
      go_enter Try.func12, Try.ntmps12
      go_wp2_with fail
      go_ret
      exact ⟨rfl, rfl⟩
    have d5 : decide (t < 0) = false := decide_eq_false c5
    have d6 : decide (1099511627776 < t) = true := decide_eq_true (by omega)
    clear hw' c1 c2 c3 c4 c5
    go_enter Try.func12, Try.ntmps12
    go_wp2_with fail
    go_ret
    exact ⟨rfl, rfl⟩
end
end Go.Proofs.Ytclekakhgaggdaa.HeapC
