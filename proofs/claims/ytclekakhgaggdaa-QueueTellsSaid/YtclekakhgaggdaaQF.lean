/- Next, Drop. -/
import Derived.Test.YtclekakhgaggdaaQE
namespace Go.Proofs.Ytclekakhgaggdaa.HeapC
open Go.RowKit Go.Proofs.Ytclekakhgaggdaa.HeapT Go.Proofs.Ytclekakhgaggdaa.HeapM Go.Proofs.Ytclekakhgaggdaa.QueueM Go.Proofs.YtclekakhgaggdaaW.PrintWords Go.Proofs.YtclekakhgaggdaaW.PrintLast Go.Proofs.YtclekakhgaggdaaW.PrintMore
set_option linter.unusedVariables false
set_option linter.unusedSimpArgs false
section
variable {w : World} {q g mb : Nat} {C : Int → Option Int} {S : Int → Bool} {age most : Int} {n N : Nat} {D : Nat → Prop}
set_option maxHeartbeats 1000000 in
set_option maxRecDepth 20000 in
theorem QHeld.next (h : QHeld w q g mb C S age most n N D) (hN : N ≤ 15000000000000) (hn : n ≤ 1000000) (hm1 : most ≤ 1000) (hS : ∀ x, S x = true → 0 ≤ x ∧ x < 1000) (hC : ∀ x, S x = true → C x = none) (now : Int) :
    Calls Try.prog 14 #[.pointer (some ⟨q, 0, none⟩), .int .i64 now] w fun e w' => ∃ k p b ys m C' S' N', e = .returned (.tuple #[.int .i64 k, .bool b]) ∧ TopIs C n k p b ∧ Swept (if b then upd C k none else C) S (n - 1) most (-(clampT now)) ys m C' S' ∧ QHeld w' q g mb C' S' age most (n - 1 + m) N' D ∧ Kept w w' D ∧ N' ≤ N + 4000010 + 4000000 * m := by
  have H := Aside0.mk h
  have HN := Aside0.mk hN
  have HL := Aside0.mk hn
  have HM1 := Aside0.mk hm1
  have HS := Aside0.mk hS
  have HC := Aside0.mk hC
  have c0 : w.cell? ⟨q, 0, none⟩ = some (.pointer (some ⟨g, 0, none⟩)) := (HeapM.blk_cell h.head 0).trans rfl
  clear h hN hn hm1 hS hC
  go_enter Try.func14, Try.ntmps14
  go_wp2_with fail
  refine (H.out.heap.pop_any (by have := HN.out; omega) HL.out).mono ?_
  rintro e w1 ⟨k, p, b, C1, N1, rfl, htop, hk, H1, K1, hC1, hN1⟩
  have hst : Aside0 (QHeld (w1.alloc (.cells #[.int .i64 k, .int .i64 p] 63)) q g mb C1 S age most (n - 1) (N + 4000010) (fun j => D j ∨ j = w1.heap.size) ∧ Kept w (w1.alloc (.cells #[.int .i64 k, .int .i64 p] 63)) D) := ⟨by
    obtain ⟨F, h1, h2, h3⟩ := H1
    have H2 := (H.out.step (Held.more (show Held w1 g C1 most (n - 1) N1 _ from ⟨F, h1, h2, h3⟩) hN1) K1 (by omega))
    exact ⟨H2.1.alloc _, H2.2.alloc _⟩⟩
  have hX := Aside0.mk (HeapM.blk_new w1 (.cells #[.int .i64 k, .int .i64 p] 63))
  have HT := Aside0.mk htop
  have HC1 := Aside0.mk hC1
  have HD := Aside0.mk (show ¬ D w1.heap.size from fun d => by have := H.out.lt.1 _ d; have := K1.size; omega)
  clear c0 htop hk H1 K1 hC1 hN1
  go_wp2_with fail
  obtain ⟨X, hXe⟩ : ∃ X, w1.heap.size = X := ⟨_, rfl⟩
  obtain ⟨W1, hW1⟩ : ∃ W, w1.alloc (.cells #[.int .i64 k, .int .i64 p] 63) = W := ⟨_, rfl⟩
  rw [hXe, hW1] at hst hX
  rw [hXe] at HD
  rw [hXe, hW1]
  clear hXe hW1
  refine (hst.out.1.sweep (by have := HN.out; omega) HM1.out HS.out (fun x hx => ?_) now).mono ?_
  · rw [HC1.out]
    split
    · unfold upd; split
      · rfl
      · exact HC.out x hx
    · exact HC.out x hx
  rintro e w2 ⟨rfl, ys, m, C', S', hsw, H2, K2⟩
  have y0 : w2.cell? ⟨X, 0, none⟩ = some (.int .i64 k) := (HeapM.blk_cell (K2.blk hX.out (.inr rfl)) 0).trans rfl
  have HF := Aside0.mk (And.intro hsw (And.intro (H2.less (fun j d => .inl d) : QHeld w2 q g mb C' S' age most (n - 1 + m) (N + 4000010 + 4000000 * m) D) (hst.out.2.trans (K2.mono (fun j d => .inl d)) : Kept w w2 D)))
  clear hsw H2 K2
  go_wp2_with fail
  go_ret2
  exact ⟨k, p, b, ys, m, C', S', _, rfl, HT.out, by rw [← HC1.out]; exact HF.out.1, HF.out.2.1, HF.out.2.2, Nat.le_refl _⟩
theorem next_nil (now : Int) (w : World) : Calls Try.prog 14 #[.pointer none, .int .i64 now] w fun e w' => e = .returned (.tuple #[.int .i64 0, .bool false]) ∧ w = w' := by
  go_enter Try.func14, Try.ntmps14
  go_wp2_with fail
  go_ret2
  exact ⟨rfl, rfl⟩
theorem drop_nil (k : Int) (w : World) : Calls Try.prog 16 #[.pointer none, .int .i64 k] w fun e w' => e = .returned (.bool false) ∧ w = w' := by
  go_enter Try.func16, Try.ntmps16
  go_wp2_with fail
  go_ret
  exact ⟨rfl, rfl⟩
theorem waiting_nil (w : World) : Calls Try.prog 19 #[.pointer none] w fun e w' => e = .returned (.slice none 0 0) ∧ w = w' := by
  go_enter Try.func19, Try.ntmps19
  go_wp2_with fail
  go_ret
  exact ⟨rfl, rfl⟩
theorem dirty_nil (w : World) : Calls Try.prog 21 #[.pointer none] w fun e w' => e = .returned (.slice none 0 0) ∧ w = w' := by
  go_enter Try.func21, Try.ntmps21
  go_wp2_with fail
  go_ret
  exact ⟨rfl, rfl⟩
set_option maxHeartbeats 1000000 in
set_option maxRecDepth 20000 in
theorem QHeld.drop (h : QHeld w q g mb C S age most n N D) (hN : N ≤ 15000000000000) (hn : n ≤ 1000000) (k : Int) (hk : (Lit.int .i64 k).wf = true) :
    Calls Try.prog 16 #[.pointer (some ⟨q, 0, none⟩), .int .i64 k] w fun e w' => ∃ n' N', e = .returned (.bool ((C k).isSome || S k)) ∧ QHeld w' q g mb (upd C k none) (sadd S k false) age most n' N' D ∧ Kept w w' D ∧ N' ≤ N + 4000010 ∧ n' ≤ n ∧ (C k ≠ none → n' + 1 = n) ∧ (C k = none → n' = n) := by
  have H := Aside0.mk h
  have HN := Aside0.mk hN
  have HL := Aside0.mk hn
  have HK := Aside0.mk hk
  have c2 : w.cell? ⟨q, 2, none⟩ = some (.map (some mb)) := (HeapM.blk_cell h.head 2).trans rfl
  have hlk := h.set.look setU intU (unitZ w) k hk
  have h1 := (h.alloc (.cells #[] 60))
  have c3 : (w.alloc (.cells #[] 60)).cell? ⟨q, 2, none⟩ = some (.map (some mb)) := (HeapM.blk_cell h1.head 2).trans rfl
  obtain ⟨w2, r2, i2, k2⟩ := h1.set.drop setU intU k hk 0
  have H2 := Aside0.mk (h1.turn i2 k2 (Nat.le_refl _))
  have KA := Aside0.mk (show Kept w (w.alloc (.cells #[] 60)) D from (Kept.refl _ _).alloc _)
  have c0 : w2.cell? ⟨q, 0, none⟩ = some (.pointer (some ⟨g, 0, none⟩)) := (HeapM.blk_cell H2.out.1.head 0).trans rfl
  clear h hN hn hk h1 i2 k2
  go_enter Try.func16, Try.ntmps16
  go_wp2_with fail
  refine (H2.out.1.heap.remove_any (by have := HN.out; omega) HL.out k HK.out).mono ?_
  rintro e w3 ⟨n', N', rfl, H3, K3, g1, g2, g3, g4⟩
  have HF := Aside0.mk (H2.out.1.step (Held.more H3 (show N' ≤ N + 4000010 from g1)) K3 (by omega))
  have HG := Aside0.mk (And.intro g2 (And.intro g3 g4))
  clear H3 K3 g1 g2 g3 g4 r2 c0 c2 c3 hlk
  cases hc : (C k).isSome with
  | true =>
    have HC := Aside0.mk hc
    clear hc
    go_wp2_with fail
    go_ret
    exact ⟨n', N + 4000010, by rw [HC.out]; rfl, HF.out.1.less (fun j d => .inl d), KA.out.trans ((H2.out.2.mono (fun j d => .inl d)).trans (HF.out.2.mono (fun j d => .inl d))), Nat.le_refl _, HG.out⟩
  | false =>
    have HC := Aside0.mk hc
    clear hc
    go_wp2_with fail
    go_ret
    exact ⟨n', N + 4000010, by rw [HC.out]; rfl, HF.out.1.less (fun j d => .inl d), KA.out.trans ((H2.out.2.mono (fun j d => .inl d)).trans (HF.out.2.mono (fun j d => .inl d))), Nat.le_refl _, HG.out⟩
end
end Go.Proofs.Ytclekakhgaggdaa.HeapC
