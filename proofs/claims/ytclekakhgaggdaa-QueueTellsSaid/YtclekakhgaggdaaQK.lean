/- A queue that is as it should be: its steps. -/
import Derived.Test.YtclekakhgaggdaaQG
namespace Go.Proofs.Ytclekakhgaggdaa.HeapC
open Go.RowKit Go.Proofs.Ytclekakhgaggdaa.HeapT Go.Proofs.Ytclekakhgaggdaa.HeapM Go.Proofs.Ytclekakhgaggdaa.QueueM Go.Proofs.YtclekakhgaggdaaW.PrintWords Go.Proofs.YtclekakhgaggdaaW.PrintLast Go.Proofs.YtclekakhgaggdaaW.PrintMore
set_option linter.unusedVariables false
set_option linter.unusedSimpArgs false
/-- What is in a heap, by its keys. -/
theorem Held.sorted {w : World} {g : Nat} {C : Int → Option Int} {most : Int} {n N : Nat} {D : Nat → Prop} (h : Held w g C most n N D) : ∃ ys, SortedOf C ys ∧ ys.length = n := by
  obtain ⟨F, ⟨⟨mb, v, xs, M, hm, hp, hh, rfl, rfl, hw, hf⟩, hl⟩, h2, h3⟩ := h
  have tr : ∀ a b c : Itm, decide (a.1 ≤ b.1) = true → decide (b.1 ≤ c.1) = true → decide (a.1 ≤ c.1) = true := fun a b c h1 h2 => by simp only [decide_eq_true_eq] at *; omega
  have tot : ∀ a b : Itm, (decide (a.1 ≤ b.1) || decide (b.1 ≤ a.1)) = true := fun a b => by simp only [Bool.or_eq_true, decide_eq_true_eq]; omega
  have hpw := List.pairwise_mergeSort tr tot xs
  refine ⟨_, sorted_of hp (List.mergeSort_perm xs (fun a b => decide (a.1 ≤ b.1))) (fun i j hij hj => ?_) hw, List.length_mergeSort _⟩
  have := List.pairwise_iff_getElem.1 hpw i j (by omega) hj hij
  rw [it_get, it_get] at this
  simpa using this
structure QOk (w : World) (q g mb : Nat) (C : Int → Option Int) (S : Int → Bool) (age most : Int) (n N : Nat) (D : Nat → Prop) : Prop where
  held : QHeld w q g mb C S age most n N D
  sr : ∀ x, S x = true → 0 ≤ x ∧ x < 1000
  sc : ∀ x, S x = true → C x = none
  ag : 1 ≤ age ∧ age ≤ 1000
  mo : 1 ≤ most ∧ most ≤ 1000
  nm : (n : Int) ≤ most
def WantTo (C : Int → Option Int) (S : Int → Bool) (n : Nat) (most s m r : Int) (C' : Int → Option Int) (S' : Int → Bool) (n' : Nat) : Prop :=
  (∃ old, C s = some old ∧ r = 0 ∧ C' = upd C s (some (max old m)) ∧ S' = S ∧ n' = n) ∨
  (C s = none ∧ (n : Int) < most ∧ r = 0 ∧ C' = upd C s (some m) ∧ S' = sadd S s false ∧ n' = n + 1) ∨
  (C s = none ∧ most ≤ n ∧ r = 50 ∧ C' = C ∧ S' = sadd S s true ∧ n' = n)
def NextTo (C : Int → Option Int) (S : Int → Bool) (n : Nat) (most t k p : Int) (b : Bool) (C' : Int → Option Int) (S' : Int → Bool) (n' : Nat) : Prop :=
  TopIs C n k p b ∧ ∃ ys m, Swept (if b then upd C k none else C) S (n - 1) most t ys m C' S' ∧ n' = n - 1 + m
section
variable {w : World} {q g mb : Nat} {C : Int → Option Int} {S : Int → Bool} {age most : Int} {n N : Nat} {D : Nat → Prop}
theorem QOk.below {w' : World} (h : QOk w q g mb C S age most n N D) (b : Below w.heap.size w w') : QOk w' q g mb C S age most n N D := ⟨h.held.below b, h.sr, h.sc, h.ag, h.mo, h.nm⟩
theorem QOk.less {D' : Nat → Prop} (h : QOk w q g mb C S age most n N D) (hd : ∀ k, D' k → D k) : QOk w q g mb C S age most n N D' := ⟨h.held.less hd, h.sr, h.sc, h.ag, h.mo, h.nm⟩
theorem QOk.more {N' : Nat} (h : QOk w q g mb C S age most n N D) (e : N ≤ N') : QOk w q g mb C S age most n N' D := ⟨h.held.more e, h.sr, h.sc, h.ag, h.mo, h.nm⟩
theorem QOk.alloc (h : QOk w q g mb C S age most n N D) (o : Obj) : QOk (w.alloc o) q g mb C S age most n N (fun k => D k ∨ k = w.heap.size) := ⟨h.held.alloc o, h.sr, h.sc, h.ag, h.mo, h.nm⟩
theorem QOk.sorted (h : QOk w q g mb C S age most n N D) : ∃ ys, SortedOf C ys ∧ ys.length = n := h.held.heap.sorted
theorem QOk.want (h : QOk w q g mb C S age most n N D) (hN : N ≤ 15000000000000) (s p t : Int) (hw : WOk s p t) :
    Calls Try.prog 12 #[.pointer (some ⟨q, 0, none⟩), .int .i64 s, .int .i64 p, .int .i64 t] w fun e w' => ∃ r C' S' n' N', e = .returned (.int .i64 r) ∧ WantTo C S n most s (p * age - t) r C' S' n' ∧ QOk w' q g mb C' S' age most n' N' D ∧ Kept w w' D ∧ N' ≤ N + 4000000 := by
  have hn : n ≤ 1000000 := by have := h.nm; have := h.mo; omega
  obtain ⟨w0, w1, w2, w3, w4, w5⟩ := hw
  have hs : ∀ (S1 : Int → Bool) (C1 : Int → Option Int), (∀ x, x ≠ s → S1 x = S x) → (∀ x, x ≠ s → C1 x = C x) → (S1 s = true → C1 s = none) → (∀ x, S1 x = true → 0 ≤ x ∧ x < 1000) ∧ ∀ x, S1 x = true → C1 x = none := by
    intro S1 C1 e1 e2 e3
    refine ⟨fun x hx => ?_, fun x hx => ?_⟩ <;> by_cases e : x = s
    · subst e; exact ⟨w0, w1⟩
    · rw [e1 x e] at hx; exact h.sr x hx
    · subst e; exact e3 hx
    · rw [e1 x e] at hx; rw [e2 x e]; exact h.sc x hx
  cases hc : C s with
  | some old =>
    refine (h.held.want_there (by omega) hn h.ag.1 h.ag.2 s p t ⟨w0, w1, w2, w3, w4, w5⟩ old hc).mono ?_
    rintro e w' ⟨rfl, H, K⟩
    obtain ⟨z1, z2⟩ := hs S (upd C s (some (max old (p * age - t)))) (fun x _ => rfl) (fun x hx => upd_other _ _ _ _ hx) (fun hx => by have := h.sc s hx; rw [hc] at this; cases this)
    exact ⟨_, _, _, _, _, rfl, .inl ⟨old, hc, rfl, rfl, rfl, rfl⟩, ⟨H, z1, z2, h.ag, h.mo, h.nm⟩, K, Nat.le_refl _⟩
  | none =>
    by_cases hr : (n : Int) < most
    · refine (h.held.want_push (by omega) hn h.ag.1 h.ag.2 s p t ⟨w0, w1, w2, w3, w4, w5⟩ hc (by omega) h.mo.2).mono ?_
      rintro e w' ⟨rfl, H, K⟩
      obtain ⟨z1, z2⟩ := hs (sadd S s false) (upd C s (some (p * age - t))) (fun x hx => if_neg hx) (fun x hx => upd_other _ _ _ _ hx) (fun hx => by unfold sadd at hx; rw [if_pos rfl] at hx; cases hx)
      exact ⟨_, _, _, _, _, rfl, .inr (.inl ⟨hc, hr, rfl, rfl, rfl, rfl⟩), ⟨H, z1, z2, h.ag, h.mo, by omega⟩, K, Nat.le_refl _⟩
    · refine (h.held.want_full (by omega) hn h.ag.1 h.ag.2 s p t ⟨w0, w1, w2, w3, w4, w5⟩ hc (by omega)).mono ?_
      rintro e w' ⟨rfl, H, K⟩
      obtain ⟨z1, z2⟩ := hs (sadd S s true) C (fun x hx => if_neg hx) (fun x hx => rfl) (fun _ => hc)
      exact ⟨_, _, _, _, _, rfl, .inr (.inr ⟨hc, by omega, rfl, rfl, rfl, rfl⟩), ⟨H, z1, z2, h.ag, h.mo, h.nm⟩, K, by omega⟩
theorem QOk.next (h : QOk w q g mb C S age most n N D) (hN : N ≤ 14000000000000) (now : Int) :
    Calls Try.prog 14 #[.pointer (some ⟨q, 0, none⟩), .int .i64 now] w fun e w' => ∃ k p b C' S' n' N', e = .returned (.tuple #[.int .i64 k, .bool b]) ∧ NextTo C S n most (-(clampT now)) k p b C' S' n' ∧ QOk w' q g mb C' S' age most n' N' D ∧ Kept w w' D ∧ N' ≤ N + 5000000000 := by
  have hn : n ≤ 1000000 := by have := h.nm; have := h.mo; omega
  refine (h.held.next (by omega) hn h.mo.2 h.sr h.sc now).mono ?_
  rintro e w' ⟨k, p, b, ys, m, C', S', N', rfl, ht, hs, H, K, hN'⟩
  have hm := hs.much
  have h1 := h.nm
  have h2 := h.mo
  refine ⟨k, p, b, C', S', _, N', rfl, ⟨ht, ys, m, hs, rfl⟩, ⟨H, fun x hx => ?_, fun x hx => ?_, h.ag, h.mo, by omega⟩, K, by omega⟩
  · rw [hs.dirt x] at hx
    simp only [Bool.and_eq_true] at hx
    exact h.sr x hx.1
  · rw [hs.dirt x] at hx
    simp only [Bool.and_eq_true, Bool.not_eq_true', decide_eq_false_iff_not] at hx
    rw [hs.cont x, if_neg hx.2]
    have := h.sc x hx.1
    split
    · unfold upd; split
      · rfl
      · exact this
    · exact this
theorem QOk.drop (h : QOk w q g mb C S age most n N D) (hN : N ≤ 15000000000000) (k : Int) (hk : (Lit.int .i64 k).wf = true) :
    Calls Try.prog 16 #[.pointer (some ⟨q, 0, none⟩), .int .i64 k] w fun e w' => ∃ n' N', e = .returned (.bool ((C k).isSome || S k)) ∧ QOk w' q g mb (upd C k none) (sadd S k false) age most n' N' D ∧ Kept w w' D ∧ N' ≤ N + 4000010 ∧ n' ≤ n ∧ (C k ≠ none → n' + 1 = n) ∧ (C k = none → n' = n) := by
  have hn : n ≤ 1000000 := by have := h.nm; have := h.mo; omega
  refine (h.held.drop hN hn k hk).mono ?_
  rintro e w' ⟨n', N', rfl, H, K, g1, g2, g3, g4⟩
  have h1 := h.nm
  refine ⟨n', N', rfl, ⟨H, fun x hx => ?_, fun x hx => ?_, h.ag, h.mo, by omega⟩, K, g1, g2, g3, g4⟩ <;> by_cases e : x = k
  · subst e; unfold sadd at hx; rw [if_pos rfl] at hx; cases hx
  · unfold sadd at hx; rw [if_neg e] at hx; exact h.sr x hx
  · subst e; exact upd_same _ _ _
  · unfold sadd at hx; rw [if_neg e] at hx; rw [upd_other _ _ _ _ e]; exact h.sc x hx
theorem QOk.waiting (h : QOk w q g mb C S age most n N D) :
    Calls Try.prog 19 #[.pointer (some ⟨q, 0, none⟩)] w fun e w' => ∃ v ks, e = .returned v ∧ SetOf (fun x => (C x).isSome) ks ∧ ks.length = n ∧ NRow w' w.heap.size v ks ∧ Below w.heap.size w w' :=
  h.held.waiting (by have := h.nm; have := h.mo; omega)
theorem QOk.dirty (h : QOk w q g mb C S age most n N D) (hN : N ≤ 15000000000000) :
    Calls Try.prog 21 #[.pointer (some ⟨q, 0, none⟩)] w fun e w' => ∃ v ys, e = .returned v ∧ SetOf S ys ∧ NRow w' w.heap.size v ys ∧ Below w.heap.size w w' := h.held.dirty (by omega) h.sr
end
theorem qok_new (room age : Int) (w : World) (h0 : 1 ≤ room) (h1 : room ≤ 1000) (a0 : 1 ≤ age) (a1 : age ≤ 1000) (D : Nat → Prop) (hD : ∀ k, D k → k < w.heap.size) :
    Calls Try.prog 10 #[.int .i64 room, .int .i64 age] w fun e w' => ∃ q g mb, e = .returned (.pointer (some ⟨q, 0, none⟩)) ∧ QOk w' q g mb (fun _ => none) (fun _ => false) age room 0 0 D ∧ Kept w w' D :=
  (qnew_ok room age w h0 h1 a0 a1 D hD).mono fun e w' ⟨q, g, mb, h, H, K⟩ => by
    exact ⟨q, g, mb, h, ⟨H, (fun x hx => by cases hx), (fun x hx => rfl), ⟨a0, a1⟩, ⟨h0, h1⟩, by omega⟩, K⟩
end Go.Proofs.Ytclekakhgaggdaa.HeapC
