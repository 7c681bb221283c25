/- The program's heap, or none, and the document's, side by side. -/
import Derived.Test.YtmihpgdpgacgcaaHeapRc
namespace Go.Proofs.Ytmihpgdpgacgcaa.HeapC
open Go.RowKit Go.Proofs.Ytmihpgdpgacgcaa.HeapT Go.Proofs.Ytmihpgdpgacgcaa.HeapM Go.Proofs.YtmihpgdpgacgcaaW.PrintWords Go.Proofs.YtmihpgdpgacgcaaW.PrintLast Go.Proofs.YtmihpgdpgacgcaaW.PrintMore
set_option linter.unusedVariables false
set_option linter.unusedSimpArgs false

/-- A heap, or none (which has room for nothing). -/
def Any (w : World) (hv : Value) (C : Int → Option Int) (most : Int) (n N : Nat) (D : Nat → Prop) : Prop :=
  (∃ g, hv = .pointer (some ⟨g, 0, none⟩) ∧ Held w g C most n N D ∧ most ≤ 1000) ∨ (hv = .pointer none ∧ C = (fun _ => none) ∧ most = 0 ∧ n = 0 ∧ ∀ k, D k → k < w.heap.size)
/-- What a push answers, and makes. -/
def pushR (C : Int → Option Int) (k : Int) (n : Nat) (most : Int) : Int := if C k ≠ none then 1 else if most ≤ n then 50 else 0
def pushC (C : Int → Option Int) (k p : Int) (n : Nat) (most : Int) : Int → Option Int := if C k = none ∧ (n : Int) < most then upd C k (some p) else C

section
variable {w : World} {hv : Value} {C : Int → Option Int} {most : Int} {n N : Nat} {D : Nat → Prop}
theorem Any.lt (h : Any w hv C most n N D) : ∀ k, D k → k < w.heap.size := by
  rcases h with ⟨g, -, h, -⟩ | ⟨-, -, -, -, h⟩
  · exact h.lt
  · exact h
theorem Any.below {w' : World} (h : Any w hv C most n N D) (b : Below w.heap.size w w') : Any w' hv C most n N D := by
  rcases h with ⟨g, rfl, h, h2⟩ | ⟨rfl, h1, h2, h3, h4⟩
  · exact .inl ⟨g, rfl, h.below b, h2⟩
  · exact .inr ⟨rfl, h1, h2, h3, fun k e => Nat.lt_of_lt_of_le (h4 k e) b.size⟩
theorem Any.less {D' : Nat → Prop} (h : Any w hv C most n N D) (hd : ∀ k, D' k → D k) : Any w hv C most n N D' := by
  rcases h with ⟨g, rfl, h, h2⟩ | ⟨rfl, h1, h2, h3, h4⟩
  · exact .inl ⟨g, rfl, h.less hd, h2⟩
  · exact .inr ⟨rfl, h1, h2, h3, fun k e => h4 k (hd k e)⟩
theorem Any.set (h : Any w hv C most n N D) (B i : Nat) (u : Value) (hB : D B) : Any (w.setCell ⟨B, i, none⟩ u) hv C most n N D := by
  rcases h with ⟨g, rfl, h, h2⟩ | ⟨rfl, h1, h2, h3, h4⟩
  · exact .inl ⟨g, rfl, h.set B i u hB, h2⟩
  · exact .inr ⟨rfl, h1, h2, h3, fun k e => by have := h4 k e; simpa [World.setCell] using this⟩
/-- Blocks that turned are none of the heap's, nor are new ones. -/
theorem Any.turned {w' : World} {S D' : Nat → Prop} (h : Any w hv C most n N D) (c : Chg w w' S) (hS : ∀ k, S k → D k) (hD : ∀ k, D' k → D k ∨ (w.heap.size ≤ k ∧ k < w'.heap.size)) : Any w' hv C most n N D' := by
  rcases h with ⟨g, rfl, ⟨F, h1, h2, h3⟩, h4⟩ | ⟨rfl, h1, h2, h3, h4⟩
  · refine .inl ⟨g, rfl, ⟨F, h1.keep c (fun k e f => h2 k f (hS k e)), fun k e d => ?_, fun k d => ?_⟩, h4⟩
    · rcases hD k d with x | x
      · exact h2 k e x
      · have := h1.lt k e; omega
    · rcases hD k d with x | x
      · exact Nat.lt_of_lt_of_le (h3 k x) c.size
      · exact x.2
  · refine .inr ⟨rfl, h1, h2, h3, fun k d => ?_⟩
    rcases hD k d with x | x
    · exact Nat.lt_of_lt_of_le (h4 k x) c.size
    · exact x.2
theorem any_new (most : Int) (w : World) (D : Nat → Prop) (hD : ∀ k, D k → k < w.heap.size) (hm : 1 ≤ most ∧ most ≤ 1000) :
    Calls Try.prog 11 #[.int .i64 most] w fun e w' => ∃ g, e = .returned (.pointer (some ⟨g, 0, none⟩)) ∧ Any w' (.pointer (some ⟨g, 0, none⟩)) (fun _ => none) most 0 0 D ∧ Kept w w' D :=
  (held_new most w hm.1 hm.2 D hD).mono fun _ _ ⟨g, e, h, k⟩ => ⟨g, e, .inl ⟨g, rfl, h, hm.2⟩, k⟩
theorem any_none (most : Int) (w : World) (D : Nat → Prop) (hD : ∀ k, D k → k < w.heap.size) (hm : most < 1 ∨ 1000 < most) :
    Calls Try.prog 11 #[.int .i64 most] w fun e w' => e = .returned (.pointer none) ∧ Any w' (.pointer none) (fun _ => none) 0 0 0 D ∧ Kept w w' D :=
  (new_nil most w hm).mono fun _ _ ⟨e, b⟩ => ⟨e, .inr ⟨rfl, rfl, rfl, rfl, fun k e => Nat.lt_of_lt_of_le (hD k e) b.size⟩, Kept.of_below b⟩
theorem Any.push (h : Any w hv C most n N D) (hN : N < 3000000000000000000) (k p : Int) (hk : (Lit.int .i64 k).wf = true) :
    Calls Try.prog 13 #[hv, .int .i64 k, .int .i64 p] w fun e w' => ∃ n' N', e = .returned (.int .i64 (pushR C k n most)) ∧ Any w' hv (pushC C k p n most) most n' N' D ∧ Kept w w' D ∧ N' ≤ N + 4000000 ∧ n' ≤ n + 1 ∧ (C k = none ∧ (n : Int) < most → n' = n + 1) ∧ (¬ (C k = none ∧ (n : Int) < most) → n' = n) := by
  rcases h with ⟨g, rfl, h, h2⟩ | ⟨rfl, rfl, rfl, rfl, h4⟩
  · by_cases hc : C k = none
    · by_cases hn : (n : Int) < most
      · refine (h.push_ok hN h2 k p hk hc hn).mono ?_
        rintro e w' ⟨rfl, H, K⟩
        exact ⟨_, _, by unfold pushR; rw [if_neg (fun e => e hc), if_neg (by omega)], by unfold pushC; rw [if_pos ⟨hc, hn⟩]; exact .inl ⟨g, rfl, H, h2⟩, K, by omega, by omega, fun _ => rfl, fun e => absurd ⟨hc, hn⟩ e⟩
      · refine (h.push_full k p hk hc (by omega)).mono ?_
        rintro e w' ⟨rfl, B⟩
        exact ⟨n, N, by unfold pushR; rw [if_neg (fun e => e hc), if_pos (by omega)], by unfold pushC; rw [if_neg (fun e => hn e.2)]; exact .inl ⟨g, rfl, h.below B, h2⟩, Kept.of_below B, by omega, by omega, fun e => absurd e.2 hn, fun _ => rfl⟩
    · refine (h.push_there k p hk hc).mono ?_
      rintro e w' ⟨rfl, rfl⟩
      exact ⟨n, N, by unfold pushR; rw [if_pos hc], by unfold pushC; rw [if_neg (fun e => hc e.1)]; exact .inl ⟨g, rfl, h, h2⟩, Kept.refl _ _, by omega, by omega, fun e => absurd e.1 hc, fun _ => rfl⟩
  · refine (push_nil w k p).mono ?_
    rintro e w' ⟨rfl, B⟩
    exact ⟨0, N, by unfold pushR; rw [if_neg (fun e => e rfl), if_pos (by omega)], by unfold pushC; rw [if_neg (fun e => by have := e.2; omega)]; exact .inr ⟨rfl, rfl, rfl, rfl, fun k e => Nat.lt_of_lt_of_le (h4 k e) B.size⟩, Kept.of_below B, by omega, by omega, fun e => absurd e.2 (by omega), fun _ => rfl⟩
theorem Any.pop (h : Any w hv C most n N D) (hN : N < 3000000000000000000) (hn : n ≤ 1000000) :
    Calls Try.prog 15 #[hv] w fun e w' => ∃ k p b C' N', e = .returned (.tuple #[.agg #[.int .i64 k, .int .i64 p], .bool b]) ∧ TopIs C n k p b ∧ Any w' hv C' most (n - 1) N' D ∧ Kept w w' D ∧ C' = (if b then upd C k none else C) ∧ N' ≤ N + 4000010 := by
  rcases h with ⟨g, rfl, h, h2⟩ | ⟨rfl, rfl, rfl, rfl, h4⟩
  · refine (h.pop_any hN hn).mono ?_
    rintro e w' ⟨k, p, b, C', N', rfl, T, -, H, K, hC, hN'⟩
    exact ⟨k, p, b, C', N', rfl, T, .inl ⟨g, rfl, H, h2⟩, K, hC, hN'⟩
  · refine (pop_nil w).mono ?_
    rintro e w' ⟨rfl, B⟩
    exact ⟨0, 0, false, _, N, rfl, .inl ⟨rfl, rfl, rfl, rfl⟩, .inr ⟨rfl, rfl, rfl, rfl, fun k e => Nat.lt_of_lt_of_le (h4 k e) B.size⟩, Kept.of_below B, rfl, by omega⟩
theorem Any.top (h : Any w hv C most n N D) :
    Calls Try.prog 23 #[hv] w fun e w' => ∃ k p b, e = .returned (.tuple #[.agg #[.int .i64 k, .int .i64 p], .bool b]) ∧ TopIs C n k p b ∧ Any w' hv C most n N D ∧ Kept w w' D := by
  rcases h with ⟨g, rfl, h, h2⟩ | ⟨rfl, rfl, rfl, rfl, h4⟩
  · refine h.top_any.mono ?_
    rintro e w' ⟨k, p, b, rfl, T, -, H, K⟩
    exact ⟨k, p, b, rfl, T, .inl ⟨g, rfl, H, h2⟩, K⟩
  · refine (top_nil w).mono ?_
    rintro e w' ⟨rfl, B⟩
    exact ⟨0, 0, false, rfl, .inl ⟨rfl, rfl, rfl, rfl⟩, .inr ⟨rfl, rfl, rfl, rfl, fun k e => Nat.lt_of_lt_of_le (h4 k e) B.size⟩, Kept.of_below B⟩
theorem Any.change (h : Any w hv C most n N D) (hN : N < 3000000000000000000) (hn : n ≤ 1000000) (k p : Int) (hk : (Lit.int .i64 k).wf = true) :
    Calls Try.prog 17 #[hv, .int .i64 k, .int .i64 p] w fun e w' => ∃ N', e = .returned (.bool (C k).isSome) ∧ Any w' hv (chg C k p) most n N' D ∧ Kept w w' D ∧ N' ≤ N + 4000000 := by
  rcases h with ⟨g, rfl, h, h2⟩ | ⟨rfl, rfl, rfl, rfl, h4⟩
  · refine (h.change_any hN hn k p hk).mono ?_
    rintro e w' ⟨N', rfl, H, K, hN'⟩
    exact ⟨N', rfl, .inl ⟨g, rfl, H, h2⟩, K, hN'⟩
  · refine (change_nil w k p).mono ?_
    rintro e w' ⟨rfl, rfl⟩
    exact ⟨N, rfl, by rw [chg_none rfl]; exact .inr ⟨rfl, rfl, rfl, rfl, h4⟩, Kept.refl _ _, by omega⟩
theorem Any.remove (h : Any w hv C most n N D) (hN : N < 3000000000000000000) (hn : n ≤ 1000000) (k : Int) (hk : (Lit.int .i64 k).wf = true) :
    Calls Try.prog 19 #[hv, .int .i64 k] w fun e w' => ∃ n' N', e = .returned (.bool (C k).isSome) ∧ Any w' hv (upd C k none) most n' N' D ∧ Kept w w' D ∧ N' ≤ N + 4000010 ∧ n' ≤ n ∧ (C k ≠ none → n' + 1 = n) ∧ (C k = none → n' = n) := by
  rcases h with ⟨g, rfl, h, h2⟩ | ⟨rfl, rfl, rfl, rfl, h4⟩
  · refine (h.remove_any hN hn k hk).mono ?_
    rintro e w' ⟨n', N', rfl, H, K, h5, h6, h7, h8⟩
    exact ⟨n', N', rfl, .inl ⟨g, rfl, H, h2⟩, K, h5, h6, h7, h8⟩
  · refine (remove_nil w k).mono ?_
    rintro e w' ⟨rfl, rfl⟩
    exact ⟨0, N, rfl, by rw [upd_none rfl]; exact .inr ⟨rfl, rfl, rfl, rfl, h4⟩, Kept.refl _ _, by omega, by omega, fun e => absurd rfl e, fun _ => rfl⟩
theorem Any.prio (h : Any w hv C most n N D) (k : Int) (hk : (Lit.int .i64 k).wf = true) :
    Calls Try.prog 21 #[hv, .int .i64 k] w fun e w' => e = .returned (.tuple #[.int .i64 ((C k).getD 0), .bool (C k).isSome]) ∧ w = w' := by
  rcases h with ⟨g, rfl, h, h2⟩ | ⟨rfl, rfl, rfl, rfl, h4⟩
  · exact h.prio k hk
  · exact prio_nil w k
theorem Any.len (h : Any w hv C most n N D) :
    Calls Try.prog 25 #[hv] w fun e w' => e = .returned (.int .i64 n) ∧ w = w' := by
  rcases h with ⟨g, rfl, h, h2⟩ | ⟨rfl, rfl, rfl, rfl, h4⟩
  · exact h.len
  · exact len_nil w
theorem Any.all (h : Any w hv C most n N D) (hn : n ≤ 1000000) :
    Calls Try.prog 27 #[hv] w fun e w' => ∃ v ys D', e = .returned v ∧ SortedOf C ys ∧ ys.length = n ∧ Its w' D' v ys ∧ Any w' hv C most n N D' ∧ (∀ k, D k → D' k) ∧ Kept w w' D := by
  rcases h with ⟨g, rfl, h, h2⟩ | ⟨rfl, rfl, rfl, rfl, h4⟩
  · refine (h.all_its hn).mono ?_
    rintro e w' ⟨v, ys, D', rfl, S, hl, I, H, hD, K⟩
    exact ⟨v, ys, D', rfl, S, hl, I, .inl ⟨g, rfl, H, h2⟩, hD, K⟩
  · refine (all_nil w).mono ?_
    rintro e w' ⟨rfl, rfl⟩
    exact ⟨_, [], D, rfl, SortedOf.start, rfl, ⟨none, 0, rfl, Nat.zero_le _, fun i hi => absurd hi (by simp)⟩, .inr ⟨rfl, rfl, rfl, rfl, h4⟩, fun k e => e, Kept.refl _ _⟩
end

/-- Lengths of sorted lists. -/
theorem len_ins {C : Int → Option Int} {xs ys : List Itm} {k p : Int} (h : SortedOf C xs) (hk : C k = none) (hw : (Lit.int .i64 k).wf = true) (g : SortedOf (upd C k (some p)) ys) : ys.length = xs.length + 1 := by
  obtain ⟨c, hc, h1, h2⟩ := h.cut k hk
  rw [SortedOf.unique g (h.ins k p hk hw c hc h1 h2)]
  simp; omega
theorem len_del {C : Int → Option Int} {xs ys : List Itm} {k : Int} (h : SortedOf C xs) (g : SortedOf (upd C k none) ys) : (C k ≠ none → ys.length + 1 = xs.length) ∧ (C k = none → ys.length = xs.length) := by
  obtain ⟨i0, h0, hf, he, hS, hN⟩ := h.find k
  rw [SortedOf.unique g (h.del k i0 h0 hf he), List.length_eraseIdx]
  refine ⟨fun e => ?_, fun e => ?_⟩
  · have hi : i0 < xs.length := by
      by_cases x : i0 = xs.length
      · exact absurd (hN x) e
      · omega
    rw [if_pos hi]; omega
  · rw [if_neg (fun x => by have := hS x; rw [e] at this; cases this)]
theorem len_turn {C : Int → Option Int} {xs ys : List Itm} {k p : Int} (h : SortedOf C xs) (g : SortedOf (chg C k p) ys) : ys.length = xs.length := by
  obtain ⟨i0, h0, hf, he, hS, hN⟩ := h.find k
  by_cases hi : i0 < xs.length
  · rw [SortedOf.unique g (h.turn k p i0 hi (he hi)), List.length_set]
  · rw [chg_none (hN (by omega))] at g
    rw [SortedOf.unique g h]

/-- The two heaps, and blocks E that are neither's. -/
def St (w : World) (hv : Value) (r : Nat) (C : Int → Option Int) (xs : List Itm) (most : Int) (n N : Nat) (E : Nat → Prop) : Prop :=
  ∃ D G, Any w hv C most n N D ∧ IsRef w r xs most G ∧ (∀ k, G k → D k) ∧ ∀ k, E k → D k ∧ ¬ G k
section
variable {w : World} {hv : Value} {r : Nat} {C : Int → Option Int} {xs : List Itm} {most : Int} {n N : Nat} {E : Nat → Prop}
theorem St.lt (h : St w hv r C xs most n N E) : ∀ k, E k → k < w.heap.size := by
  obtain ⟨D, G, h1, h2, h3, h4⟩ := h
  exact fun k e => h1.lt k (h4 k e).1
theorem St.below {w' : World} (h : St w hv r C xs most n N E) (b : Below w.heap.size w w') : St w' hv r C xs most n N E := by
  obtain ⟨D, G, h1, h2, h3, h4⟩ := h
  exact ⟨D, G, h1.below b, h2.below b, h3, h4⟩
theorem St.less {E' : Nat → Prop} (h : St w hv r C xs most n N E) (he : ∀ k, E' k → E k) : St w hv r C xs most n N E' := by
  obtain ⟨D, G, h1, h2, h3, h4⟩ := h
  exact ⟨D, G, h1, h2, h3, fun k e => h4 k (he k e)⟩
theorem St.alloc (h : St w hv r C xs most n N E) (o : Obj) : St (w.alloc o) hv r C xs most n N (fun k => E k ∨ k = w.heap.size) := by
  have b : Below w.heap.size w (w.alloc o) := by apply below_alloc; exact Below.refl _ _
  obtain ⟨D, G, h1, h2, h3, h4⟩ := h
  refine ⟨fun k => D k ∨ k = w.heap.size, G, h1.turned (Chg.of_below b (fun _ => False)) (fun _ e => e.elim) ?_, h2.below b, fun k e => .inl (h3 k e), ?_⟩
  · rintro k (e | rfl)
    · exact .inl e
    · exact .inr ⟨Nat.le_refl _, by simp⟩
  · rintro k (e | rfl)
    · exact ⟨.inl (h4 k e).1, (h4 k e).2⟩
    · exact ⟨.inr rfl, fun g => absurd (h2.lt _ g) (by omega)⟩
theorem St.set (h : St w hv r C xs most n N E) (B i : Nat) (u : Value) (hB : E B) : St (w.setCell ⟨B, i, none⟩ u) hv r C xs most n N E := by
  obtain ⟨D, G, h1, h2, h3, h4⟩ := h
  refine ⟨D, G, h1.set B i u (h4 B hB).1, h2.keep ((Chg.refl w (fun k => k = B)).setCell (.inl rfl) u) (fun k e g => ?_), h3, h4⟩
  subst e; exact (h4 _ hB).2 g
/-- What a step of the program's heap does. -/
theorem St.step (h : St w hv r C xs most n N E) : ∃ D, Any w hv C most n N D ∧ ∀ w' C' n' N', Any w' hv C' most n' N' D → Kept w w' D → St w' hv r C' xs most n' N' E ∧ Kept w w' E := by
  obtain ⟨D, G, h1, h2, h3, h4⟩ := h
  exact ⟨D, h1, fun w' C' n' N' a k => ⟨⟨D, G, a, h2.keep k (fun q e g => e (h3 q g)), h3, h4⟩, k.mono (fun q e => (h4 q e).1)⟩⟩
/-- What a step of the document's heap does. -/
theorem St.rstep (h : St w hv r C xs most n N E) : ∃ G, IsRef w r xs most G ∧ ∀ w' xs', RPost w w' r xs' most G → St w' hv r C xs' most n N E ∧ Kept w w' E := by
  obtain ⟨D, G, h1, h2, h3, h4⟩ := h
  refine ⟨G, h2, fun w' xs' p => ?_⟩
  obtain ⟨G', p1, p2, p3⟩ := p
  refine ⟨⟨fun k => D k ∨ G' k, G', h1.turned p2 h3 ?_, p1, fun k e => .inr e, fun k e => ⟨.inl (h4 k e).1, fun g => ?_⟩⟩, p2.mono (fun k g => .inl (fun e => (h4 k e).2 g))⟩
  · rintro k (d | g)
    · exact .inl d
    · rcases p3 k g with x | x
      · exact .inl (h3 k x)
      · exact .inr x
  · rcases p3 k g with x | x
    · exact (h4 k e).2 x
    · have := h1.lt k (h4 k e).1; omega
theorem St.all (h : St w hv r C xs most n N E) (hn : n ≤ 1000000) :
    Calls Try.prog 27 #[hv] w fun e w' => ∃ v ys D', e = .returned v ∧ SortedOf C ys ∧ ys.length = n ∧ Its w' D' v ys ∧ St w' hv r C xs most n N E ∧ Kept w w' E := by
  obtain ⟨D, G, h1, h2, h3, h4⟩ := h
  refine (h1.all hn).mono ?_
  rintro e w' ⟨v, ys, D', rfl, S, hl, I, H, hD, K⟩
  exact ⟨v, ys, D', rfl, S, hl, I, ⟨D', G, H, h2.keep K (fun q e g => e (h3 q g)), fun k g => hD k (h3 k g), fun k e => ⟨hD k (h4 k e).1, (h4 k e).2⟩⟩, K.mono (fun q e => (h4 q e).1)⟩
end
end Go.Proofs.Ytmihpgdpgacgcaa.HeapC
