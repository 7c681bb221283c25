/- A heap that somebody holds, beside blocks that are another's: what the methods do, once more. -/
import Derived.Test.YtclekakhgaggdaaHeapO
namespace Go.Proofs.Ytclekakhgaggdaa.HeapC
open Go.RowKit Go.Proofs.Ytclekakhgaggdaa.HeapT Go.Proofs.Ytclekakhgaggdaa.HeapM Go.Proofs.YtclekakhgaggdaaW.PrintWords Go.Proofs.YtclekakhgaggdaaW.PrintLast Go.Proofs.YtclekakhgaggdaaW.PrintMore
set_option linter.unusedVariables false
set_option linter.unusedSimpArgs false

/-- A heap at g, none of whose blocks is one of D. -/
def Held (w : World) (g : Nat) (C : Int → Option Int) (most : Int) (n N : Nat) (D : Nat → Prop) : Prop :=
  ∃ F, IsHeap w g C most n N F ∧ (∀ k, F k → ¬ D k) ∧ ∀ k, D k → k < w.heap.size
/-- What is no block of D may have turned. -/
def Kept (w w' : World) (D : Nat → Prop) : Prop := Chg w w' (fun k => ¬ D k)

theorem Kept.refl (w : World) (D : Nat → Prop) : Kept w w D := Chg.refl _ _
theorem Kept.trans {w w1 w2 : World} {D : Nat → Prop} (h : Kept w w1 D) (k : Kept w1 w2 D) : Kept w w2 D := Chg.trans h k (fun _ e => .inl e)
theorem Kept.of_below {w w' : World} {D : Nat → Prop} (h : Below w.heap.size w w') : Kept w w' D := Chg.of_below h _
theorem Kept.blk {w w' : World} {D : Nat → Prop} (h : Kept w w' D) {b : Nat} {o : Obj} (hb : w.heap[b]? = some o) (hd : D b) : w'.heap[b]? = some o := Chg.blk h hb (fun e => e hd)
theorem Kept.cell {w w' : World} {D : Nat → Prop} (h : Kept w w' D) {b : Nat} (hb : b < w.heap.size) (hd : D b) (off : Nat) : w'.cell? ⟨b, off, none⟩ = w.cell? ⟨b, off, none⟩ := Chg.cell h hb (fun e => e hd) off
theorem Kept.frozen {w w' : World} {D : Nat → Prop} (h : Kept w w' D) {b : Nat} (hb : b < w.heap.size) (hd : D b) (off : Nat) : w'.frozen? ⟨b, off, none⟩ = w.frozen? ⟨b, off, none⟩ := Chg.frozen h hb (fun e => e hd) off
theorem Kept.mono {w w' : World} {D D' : Nat → Prop} (h : Kept w w' D) (hd : ∀ k, D' k → D k) : Kept w w' D' := Chg.mono h (fun k e => .inl fun d => e (hd k d))
theorem Kept.below {w w' : World} {D : Nat → Prop} {B : Nat} (h : Kept w w' D) (hB : B ≤ w.heap.size) (hd : ∀ k, k < B → D k) : Below B w w' :=
  ⟨h.os, h.tape, h.output, h.size, fun k hk => h.block k (by omega) (fun e => e (hd k hk))⟩
theorem Kept.set {w w' : World} {D : Nat → Prop} (h : Kept w w' D) (B i : Nat) (u : Value) (hB : ¬ D B) : Kept w (w'.setCell ⟨B, i, none⟩ u) D := Chg.setCell h (.inl hB) u
theorem Kept.alloc {w w' : World} {D : Nat → Prop} (h : Kept w w' D) (o : Obj) : Kept w (w'.alloc o) D := Chg.alloc h o
theorem Kept.drew {w w' : World} {D : Nat → Prop} (h : Kept w w' D) : Kept w w'.drew D := Chg.drew h

theorem Held.below {w w' : World} {g : Nat} {C : Int → Option Int} {most : Int} {n N : Nat} {D : Nat → Prop} (h : Held w g C most n N D) (b : Below w.heap.size w w') : Held w' g C most n N D := by
  obtain ⟨F, h1, h2, h3⟩ := h
  exact ⟨F, h1.below b, h2, fun k e => Nat.lt_of_lt_of_le (h3 k e) b.size⟩
theorem Held.drew {w : World} {g : Nat} {C : Int → Option Int} {most : Int} {n N : Nat} {D : Nat → Prop} (h : Held w g C most n N D) : Held w.drew g C most n N D := h.below (by apply below_drew1; exact Below.refl _ _)
theorem Held.alloc {w : World} {g : Nat} {C : Int → Option Int} {most : Int} {n N : Nat} {D : Nat → Prop} (h : Held w g C most n N D) (o : Obj) : Held (w.alloc o) g C most n N (fun k => D k ∨ k = w.heap.size) := by
  obtain ⟨F, h1, h2, h3⟩ := h
  refine ⟨F, h1.below (by apply below_alloc; exact Below.refl _ _), ?_, ?_⟩
  · rintro k e (d | rfl)
    · exact h2 k e d
    · exact absurd (h1.lt _ e) (by omega)
  · rintro k (d | rfl)
    · have := h3 k d; simp; omega
    · simp
theorem Held.less {w : World} {g : Nat} {C : Int → Option Int} {most : Int} {n N : Nat} {D D' : Nat → Prop} (h : Held w g C most n N D) (hd : ∀ k, D' k → D k) : Held w g C most n N D' := by
  obtain ⟨F, h1, h2, h3⟩ := h
  exact ⟨F, h1, fun k e d => h2 k e (hd k d), fun k e => h3 k (hd k e)⟩
theorem Held.more {w : World} {g : Nat} {C : Int → Option Int} {most : Int} {n N N' : Nat} {D : Nat → Prop} (h : Held w g C most n N D) (hN : N ≤ N') : Held w g C most n N' D := by
  obtain ⟨F, ⟨⟨mb, v, xs, M, m, r⟩, hl⟩, h2, h3⟩ := h
  exact ⟨F, ⟨⟨mb, v, xs, M, ⟨m.head, m.row, m.map.mono hN, m.gm, m.vg, m.vm⟩, r⟩, hl⟩, h2, h3⟩
theorem Held.lt {w : World} {g : Nat} {C : Int → Option Int} {most : Int} {n N : Nat} {D : Nat → Prop} (h : Held w g C most n N D) : ∀ k, D k → k < w.heap.size := by
  obtain ⟨F, h1, h2, h3⟩ := h; exact h3
/-- A store into a block of D. -/
theorem Held.set {w : World} {g : Nat} {C : Int → Option Int} {most : Int} {n N : Nat} {D : Nat → Prop} (h : Held w g C most n N D) (B i : Nat) (u : Value) (hB : D B) : Held (w.setCell ⟨B, i, none⟩ u) g C most n N D := by
  obtain ⟨F, h1, h2, h3⟩ := h
  refine ⟨F, h1.keep ((Chg.refl w (fun k => k = B)).setCell (.inl rfl) u) ?_, h2, fun k e => by have := h3 k e; simpa [World.setCell] using this⟩
  rintro k rfl e
  exact h2 _ e hB
theorem Held.post {w w' : World} {g : Nat} {C C' : Int → Option Int} {most : Int} {n N n' N' : Nat} {D : Nat → Prop} {F : Nat → Prop} (h2 : ∀ k, F k → ¬ D k) (h3 : ∀ k, D k → k < w.heap.size) (p : HPost w w' g C' most n' N' F) : Held w' g C' most n' N' D ∧ Kept w w' D := by
  obtain ⟨F', p1, p2, p3⟩ := p
  refine ⟨⟨F', p1, fun k e d => ?_, fun k e => Nat.lt_of_lt_of_le (h3 k e) p2.size⟩, p2.mono (fun k e => .inl (h2 k e))⟩
  rcases p3 k e with f | f
  · exact h2 k f d
  · have := h3 k d; omega

section
variable {w : World} {g : Nat} {C : Int → Option Int} {most : Int} {n N : Nat} {D : Nat → Prop}
theorem held_new (most : Int) (w : World) (h0 : 1 ≤ most) (h1 : most ≤ 1000) (D : Nat → Prop) (hD : ∀ k, D k → k < w.heap.size) :
    Calls Try.prog 22 #[.int .i64 most] w fun e w' => ∃ g, e = .returned (.pointer (some ⟨g, 0, none⟩)) ∧ Held w' g (fun _ => none) most 0 0 D ∧ Kept w w' D :=
  (new_calls most w h0 h1).mono fun _ _ ⟨g, F, e, h, b, f⟩ => ⟨g, e, ⟨F, h, fun k e d => by have := f k e; have := hD k d; omega, fun k e => Nat.lt_of_lt_of_le (hD k e) b.size⟩, Kept.of_below b⟩
theorem Held.push_ok (h : Held w g C most n N D) (hN : N < 3000000000000000000) (hm1 : most ≤ 1000) (k p : Int) (hk : (Lit.int .i64 k).wf = true) (hc : C k = none) (hn : n < most) :
    Calls Try.prog 26 #[.pointer (some ⟨g, 0, none⟩), .int .i64 k, .int .i64 p] w fun e w' => e = .returned (.int .i64 0) ∧ Held w' g (upd C k (some p)) most (n + 1) (N + 4000000) D ∧ Kept w w' D := by
  obtain ⟨F, h1, h2, h3⟩ := h
  exact (HeapC.push_ok w g C most n N F h1 hN hm1 k p hk hc hn).mono fun _ _ ⟨e, q⟩ => ⟨e, Held.post (C := C) (n := n) (N := N) h2 h3 q⟩
theorem Held.push_there (h : Held w g C most n N D) (k p : Int) (hk : (Lit.int .i64 k).wf = true) (hc : C k ≠ none) :
    Calls Try.prog 26 #[.pointer (some ⟨g, 0, none⟩), .int .i64 k, .int .i64 p] w fun e w' => e = .returned (.int .i64 1) ∧ w = w' := by
  obtain ⟨F, h1, h2, h3⟩ := h
  exact HeapC.push_there w g C most n N F h1 k p hk hc
theorem Held.push_full (h : Held w g C most n N D) (k p : Int) (hk : (Lit.int .i64 k).wf = true) (hc : C k = none) (hn : most ≤ n) :
    Calls Try.prog 26 #[.pointer (some ⟨g, 0, none⟩), .int .i64 k, .int .i64 p] w fun e w' => e = .returned (.int .i64 50) ∧ Below w.heap.size w w' := by
  obtain ⟨F, h1, h2, h3⟩ := h
  exact HeapC.push_full w g C most n N F h1 k p hk hc hn
theorem Held.pop_none (h : Held w g C most 0 N D) :
    Calls Try.prog 31 #[.pointer (some ⟨g, 0, none⟩)] w fun e w' => e = .returned (.tuple #[.agg #[.int .i64 0, .int .i64 0], .bool false]) ∧ Below w.heap.size w w' := by
  obtain ⟨F, h1, h2, h3⟩ := h
  exact HeapC.pop_none w g C most N F h1
theorem Held.pop_some (h : Held w g C most n N D) (hN : N < 3000000000000000000) (hn : n ≤ 1000000) (hn0 : 0 < n) :
    ∃ k p, Most C k p ∧ (Lit.int .i64 k).wf = true ∧ Calls Try.prog 31 #[.pointer (some ⟨g, 0, none⟩)] w fun e w' => e = .returned (.tuple #[.agg #[.int .i64 k, .int .i64 p], .bool true]) ∧ Held w' g (upd C k none) most (n - 1) (N + 4000010) D ∧ Kept w w' D := by
  obtain ⟨F, h1, h2, h3⟩ := h
  obtain ⟨k, p, a, b, c⟩ := HeapC.pop_some w g C most n N F h1 hN hn hn0
  exact ⟨k, p, a, b, c.mono fun _ _ ⟨e, q⟩ => ⟨e, Held.post (C := C) (n := n) (N := N) h2 h3 q⟩⟩
theorem Held.top_none (h : Held w g C most 0 N D) :
    Calls Try.prog 44 #[.pointer (some ⟨g, 0, none⟩)] w fun e w' => e = .returned (.tuple #[.agg #[.int .i64 0, .int .i64 0], .bool false]) ∧ Below w.heap.size w w' := by
  obtain ⟨F, h1, h2, h3⟩ := h
  exact HeapC.top_none w g C most N F h1
theorem Held.top_some (h : Held w g C most n N D) (hn : 0 < n) :
    ∃ k p, Most C k p ∧ (Lit.int .i64 k).wf = true ∧ Calls Try.prog 44 #[.pointer (some ⟨g, 0, none⟩)] w fun e w' => e = .returned (.tuple #[.agg #[.int .i64 k, .int .i64 p], .bool true]) ∧ Below w.heap.size w w' := by
  obtain ⟨F, h1, h2, h3⟩ := h
  exact HeapC.top_some w g C most n N F h1 hn
theorem Held.change_none (h : Held w g C most n N D) (k p : Int) (hk : (Lit.int .i64 k).wf = true) (hc : C k = none) :
    Calls Try.prog 25 #[.pointer (some ⟨g, 0, none⟩), .int .i64 k, .int .i64 p] w fun e w' => e = .returned (.bool false) ∧ w = w' := by
  obtain ⟨F, h1, h2, h3⟩ := h
  exact HeapC.change_none w g C most n N F h1 k p hk hc
theorem Held.change_some (h : Held w g C most n N D) (hN : N < 3000000000000000000) (hn : n ≤ 1000000) (k p : Int) (hk : (Lit.int .i64 k).wf = true) (hc : C k ≠ none) :
    Calls Try.prog 25 #[.pointer (some ⟨g, 0, none⟩), .int .i64 k, .int .i64 p] w fun e w' => e = .returned (.bool true) ∧ Held w' g (upd C k (some p)) most n (N + 4000000) D ∧ Kept w w' D := by
  obtain ⟨F, h1, h2, h3⟩ := h
  exact (HeapC.change_some w g C most n N F h1 hN hn k p hk hc).mono fun _ _ ⟨e, q⟩ => ⟨e, Held.post (C := C) (n := n) (N := N) h2 h3 q⟩
theorem Held.remove_none (h : Held w g C most n N D) (k : Int) (hk : (Lit.int .i64 k).wf = true) (hc : C k = none) :
    Calls Try.prog 34 #[.pointer (some ⟨g, 0, none⟩), .int .i64 k] w fun e w' => e = .returned (.bool false) ∧ w = w' := by
  obtain ⟨F, h1, h2, h3⟩ := h
  exact HeapC.remove_none w g C most n N F h1 k hk hc
theorem Held.remove_some (h : Held w g C most n N D) (hN : N < 3000000000000000000) (hn : n ≤ 1000000) (k : Int) (hk : (Lit.int .i64 k).wf = true) (hc : C k ≠ none) :
    Calls Try.prog 34 #[.pointer (some ⟨g, 0, none⟩), .int .i64 k] w fun e w' => e = .returned (.bool true) ∧ 0 < n ∧ Held w' g (upd C k none) most (n - 1) (N + 4000010) D ∧ Kept w w' D := by
  obtain ⟨F, h1, h2, h3⟩ := h
  exact (HeapC.remove_some w g C most n N F h1 hN hn k hk hc).mono fun _ _ ⟨e, e0, q⟩ => ⟨e, e0, Held.post (C := C) (n := n) (N := N) h2 h3 q⟩
theorem Held.prio (h : Held w g C most n N D) (k : Int) (hk : (Lit.int .i64 k).wf = true) :
    Calls Try.prog 24 #[.pointer (some ⟨g, 0, none⟩), .int .i64 k] w fun e w' => e = .returned (.tuple #[.int .i64 ((C k).getD 0), .bool (C k).isSome]) ∧ w = w' := by
  obtain ⟨F, h1, h2, h3⟩ := h
  exact prio_calls w g C most n N F h1 k hk
theorem Held.len (h : Held w g C most n N D) :
    Calls Try.prog 56 #[.pointer (some ⟨g, 0, none⟩)] w fun e w' => e = .returned (.int .i64 n) ∧ w = w' := by
  obtain ⟨F, h1, h2, h3⟩ := h
  exact len_calls w g C most n N F h1
theorem Held.all (h : Held w g C most n N D) (hn : n ≤ 1000000) :
    Calls Try.prog 36 #[.pointer (some ⟨g, 0, none⟩)] w fun e w' => ∃ v ys, e = .returned v ∧ SortedOf C ys ∧ ys.length = n ∧ w'.ownsRow w.heap.size 63 2 v n (cellsL ys) ∧ Below w.heap.size w w' := by
  obtain ⟨F, h1, h2, h3⟩ := h
  exact all_calls w g C most n N F h1 hn
end
end Go.Proofs.Ytclekakhgaggdaa.HeapC
