/- A queue in memory: a heap, an age, a set of dirty ones. -/
import Derived.Test.YtclekakhgaggdaaQY
import Derived.Test.YtclekakhgaggdaaQueueM
namespace Go.Proofs.Ytclekakhgaggdaa.HeapC
open Go.RowKit Go.Proofs.Ytclekakhgaggdaa.HeapT Go.Proofs.Ytclekakhgaggdaa.HeapM Go.Proofs.Ytclekakhgaggdaa.QueueM Go.Proofs.YtclekakhgaggdaaW.PrintWords Go.Proofs.YtclekakhgaggdaaW.PrintLast Go.Proofs.YtclekakhgaggdaaW.PrintMore
set_option linter.unusedVariables false
set_option linter.unusedSimpArgs false
/-- A queue at q: its heap at g, its set at mb; none of its blocks is one of D. -/
structure QHeld (w : World) (q g mb : Nat) (C : Int → Option Int) (S : Int → Bool) (age most : Int) (n N : Nat) (D : Nat → Prop) : Prop where
  head : w.heap[q]? = some (.cells #[.pointer (some ⟨g, 0, none⟩), .int .i64 age, .map (some mb)] 55 (0, 0))
  heap : Held w g C most n N (fun k => D k ∨ k = q ∨ k = mb)
  set : ISet Try.prog 3 w mb N S
  nq : ¬ D q
  nm : ¬ D mb
  qm : q ≠ mb
section
variable {w : World} {q g mb : Nat} {C : Int → Option Int} {S : Int → Bool} {age most : Int} {n N : Nat} {D : Nat → Prop}
theorem QHeld.lt (h : QHeld w q g mb C S age most n N D) : (∀ k, D k → k < w.heap.size) ∧ q < w.heap.size ∧ mb < w.heap.size :=
  ⟨fun k d => h.heap.lt k (.inl d), h.heap.lt q (.inr (.inl rfl)), h.heap.lt mb (.inr (.inr rfl))⟩
theorem QHeld.below {w' : World} (h : QHeld w q g mb C S age most n N D) (b : Below w.heap.size w w') : QHeld w' q g mb C S age most n N D :=
  ⟨(b.block _ h.lt.2.1).trans h.head, h.heap.below b, h.set.congr (b.block _ h.lt.2.2), h.nq, h.nm, h.qm⟩
theorem QHeld.less {D' : Nat → Prop} (h : QHeld w q g mb C S age most n N D) (hd : ∀ k, D' k → D k) : QHeld w q g mb C S age most n N D' :=
  ⟨h.head, h.heap.less (fun k e => e.imp (hd k) id), h.set, fun e => h.nq (hd _ e), fun e => h.nm (hd _ e), h.qm⟩
theorem QHeld.more {N' : Nat} (h : QHeld w q g mb C S age most n N D) (e : N ≤ N') : QHeld w q g mb C S age most n N' D :=
  ⟨h.head, h.heap.more e, h.set.mono e, h.nq, h.nm, h.qm⟩
theorem QHeld.alloc (h : QHeld w q g mb C S age most n N D) (o : Obj) : QHeld (w.alloc o) q g mb C S age most n N (fun k => D k ∨ k = w.heap.size) := by
  have b : Below w.heap.size w (w.alloc o) := by apply below_alloc; exact Below.refl _ _
  have l := h.lt
  refine ⟨(b.block _ l.2.1).trans h.head, (h.heap.alloc o).less ?_, h.set.congr (b.block _ l.2.2), ?_, ?_, h.qm⟩
  · rintro k ((d | d) | d | d)
    · exact .inl (.inl d)
    · exact .inr d
    · exact .inl (.inr (.inl d))
    · exact .inl (.inr (.inr d))
  · rintro (d | d)
    · exact h.nq d
    · omega
  · rintro (d | d)
    · exact h.nm d
    · omega
/-- A step of the heap. -/
theorem QHeld.step {w' : World} {C' : Int → Option Int} {n' N' : Nat} (h : QHeld w q g mb C S age most n N D) (H : Held w' g C' most n' N' (fun k => D k ∨ k = q ∨ k = mb)) (K : Kept w w' (fun k => D k ∨ k = q ∨ k = mb)) (e : N ≤ N') :
    QHeld w' q g mb C' S age most n' N' D ∧ Kept w w' D :=
  ⟨⟨K.blk h.head (.inr (.inl rfl)), H, (h.set.congr (K.block _ h.lt.2.2 (fun f => f (.inr (.inr rfl))))).mono e, h.nq, h.nm, h.qm⟩, K.mono (fun k d => .inl d)⟩
/-- A step of the set. -/
theorem QHeld.turn {w' : World} {S' : Int → Bool} {N' : Nat} (h : QHeld w q g mb C S age most n N D) (H : ISet Try.prog 3 w' mb N' S') (K : w.grownBy w' (some mb)) (e : N ≤ N') :
    QHeld w' q g mb C S' age most n N' D ∧ Kept w w' D := by
  have c : Chg w w' (fun k => k = mb) := (Chg.refl w (fun k => k = mb)).grown K (fun k e => .inl (Option.some.inj e).symm)
  obtain ⟨F, h1, h2, h3⟩ := h.heap
  refine ⟨⟨c.blk h.head h.qm, ?_, H, h.nq, h.nm, h.qm⟩, c.mono (fun k e => .inl (fun d => h.nm (e ▸ d)))⟩
  exact Held.more (show Held w' g C most n N (fun k => D k ∨ k = q ∨ k = mb) from ⟨F, h1.keep c (fun k e f => h2 k f (.inr (.inr e))), h2, fun k d => Nat.lt_of_lt_of_le (h3 k d) c.size⟩) e
end
end Go.Proofs.Ytclekakhgaggdaa.HeapC
