/- Two queues side by side; rows of bools; counts. -/
import Derived.Test.YtclekakhgaggdaaQOnce
namespace Go.Proofs.Ytclekakhgaggdaa.HeapC
open Go.RowKit Go.Proofs.Ytclekakhgaggdaa.HeapT Go.Proofs.Ytclekakhgaggdaa.HeapM Go.Proofs.Ytclekakhgaggdaa.QueueM Go.Proofs.YtclekakhgaggdaaW.PrintWords Go.Proofs.YtclekakhgaggdaaW.PrintLast Go.Proofs.YtclekakhgaggdaaW.PrintMore
set_option linter.unusedVariables false
set_option linter.unusedSimpArgs false
/-- A row of M bools at block b. -/
def BRow (w : World) (b M : Nat) (f : Int → Bool) : Prop := ∃ cs T, w.heap[b]? = some (.cells cs T (0, 0)) ∧ ∀ j : Nat, j < M → cs[j]? = some (.bool (f j))
section
variable {w w' : World} {b M : Nat} {f : Int → Bool}
theorem BRow.cell (h : BRow w b M f) (j : Nat) (hj : j < M) : w.cell? ⟨b, j, none⟩ = some (.bool (f j)) := by
  obtain ⟨cs, T, h1, h2⟩ := h
  exact (HeapM.blk_cell h1 j).trans (h2 j hj)
theorem BRow.free (h : BRow w b M f) (j : Nat) : w.frozen? ⟨b, j, none⟩ = false := by
  obtain ⟨cs, T, h1, h2⟩ := h
  exact HeapM.blk_free h1 j
theorem BRow.lt (h : BRow w b M f) : b < w.heap.size := by
  obtain ⟨cs, T, h1, h2⟩ := h
  exact HeapM.blk_lt h1
theorem BRow.set (h : BRow w b M f) (j : Nat) (hj : j < M) (v : Bool) : BRow (w.setCell ⟨b, j, none⟩ (.bool v)) b M (sadd f j v) := by
  obtain ⟨cs, T, h1, h2⟩ := h
  have hs : j < cs.size := by
    have := h2 j hj
    exact (Array.getElem?_eq_some_iff.1 this).1
  refine ⟨_, T, blk_set_same h1 j _ hs, fun i hi => ?_⟩
  rw [Array.getElem?_setIfInBounds]
  unfold sadd
  by_cases e : j = i
  · subst e; rw [if_pos rfl, if_pos hs, if_pos rfl]
  · rw [if_neg e, if_neg (by omega)]; exact h2 i hi
theorem BRow.other (h : BRow w b M f) (p : Addr) (u : Value) (hne : b ≠ p.block) : BRow (w.setCell p u) b M f := by
  obtain ⟨cs, T, h1, h2⟩ := h
  exact ⟨cs, T, blk_set_other h1 p u hne, h2⟩
theorem BRow.kept {D : Nat → Prop} (h : BRow w b M f) (K : Kept w w' D) (d : D b) : BRow w' b M f := by
  obtain ⟨cs, T, h1, h2⟩ := h
  exact ⟨cs, T, K.blk h1 d, h2⟩
end
theorem made_bools (w : World) (M : Nat) (hM : M ≤ 1000) : ∃ Z : Array Value, (∀ j, j < M → Z[j]? = some (.bool false)) ∧ ∀ w0 : World, (Instr.makeSlice 47 (.int .i64 (M : Int)) (.int .i64 (M : Int))).run Try.prog w0 = .ok (.slice (some ⟨w0.heap.size, 0, none⟩) M M) (w0.alloc (.cells Z 4)) := by
  have h : (Try.prog.info? 4).map (fun i => (i.zero, i.size, i.bytes)) = some (some (.bool false), 1, 1) := by kernel_rfl
  obtain ⟨i, h1, h2⟩ := Option.map_eq_some_iff.1 h
  injection h2 with a b
  injection b with b c
  refine ⟨madeCells (Value.bool false).cells (M * i.size), fun j hj => ?_, fun w0 => ?_⟩
  · rw [b, Nat.mul_one]
    have e : j % 1 = 0 := by omega
    simp [madeCells, Value.cells, hj, e]
  · have := run_make (P := Try.prog) w0 47 4 i (.bool false) (by kernel_rfl) h1 a .i64 .i64 M M (by omega) (by omega) (by rw [c]; omega) (by omega)
    simpa using this
/-- A queue with its blocks P. -/
structure QIs (w : World) (q g mb : Nat) (C : Int → Option Int) (S : Int → Bool) (age most : Int) (n N : Nat) (P : Nat → Prop) : Prop where
  heap : ∃ F, IsHeap w g C most n N F ∧ ¬ F q ∧ ¬ F mb ∧ ∀ k, P k ↔ (F k ∨ k = q ∨ k = mb)
  head : w.heap[q]? = some (.cells #[.pointer (some ⟨g, 0, none⟩), .int .i64 age, .map (some mb)] 55 (0, 0))
  set : ISet Try.prog 3 w mb N S
  lm : mb < w.heap.size
  qm : q ≠ mb
  sr : ∀ x, S x = true → 0 ≤ x ∧ x < 1000
  sc : ∀ x, S x = true → C x = none
  ag : 1 ≤ age ∧ age ≤ 1000
  mo : 1 ≤ most ∧ most ≤ 1000
  nm : (n : Int) ≤ most
section
variable {w w' : World} {q g mb : Nat} {C : Int → Option Int} {S : Int → Bool} {age most : Int} {n N : Nat} {D P : Nat → Prop}
theorem QOk.is (h : QOk w q g mb C S age most n N D) : ∃ P, QIs w q g mb C S age most n N P ∧ (∀ k, P k → ¬ D k) ∧ ∀ k, D k → k < w.heap.size := by
  have l := h.held.lt
  obtain ⟨F, f1, f2, f3⟩ := h.held.heap
  refine ⟨fun k => F k ∨ k = q ∨ k = mb, ⟨⟨F, f1, fun e => f2 _ e (.inr (.inl rfl)), fun e => f2 _ e (.inr (.inr rfl)), fun k => Iff.rfl⟩, h.held.head, h.held.set, l.2.2, h.held.qm, h.sr, h.sc, h.ag, h.mo, h.nm⟩, ?_, l.1⟩
  rintro k (e | e | e) d
  · exact f2 k e (.inl d)
  · exact h.held.nq (e ▸ d)
  · exact h.held.nm (e ▸ d)
theorem QIs.lt (h : QIs w q g mb C S age most n N P) (k : Nat) (p : P k) : k < w.heap.size := by
  obtain ⟨F, f1, f2, f3, f4⟩ := h.heap
  rcases (f4 k).1 p with e | e | e
  · exact f1.lt k e
  · rw [e]; exact HeapM.blk_lt h.head
  · rw [e]; exact h.lm
theorem QIs.ok (h : QIs w q g mb C S age most n N P) (hd : ∀ k, P k → ¬ D k) (hl : ∀ k, D k → k < w.heap.size) : QOk w q g mb C S age most n N D := by
  obtain ⟨F, f1, f2, f3, f4⟩ := h.heap
  refine ⟨⟨h.head, ⟨F, f1, ?_, ?_⟩, h.set, fun e => hd q ((f4 q).2 (.inr (.inl rfl))) e, fun e => hd mb ((f4 mb).2 (.inr (.inr rfl))) e, h.qm⟩, h.sr, h.sc, h.ag, h.mo, h.nm⟩
  · rintro k e (d | d | d)
    · exact hd k ((f4 k).2 (.inl e)) d
    · exact f2 (d ▸ e)
    · exact f3 (d ▸ e)
  · rintro k (d | d | d)
    · exact hl k d
    · rw [d]; exact HeapM.blk_lt h.head
    · rw [d]; exact h.lm
theorem QIs.keep (h : QIs w q g mb C S age most n N P) (K : Kept w w' D) (hd : ∀ k, P k → D k) : QIs w' q g mb C S age most n N P := by
  obtain ⟨F, f1, f2, f3, f4⟩ := h.heap
  have dq := hd q ((f4 q).2 (.inr (.inl rfl)))
  have dm := hd mb ((f4 mb).2 (.inr (.inr rfl)))
  exact ⟨⟨F, f1.keep K (fun k e f => e (hd k ((f4 k).2 (.inl f)))), f2, f3, f4⟩, K.blk h.head dq, h.set.congr (K.block _ h.lm (fun f => f dm)), Nat.lt_of_lt_of_le h.lm K.size, h.qm, h.sr, h.sc, h.ag, h.mo, h.nm⟩
end
/-- Two queues that share no block, nor one with D. -/
def TwoQ (w : World) (q g m : Nat) (C : Int → Option Int) (S : Int → Bool) (most : Int) (n N : Nat) (q' g' m' : Nat) (C' : Int → Option Int) (S' : Int → Bool) (most' : Int) (n' N' : Nat) (D : Nat → Prop) : Prop :=
  ∃ P P', QIs w q g m C S 10 most n N P ∧ QIs w q' g' m' C' S' 10 most' n' N' P' ∧ (∀ k, P k → ¬ P' k) ∧ ∀ k, D k → ¬ P k ∧ ¬ P' k ∧ k < w.heap.size
section
variable {w w' : World} {q g m q' g' m' : Nat} {C C' : Int → Option Int} {S S' : Int → Bool} {most most' : Int} {n N n' N' : Nat} {D : Nat → Prop}
theorem TwoQ.swap (t : TwoQ w q g m C S most n N q' g' m' C' S' most' n' N' D) : TwoQ w q' g' m' C' S' most' n' N' q g m C S most n N D := by
  obtain ⟨F, G, a, b, c, d⟩ := t
  exact ⟨G, F, b, a, fun k e f => c k f e, fun k e => ⟨(d k e).2.1, (d k e).1, (d k e).2.2⟩⟩
theorem TwoQ.step (t : TwoQ w q g m C S most n N q' g' m' C' S' most' n' N' D) : ∃ D', QOk w q g m C S 10 most n N D' ∧ ∀ w' C1 S1 n1 N1, QOk w' q g m C1 S1 10 most n1 N1 D' → Kept w w' D' → TwoQ w' q g m C1 S1 most n1 N1 q' g' m' C' S' most' n' N' D ∧ Kept w w' D := by
  obtain ⟨F, G, a, b, c, d⟩ := t
  refine ⟨fun k => D k ∨ G k, a.ok ?_ ?_, fun w' C1 S1 n1 N1 H K => ?_⟩
  · rintro k e (f | f)
    · exact (d k f).1 e
    · exact c k e f
  · rintro k (f | f)
    · exact (d k f).2.2
    · exact b.lt k f
  · obtain ⟨F', p, q, r⟩ := H.is
    refine ⟨⟨F', G, p, b.keep K (fun k e => .inr e), fun k e f => q k e (.inr f), fun k e => ⟨fun f => q k f (.inl e), (d k e).2.1, r k (.inl e)⟩⟩, K.mono (fun k e => .inl e)⟩
theorem TwoQ.below (t : TwoQ w q g m C S most n N q' g' m' C' S' most' n' N' D) (b : Below w.heap.size w w') : TwoQ w' q g m C S most n N q' g' m' C' S' most' n' N' D := by
  obtain ⟨F, G, a, c, d, e⟩ := t
  have K : Kept w w' (fun _ => True) := Kept.of_below b
  exact ⟨F, G, a.keep K (fun _ _ => trivial), c.keep K (fun _ _ => trivial), d, fun k f => ⟨(e k f).1, (e k f).2.1, Nat.lt_of_lt_of_le (e k f).2.2 b.size⟩⟩
theorem TwoQ.alloc (t : TwoQ w q g m C S most n N q' g' m' C' S' most' n' N' D) (o : Obj) : TwoQ (w.alloc o) q g m C S most n N q' g' m' C' S' most' n' N' (fun k => D k ∨ k = w.heap.size) := by
  have b : Below w.heap.size w (w.alloc o) := by apply below_alloc; exact Below.refl _ _
  obtain ⟨F, G, a, c, d, e⟩ := t
  have K : Kept w (w.alloc o) (fun _ => True) := Kept.of_below b
  refine ⟨F, G, a.keep K (fun _ _ => trivial), c.keep K (fun _ _ => trivial), d, ?_⟩
  rintro k (f | rfl)
  · exact ⟨(e k f).1, (e k f).2.1, Nat.lt_of_lt_of_le (e k f).2.2 b.size⟩
  · exact ⟨fun f => absurd (a.lt _ f) (by omega), fun f => absurd (c.lt _ f) (by omega), by simp⟩
theorem TwoQ.less {D' : Nat → Prop} (t : TwoQ w q g m C S most n N q' g' m' C' S' most' n' N' D) (hd : ∀ k, D' k → D k) : TwoQ w q g m C S most n N q' g' m' C' S' most' n' N' D' := by
  obtain ⟨F, G, a, c, d, e⟩ := t
  exact ⟨F, G, a, c, d, fun k f => e k (hd k f)⟩
/-- A store into a block of D. -/
theorem TwoQ.set (t : TwoQ w q g m C S most n N q' g' m' C' S' most' n' N' D) (B i : Nat) (u : Value) (hB : D B) : TwoQ (w.setCell ⟨B, i, none⟩ u) q g m C S most n N q' g' m' C' S' most' n' N' D := by
  obtain ⟨F, G, a, c, d, e⟩ := t
  have K : Kept w (w.setCell ⟨B, i, none⟩ u) (fun k => k ≠ B) := (Kept.refl w _).set B i u (fun h => h rfl)
  exact ⟨F, G, a.keep K (fun k p h => (e B hB).1 (h ▸ p)), c.keep K (fun k p h => (e B hB).2.1 (h ▸ p)), d, fun k f => ⟨(e k f).1, (e k f).2.1, Nat.lt_of_lt_of_le (e k f).2.2 K.size⟩⟩
theorem TwoQ.fst (t : TwoQ w q g m C S most n N q' g' m' C' S' most' n' N' D) : QOk w q g m C S 10 most n N D := by
  obtain ⟨F, G, a, c, d, e⟩ := t
  exact a.ok (fun k p f => (e k f).1 p) (fun k f => (e k f).2.2)
/-- The second queue is made beside the first one. -/
theorem QOk.two (h : QOk w q g m C S 10 most n N D) (room : Int) (h0 : 1 ≤ room) (h1 : room ≤ 1000) :
    Calls Try.prog 10 #[.int .i64 room, .int .i64 10] w fun e w' => ∃ q' g' m', e = .returned (.pointer (some ⟨q', 0, none⟩)) ∧ TwoQ w' q g m C S most n N q' g' m' (fun _ => none) (fun _ => false) room 0 0 D ∧ Kept w w' D := by
  obtain ⟨P, p, d, l⟩ := h.is
  refine (qok_new room 10 w h0 h1 (by decide) (by decide) (fun k => D k ∨ P k) ?_).mono ?_
  · rintro k (e | e)
    · exact l k e
    · exact p.lt k e
  · rintro e w' ⟨q', g', m', rfl, H, K⟩
    obtain ⟨P', p', d', l'⟩ := H.is
    exact ⟨q', g', m', rfl, ⟨P, P', p.keep K (fun k e => .inr e), p', fun k e f => d' k f (.inr e), fun k e => ⟨fun f => d k f e, fun f => d' k f (.inl e), l' k (.inl e)⟩⟩, K.mono (fun k e => .inl e)⟩
end
/-! Counts. -/
def cntB (f : Int → Bool) : Nat := ((List.range 30).filter (fun (j : Nat) => f (j : Int))).length
theorem cnt_gen (f : Int → Bool) (k : Nat) (hf : f k = false) : ∀ m, ((List.range m).filter (fun (j : Nat) => sadd f k true (j : Int))).length = ((List.range m).filter (fun (j : Nat) => f (j : Int))).length + (if k < m then 1 else 0) := by
  intro m
  induction m with
  | zero => simp
  | succ m ih =>
    rw [List.range_succ, List.filter_append, List.filter_append, List.length_append, List.length_append, ih]
    by_cases e : m = k
    · subst e
      have h1 : sadd f (m : Int) true (m : Int) = true := by unfold sadd; rw [if_pos rfl]
      rw [if_neg (by omega), if_pos (by omega)]
      simp [List.filter_cons, h1, hf]
    · have h1 : sadd f (k : Int) true (m : Int) = f m := by unfold sadd; rw [if_neg (by omega)]
      have h2 : (if k < m + 1 then 1 else 0) = (if k < m then 1 else 0) := by split <;> split <;> omega
      rw [h2]
      simp only [List.filter_cons, List.filter_nil, h1]
      omega
theorem cnt_add (f : Int → Bool) (k : Nat) (hk : k < 30) (hf : f k = false) : cntB (sadd f k true) = cntB f + 1 := by
  unfold cntB
  rw [cnt_gen f k hf 30, if_pos hk]
theorem sadd_back (f : Int → Bool) (k : Int) (hf : f k = true) : sadd (sadd f k false) k true = f := by
  funext x
  unfold sadd
  by_cases e : x = k
  · rw [if_pos e, e, hf]
  · rw [if_neg e, if_neg e]
theorem cnt_sub (f : Int → Bool) (k : Nat) (hk : k < 30) (hf : f k = true) : cntB (sadd f k false) + 1 = cntB f := by
  have := cnt_add (sadd f k false) k hk (by unfold sadd; rw [if_pos rfl])
  rw [sadd_back f k hf] at this
  exact this.symm
theorem cnt_le (f : Int → Bool) : cntB f ≤ 30 := by
  unfold cntB
  have := List.length_filter_le (fun (j : Nat) => f (j : Int)) (List.range 30)
  simpa using this
theorem cnt_zero {f : Int → Bool} (h : cntB f = 0) (k : Nat) (hk : k < 30) : f k = false := by
  unfold cntB at h
  have := List.length_eq_zero_iff.1 h
  rw [List.filter_eq_nil_iff] at this
  simpa using this k (List.mem_range.2 hk)
theorem cnt_none {f : Int → Bool} (h : ∀ k : Nat, k < 30 → f k = false) : cntB f = 0 := by
  unfold cntB
  rw [List.filter_eq_nil_iff.2]
  · rfl
  · intro k hk; rw [h k (List.mem_range.1 hk)]; simp
theorem cnt_or {f A B : Int → Bool} (h : ∀ x, f x = (A x || B x)) (hd : ∀ x, A x = true → B x = false) : cntB A + cntB B = cntB f := by
  unfold cntB
  generalize List.range 30 = l
  induction l with
  | nil => rfl
  | cons x l ih =>
    simp only [List.filter_cons, h]
    simp only [h] at ih
    cases ha : A (x : Int) <;> cases hb : B (x : Int)
    · simpa [ha, hb] using ih
    · simp; omega
    · simp; omega
    · have := hd _ ha; rw [hb] at this; cases this
theorem cnt_set {f : Int → Bool} {ys : List Int} (h : SetOf f ys) (hs : ∀ x, f x = true → 0 ≤ x ∧ x < 30) : ys.length = cntB f := by
  have e : ys = ((List.range 30).filter (fun (j : Nat) => f (j : Int))).map Int.ofNat := by
    refine h.one _ ?_ (fun x => ?_)
    · refine List.pairwise_map.2 ?_
      refine (List.Pairwise.filter _ List.pairwise_lt_range).imp (fun e => ?_)
      exact Int.ofNat_lt.2 e
    · rw [List.mem_map]
      constructor
      · rintro ⟨j, hj, rfl⟩
        exact (List.mem_filter.1 hj).2
      · intro hx
        have := hs x hx
        have e : ((x.toNat : Nat) : Int) = x := by omega
        exact ⟨x.toNat, List.mem_filter.2 ⟨List.mem_range.2 (by omega), by rw [e]; exact hx⟩, e⟩
  rw [e, List.length_map]; rfl
/-! What the two hold. -/
def cSeen (f : Int → Bool) : Int → Option Int := fun x => if f x then some 5 else none
theorem seen_want {f : Int → Bool} {k r : Int} {C' : Int → Option Int} {S' : Int → Bool} {n' : Nat} (hk : 0 ≤ k ∧ k < 30) (h : WantTo (cSeen f) (fun _ => false) (cntB f) 100 k 5 r C' S' n') : r = 0 ∧ C' = cSeen (sadd f k true) ∧ S' = (fun _ => false) ∧ n' = cntB (sadd f k true) := by
  have hle := cnt_le f
  have hkk : ((k.toNat : Nat) : Int) = k := by omega
  rcases h with ⟨old, e, e1, e2, e3, e4⟩ | ⟨e, _, e1, e2, e3, e4⟩ | ⟨_, e, _⟩
  · have hf : f k = true := by unfold cSeen at e; cases h : f k with | true => rfl | false => rw [h] at e; simp at e
    have ho : old = 5 := by unfold cSeen at e; rw [hf] at e; simp at e; exact e.symm
    have hs : sadd f k true = f := by
      funext x; unfold sadd
      by_cases h : x = k
      · rw [if_pos h, h, hf]
      · rw [if_neg h]
    refine ⟨e1, ?_, e3, by rw [hs]; exact e4⟩
    rw [e2, hs, ho]
    funext x
    unfold upd
    by_cases h : x = k
    · rw [if_pos h, h]; unfold cSeen; rw [hf]; rfl
    · rw [if_neg h]
  · have hf : f k = false := by unfold cSeen at e; cases h : f k with | false => rfl | true => rw [h] at e; simp at e
    refine ⟨e1, ?_, e3.trans (sadd_no _), ?_⟩
    · rw [e2]
      funext x
      unfold upd cSeen sadd
      by_cases h : x = k
      · rw [if_pos h, if_pos h]; rfl
      · rw [if_neg h, if_neg h]
    · rw [e4]
      have := cnt_add f k.toNat (by omega) (by rw [hkk]; exact hf)
      rw [hkk] at this
      exact this.symm
  · omega
/-- All that is held, waiting or dirty; dirty ones there are only where it is full. -/
def Ub (C : Int → Option Int) (S f : Int → Bool) (room : Int) (n : Nat) : Prop := (∀ x, ((C x).isSome || S x) = f x) ∧ ∀ x, S x = true → room ≤ n
theorem Ub.want {C C' : Int → Option Int} {S S' f : Int → Bool} {room : Int} {n n' : Nat} {k m r : Int} (u : Ub C S f room n) (h : WantTo C S n room k m r C' S' n') : Ub C' S' (sadd f k true) room n' := by
  obtain ⟨u1, u2⟩ := u
  rcases h with ⟨old, e, e1, e2, e3, e4⟩ | ⟨e, e0, e1, e2, e3, e4⟩ | ⟨e, e0, e1, e2, e3, e4⟩
  · rw [e2, e3, e4]
    refine ⟨fun x => ?_, u2⟩
    unfold upd sadd
    by_cases h : x = k
    · rw [if_pos h, if_pos h]; rfl
    · rw [if_neg h, if_neg h]; exact u1 x
  · rw [e2, e3, e4]
    refine ⟨fun x => ?_, fun x hx => ?_⟩
    · unfold upd sadd
      by_cases h : x = k
      · rw [if_pos h, if_pos h, if_pos h]; rfl
      · rw [if_neg h, if_neg h, if_neg h]; exact u1 x
    · unfold sadd at hx
      by_cases h : x = k
      · rw [if_pos h] at hx; cases hx
      · rw [if_neg h] at hx; have := u2 x hx; omega
  · rw [e2, e3, e4]
    refine ⟨fun x => ?_, fun x hx => e0⟩
    unfold sadd
    by_cases h : x = k
    · rw [if_pos h, if_pos h, h, e]; rfl
    · rw [if_neg h, if_neg h]; exact u1 x
theorem Ub.next {C C' : Int → Option Int} {S S' f : Int → Bool} {room t : Int} {n n' : Nat} {k p : Int} {b : Bool} (u : Ub C S f room n) (sc : ∀ x, S x = true → C x = none) (h : NextTo C S n room t k p b C' S' n') (hb : b = true) : f k = true ∧ Ub C' S' (sadd f k false) room n' := by
  obtain ⟨u1, u2⟩ := u
  obtain ⟨ht, ys, m, hs, hn⟩ := h
  subst hb
  rcases ht with ⟨_, _, _, e⟩ | ⟨h0, hm, _⟩
  · cases e
  have hck := hm.1
  have hfk : f k = true := by rw [← u1 k, hck]; rfl
  have hsk : S k = false := by
    cases e : S k with
    | false => rfl
    | true => have := sc k e; rw [hck] at this; cases this
  refine ⟨hfk, fun x => ?_, fun x hx => ?_⟩
  · rw [hs.cont x, hs.dirt x]
    by_cases hx : x ∈ ys.take m
    · have hS : S x = true := (hs.set.mem x).1 (List.mem_of_mem_take hx)
      have hne : x ≠ k := fun e => by rw [e, hsk] at hS; cases hS
      rw [if_pos hx]
      unfold sadd
      rw [if_neg hne, ← u1 x, hS]
      simp
    · rw [if_neg hx, decide_eq_false hx]
      unfold upd sadd
      by_cases e : x = k
      · subst e; simp [hsk]
      · simp only [if_neg e, if_true, Bool.not_false, Bool.and_true]; exact u1 x
  · rw [hs.dirt x] at hx
    simp only [Bool.and_eq_true, Bool.not_eq_true', decide_eq_false_iff_not] at hx
    have hy := (hs.set.mem x).2 hx.1
    have hlt : m < ys.length := by
      rcases Nat.lt_or_ge m ys.length with h | h
      · exact h
      · exact absurd (by rw [List.take_of_length_le h]; exact hy) hx.2
    have := hs.much
    omega
theorem top_empty {C : Int → Option Int} {n : Nat} {k p : Int} {b : Bool} (h : TopIs C n k p b) (hc : ∀ x, C x = none) : b = false := by
  rcases h with ⟨_, _, _, e⟩ | ⟨_, hm, _⟩
  · exact e
  · have := hm.1; rw [hc] at this; cases this
theorem top_some' {C : Int → Option Int} {n : Nat} {k p : Int} {b : Bool} (h : TopIs C n k p b) (hn : 0 < n) : b = true ∧ Most C k p := by
  rcases h with ⟨e, _⟩ | ⟨_, hm, e⟩
  · omega
  · exact ⟨e, hm⟩
/-- Where a number is held the heap is not empty. -/
theorem Ub.pos {C : Int → Option Int} {S f : Int → Bool} {room : Int} {n : Nat} (u : Ub C S f room n) (hr : 1 ≤ room) (hs : ∃ ys, SortedOf C ys ∧ ys.length = n) {x : Int} (hx : f x = true) : 0 < n := by
  rcases Nat.eq_zero_or_pos n with h0 | h0
  · exfalso
    subst h0
    rw [← u.1 x, Bool.or_eq_true] at hx
    rcases hx with hx | hx
    · obtain ⟨ys, h1, h2⟩ := hs
      obtain ⟨p, hp⟩ := Option.isSome_iff_exists.1 hx
      have := (h1.mem x p).2 hp
      rw [List.length_eq_zero_iff.1 h2] at this
      cases this
    · have := u.2 x hx; omega
  · exact h0
def cRest (f : Int → Bool) (last : Int) : Int → Option Int := fun x => if f x && decide (last < x) then some 5 else none
theorem rest_start (f : Int → Bool) (hs : ∀ x, f x = true → 0 ≤ x ∧ x < 30) : cSeen f = cRest f (-1) := by
  funext x
  unfold cSeen cRest
  cases h : f x with
  | false => rfl
  | true => have := hs x h; rw [decide_eq_true (by omega : (-1 : Int) < x)]; rfl
theorem rest_top {f : Int → Bool} {last k p : Int} (h : Most (cRest f last) k p) : f k = true ∧ last < k ∧ upd (cRest f last) k none = cRest f k := by
  have h1 := h.1
  have hk : f k = true ∧ last < k := by
    unfold cRest at h1
    split at h1
    · rename_i e; simpa using e
    · cases h1
  have hp : p = 5 := by
    unfold cRest at h1
    split at h1
    · exact (Option.some.inj h1).symm
    · cases h1
  refine ⟨hk.1, hk.2, ?_⟩
  funext x
  unfold upd
  by_cases e : x = k
  · rw [if_pos e, e]; unfold cRest; simp
  · rw [if_neg e]
    unfold cRest
    cases hf : f x with
    | false => simp
    | true =>
      simp only [Bool.true_and]
      by_cases hl : last < x
      · have h2 := h.2 x 5 (by unfold cRest; rw [hf, decide_eq_true hl]; rfl)
        unfold Ahead at h2
        simp only at h2
        rw [decide_eq_true hl, decide_eq_true (show k < x by omega)]
      · rw [decide_eq_false hl, decide_eq_false (show ¬ k < x by omega)]
end Go.Proofs.Ytclekakhgaggdaa.HeapC
