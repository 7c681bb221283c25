/- What is kept beside what changes; a map from numbers to numbers that a program owns, read as a function. -/
import Derived.Maps.OwnOps
import Derived.Maps.OwnSet
import Derived.Maps.Own
import Derived.Maps.Views
import Derived.OwnWalk
import Derived.Below
import Derived.Deep.Draws
import Derived.Test.YtclekakhgaggdaaHeapT
namespace Go.Proofs.Ytclekakhgaggdaa.HeapM
open Go.RowKit Go.Proofs.Ytclekakhgaggdaa.HeapT
set_option linter.unusedVariables false
set_option linter.unusedSimpArgs false

/-- From w to w' only blocks in S, and new ones, may have changed. -/
structure Chg (w w' : World) (S : Nat → Prop) : Prop where
  os : w'.os = w.os
  tape : w'.tape = w.tape
  output : w'.output = w.output
  size : w.heap.size ≤ w'.heap.size
  block : ∀ k, k < w.heap.size → ¬ S k → w'.heap[k]? = w.heap[k]?

theorem Chg.refl (w : World) (S : Nat → Prop) : Chg w w S := ⟨rfl, rfl, rfl, Nat.le_refl _, fun _ _ _ => rfl⟩
theorem Chg.mono {w w' : World} {S S' : Nat → Prop} (h : Chg w w' S) (hs : ∀ k, S k → S' k ∨ w.heap.size ≤ k) : Chg w w' S' :=
  ⟨h.os, h.tape, h.output, h.size, fun k hk hn => h.block k hk (fun e => (hs k e).elim hn (fun g => by omega))⟩
theorem Chg.trans {w w1 w2 : World} {S S2 : Nat → Prop} (h : Chg w w1 S) (k : Chg w1 w2 S2) (hs : ∀ b, S2 b → S b ∨ w.heap.size ≤ b) : Chg w w2 S :=
  ⟨k.os.trans h.os, k.tape.trans h.tape, k.output.trans h.output, Nat.le_trans h.size k.size,
    fun b hb hn => (k.block b (Nat.lt_of_lt_of_le hb h.size) (fun e => (hs b e).elim hn (fun g => by omega))).trans (h.block b hb hn)⟩
theorem Chg.of_below {w w' : World} (h : Below w.heap.size w w') (S : Nat → Prop) : Chg w w' S := ⟨h.os, h.tape, h.output, h.size, fun k hk _ => h.block k hk⟩
theorem Chg.below {w w' : World} {S : Nat → Prop} (h : Chg w w' S) (hs : ∀ k, S k → w.heap.size ≤ k) : Below w.heap.size w w' :=
  ⟨h.os, h.tape, h.output, h.size, fun k hk => h.block k hk (fun e => by have := hs k e; omega)⟩
theorem Chg.drew {w w' : World} {S : Nat → Prop} (h : Chg w w' S) : Chg w w'.drew S := ⟨h.os, h.tape, h.output, h.size, h.block⟩
theorem Chg.drewN {w w' : World} {S : Nat → Prop} (h : Chg w w' S) (n : Nat) : Chg w (w'.drewN n) S := ⟨h.os, h.tape, h.output, h.size, h.block⟩
theorem Chg.alloc {w w' : World} {S : Nat → Prop} (h : Chg w w' S) (o : Obj) : Chg w (w'.alloc o) S :=
  h.trans (S2 := S) (Chg.of_below ((Below.refl _ _).alloc (Nat.le_refl _) o) S) (fun _ e => .inl e)
theorem Chg.setCell {w w' : World} {S : Nat → Prop} (h : Chg w w' S) {p : Addr} (hp : S p.block ∨ w.heap.size ≤ p.block) (u : Value) : Chg w (w'.setCell p u) S := by
  refine h.trans (S2 := fun k => k = p.block) ⟨rfl, rfl, rfl, by simp [World.setCell], fun i _ hn => Below.heap_setCell w' p u i hn⟩ (fun b e => by rw [e]; exact hp)
theorem Chg.grown {w w1 w2 : World} {S : Nat → Prop} (h : Chg w w1 S) {row : Option Nat} (hg : w1.grownBy w2 row) (hr : ∀ k, row = some k → S k ∨ w.heap.size ≤ k) : Chg w w2 S :=
  h.trans (S2 := fun k => row = some k) ⟨hg.os, hg.tape, hg.output, hg.size, fun i hi hn => hg.block i hi (fun he => hn he.symm)⟩ hr
theorem Chg.blk {w w' : World} {S : Nat → Prop} (h : Chg w w' S) {b : Nat} {o : Obj} (hb : w.heap[b]? = some o) (hn : ¬ S b) : w'.heap[b]? = some o :=
  (h.block b (Array.getElem?_eq_some_iff.1 hb).1 hn).trans hb
theorem Chg.cell {w w' : World} {S : Nat → Prop} (h : Chg w w' S) {b : Nat} (hb : b < w.heap.size) (hn : ¬ S b) (off : Nat) : w'.cell? ⟨b, off, none⟩ = w.cell? ⟨b, off, none⟩ :=
  World.cell?_of_block (h.block b hb hn)
theorem Chg.frozen {w w' : World} {S : Nat → Prop} (h : Chg w w' S) {b : Nat} (hb : b < w.heap.size) (hn : ¬ S b) (off : Nat) : w'.frozen? ⟨b, off, none⟩ = w.frozen? ⟨b, off, none⟩ :=
  World.frozen?_of_block (h.block b hb hn)
theorem row_keep {w w' : World} {S : Nat → Prop} (h : Chg w w' S) {base e size n : Nat} {v : Value} {xs : List Value} (hr : w.ownsRow base e size v n xs) (hn : ∀ k, S k → v.ownBlock ≠ some k) : w'.ownsRow base e size v n xs := by
  obtain ⟨h1, h2 | ⟨r, cap, cur, rfl, h3, h4, h5⟩⟩ := hr
  · exact ⟨h1, .inl h2⟩
  · exact ⟨h1, .inr ⟨r, cap, cur, rfl, h3, (h.block r (Array.getElem?_eq_some_iff.1 h4).1 (fun e => hn r e rfl)).trans h4, h5⟩⟩
theorem blk_lt {w : World} {b : Nat} {o : Obj} (hb : w.heap[b]? = some o) : b < w.heap.size := (Array.getElem?_eq_some_iff.1 hb).1
theorem blk_cell {w : World} {b : Nat} {cs : Array Value} {t : TypeId} (hb : w.heap[b]? = some (.cells cs t (0, 0))) (j : Nat) : w.cell? ⟨b, j, none⟩ = cs[j]? := by
  simp [World.cell?, hb]
theorem blk_free {w : World} {b : Nat} {cs : Array Value} {t : TypeId} (hb : w.heap[b]? = some (.cells cs t (0, 0))) (j : Nat) : w.frozen? ⟨b, j, none⟩ = false := by
  simp [World.frozen?, hb]
theorem blk_set_same {w : World} {b : Nat} {cs : Array Value} {t : TypeId} (hb : w.heap[b]? = some (.cells cs t (0, 0))) (j : Nat) (u : Value) (hj : j < cs.size) :
    (w.setCell ⟨b, j, none⟩ u).heap[b]? = some (.cells (cs.setIfInBounds j u) t (0, 0)) := by
  obtain ⟨h1, h2⟩ := Array.getElem?_eq_some_iff.1 hb
  simp only [World.setCell, Array.getElem?_modify, if_pos rfl, hb, Option.map_some, if_true]
  simp
theorem blk_set_other {w : World} {b : Nat} {o : Obj} (hb : w.heap[b]? = some o) (p : Addr) (u : Value) (hne : b ≠ p.block) : (w.setCell p u).heap[b]? = some o :=
  (Below.heap_setCell w p u b hne).trans hb
theorem blk_alloc {w : World} {b : Nat} {o : Obj} (hb : w.heap[b]? = some o) (x : Obj) : (w.alloc x).heap[b]? = some o := (Below.heap_alloc w x b (blk_lt hb)).trans hb
theorem blk_new (w : World) (o : Obj) : (w.alloc o).heap[w.heap.size]? = some o := heap_alloc_new w o

/-- Block b of w is a map that reads as the function M. -/
def IMap (P : Program) (tk te : TypeId) (w : World) (b : Nat) (N : Nat) (M : Int → Option Nat) : Prop :=
  ∃ (D : DataW Unit) (n : Nat), n ≤ N ∧ Maps.IsMap D ∧ w.ownsMap P tk (plainElem P te) b n D ∧
    (∀ x : Int, (Lit.int .i64 x).wf = true → Maps.has D (.int .i64 x) = (M x).isSome) ∧
    ∀ (x : Int) (i : Nat), (Lit.int .i64 x).wf = true → M x = some i → D.atKey (.int .i64 x) (.lit (.int .i64 0)) = .lit (.int .i64 i)

theorem IMap.congr {P : Program} {tk te : TypeId} {w w' : World} {b N : Nat} {M : Int → Option Nat} (h : IMap P tk te w b N M) (e : w'.heap[b]? = w.heap[b]?) : IMap P tk te w' b N M := by
  obtain ⟨D, n, h1, h2, ⟨es, c, h3, h4⟩, h5⟩ := h
  exact ⟨D, n, h1, h2, ⟨es, c, e.trans h3, h4⟩, h5⟩
theorem IMap.blk {P : Program} {tk te : TypeId} {w : World} {b N : Nat} {M : Int → Option Nat} (h : IMap P tk te w b N M) : ∃ o, w.heap[b]? = some o := by
  obtain ⟨D, n, h1, h2, ⟨es, c, h3, h4⟩, h5⟩ := h
  exact ⟨_, h3⟩
theorem IMap.mono {P : Program} {tk te : TypeId} {w : World} {b N N' : Nat} {M : Int → Option Nat} (h : IMap P tk te w b N M) (e : N ≤ N') : IMap P tk te w b N' M := by
  obtain ⟨D, n, h1, h2⟩ := h
  exact ⟨D, n, Nat.le_trans h1 e, h2⟩

theorem IMap.update {P : Program} {tm tk te : TypeId} (hm : P.underlying tm = some (.map tk te)) (hk : P.underlying tk = some (.int .i64)) (he : P.underlying te = some (.int .i64))
    {w : World} {b N : Nat} {M : Int → Option Nat} (h : IMap P tk te w b N M) (hN : N < 9000000000000000000) (x : Int) (i : Nat) (hx : (Lit.int .i64 x).wf = true) (hi : i ≤ 9223372036854775807) :
    ∃ w', (Instr.mapUpdate tm (.map (some b)) (.int .i64 x) (.int .i64 i)).run P w = .ok () w' ∧ IMap P tk te w' b (N + 1) (upd M x (some i)) ∧ w.grownBy w' (some b) := by
  obtain ⟨D, n, h1, h2, h3, h4, h5⟩ := h
  have hwi : (Lit.int .i64 (i : Int)).wf = true := by simp [Lit.wf, IntKind.min, IntKind.max, IntKind.bits, IntKind.signed]; omega
  obtain ⟨w', r1, r2, r3⟩ := h3.update (Maps.int_keyed hk) hm (by unfold maxLen; omega) (Maps.keyOf_int_mk hk hx) (plainElem_int he hwi)
  refine ⟨w', r1, ⟨_, n + 1, by omega, h2.put _ _, r2, fun y hy => ?_, fun y j hy hj => ?_⟩, r3⟩
  · unfold upd
    by_cases c : y = x
    · subst c; rw [if_pos rfl, Maps.has_put_same h2 (show WideAt.IsKeyLit (.int .i64 y) from trivial)]; rfl
    · rw [if_neg c, Maps.has_put_other (by intro e; cases e; exact c rfl)]; exact h4 y hy
  · unfold upd at hj
    by_cases c : y = x
    · subst c; rw [if_pos rfl] at hj; cases hj; exact Maps.atKey_put_same h2 (show WideAt.IsKeyLit (.int .i64 y) from trivial) _ _
    · rw [if_neg c] at hj; rw [Maps.atKey_put_other (by intro e; cases e; exact c rfl)]; exact h5 y j hy hj

theorem IMap.look {P : Program} {tm tk te : TypeId} (hm : P.underlying tm = some (.map tk te)) (hk : P.underlying tk = some (.int .i64)) (he : P.underlying te = some (.int .i64))
    {w : World} {b N : Nat} {M : Int → Option Nat} (h : IMap P tk te w b N M) (hz : (zeroValue te).run P w = .ok (.int .i64 0) w) (x : Int) (hx : (Lit.int .i64 x).wf = true) :
    ∃ c : Int, (Instr.lookup tm (.map (some b)) (.int .i64 x) true).run P w = .ok (.tuple #[.int .i64 c, .bool (M x).isSome]) w ∧ ∀ i, M x = some i → c = (i : Int) := by
  obtain ⟨D, n, h1, h2, h3, h4, h5⟩ := h
  obtain ⟨v, ps, r1, r2⟩ := h3.look_ok (Maps.int_keyed hk) hm hz (plainElem_int he (by decide)) (Maps.keyOf_int_mk hk hx)
  obtain ⟨c, rfl, hc, _⟩ := plainElem_int_inv he r2
  rw [h4 x hx] at r1
  refine ⟨c, r1, fun i hi => ?_⟩
  have e := (congrArg Prod.fst hc)
  rw [h5 x i hx hi] at e
  simp only at e
  injection e with e
  injection e with _ e
  exact e.symm

theorem IMap.look1 {P : Program} {tm tk te : TypeId} (hm : P.underlying tm = some (.map tk te)) (hk : P.underlying tk = some (.int .i64)) (he : P.underlying te = some (.int .i64))
    {w : World} {b N : Nat} {M : Int → Option Nat} (h : IMap P tk te w b N M) (hz : (zeroValue te).run P w = .ok (.int .i64 0) w) (x : Int) (hx : (Lit.int .i64 x).wf = true) (i : Nat) (hi : M x = some i) :
    (Instr.lookup tm (.map (some b)) (.int .i64 x) false).run P w = .ok (.int .i64 i) w := by
  obtain ⟨D, n, h1, h2, h3, h4, h5⟩ := h
  obtain ⟨c, r1, r2, _⟩ := h3.lookup_int (Maps.int_keyed hk) hm he hz (Maps.keyOf_int_mk hk hx)
  rw [h5 x i hx hi] at r2
  injection r2 with r2
  injection r2 with _ r2
  rw [r1, r2]

theorem IMap.drop {P : Program} {tm tk te : TypeId} (hm : P.underlying tm = some (.map tk te)) (hk : P.underlying tk = some (.int .i64)) (he : P.underlying te = some (.int .i64))
    {w : World} {b N : Nat} {M : Int → Option Nat} (h : IMap P tk te w b N M) (x : Int) (hx : (Lit.int .i64 x).wf = true) (ty : TypeId) :
    ∃ w', (Builtin.delete_ #[tm, tk] ty #[.map (some b), .int .i64 x]).run P w = .ok (.tuple #[]) w' ∧ IMap P tk te w' b N (upd M x none) ∧ w.grownBy w' (some b) := by
  obtain ⟨D, n, h1, h2, h3, h4, h5⟩ := h
  obtain ⟨w', r1, r2, es, c, es', c', q1, q2⟩ := h3.drop (Maps.int_keyed hk) hm (Maps.keyOf_int_mk hk hx) ty
  refine ⟨w', r1, ⟨_, n, h1, h2.del _, r2, fun y hy => ?_, fun y j hy hj => ?_⟩, ?_⟩
  · unfold upd
    by_cases d : y = x
    · subst d; rw [if_pos rfl, Maps.has_del_same]; rfl
    · rw [if_neg d, Maps.has_del_other (by intro e; cases e; exact d rfl)]; exact h4 y hy
  · unfold upd at hj
    by_cases d : y = x
    · subst d; rw [if_pos rfl] at hj; cases hj
    · rw [if_neg d] at hj; rw [Maps.atKey_del_other (by intro e; cases e; exact d rfl)]; exact h5 y j hy hj
  · exact World.mapTurned.grown ⟨es, c, es', c', q1, q2⟩

theorem IMap.made (P : Program) (tk te : TypeId) (w : World) : IMap P tk te (w.alloc (.map #[] 0)) w.heap.size 0 (fun _ => none) :=
  ⟨.map [], 0, Nat.le_refl _, ⟨[], rfl⟩, World.ownsMap_made w P tk (plainElem P te), fun _ _ => rfl, fun _ _ _ h => by cases h⟩

end Go.Proofs.Ytclekakhgaggdaa.HeapM
