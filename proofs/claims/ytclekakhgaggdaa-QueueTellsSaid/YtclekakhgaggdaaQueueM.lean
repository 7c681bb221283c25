/- A set of ints that lies in memory as a map to nothing. -/
import Derived.Test.YtclekakhgaggdaaHeapM
namespace Go.Proofs.Ytclekakhgaggdaa.QueueM
open Go.RowKit Go.Proofs.Ytclekakhgaggdaa.HeapM
set_option linter.unusedVariables false
set_option linter.unusedSimpArgs false

/-- What an element that is nothing reads as. -/
def unitElem : Value → Option (DataW Unit × List MemPlace)
  | .agg cs => if cs.size = 0 then some (.agg [], []) else none
  | _ => none
theorem unitElem_mk : unitElem (.agg #[]) = some (.agg [], []) := rfl
theorem unitElem_inv {v : Value} {z : DataW Unit × List MemPlace} (h : unitElem v = some z) : v = .agg #[] := by
  cases v
  case agg cs =>
    change (if cs.size = 0 then some (DataW.agg [], []) else none) = some z at h
    split at h
    · rename_i e; rw [Array.eq_empty_of_size_eq_zero e]
    · cases h
  all_goals cases h

/-- Block b of w is a set that reads as S. -/
def ISet (P : Program) (tk : TypeId) (w : World) (b : Nat) (N : Nat) (S : Int → Bool) : Prop :=
  ∃ (D : DataW Unit) (n : Nat), n ≤ N ∧ Maps.IsMap D ∧ w.ownsMap P tk unitElem b n D ∧ ∀ x : Int, (Lit.int .i64 x).wf = true → Maps.has D (.int .i64 x) = S x
def sadd (S : Int → Bool) (x : Int) (v : Bool) : Int → Bool := fun y => if y = x then v else S y

theorem ISet.congr {P : Program} {tk : TypeId} {w w' : World} {b N : Nat} {S : Int → Bool} (h : ISet P tk w b N S) (e : w'.heap[b]? = w.heap[b]?) : ISet P tk w' b N S := by
  obtain ⟨D, n, h1, h2, ⟨es, c, h3, h4⟩, h5⟩ := h
  exact ⟨D, n, h1, h2, ⟨es, c, e.trans h3, h4⟩, h5⟩
theorem ISet.blk {P : Program} {tk : TypeId} {w : World} {b N : Nat} {S : Int → Bool} (h : ISet P tk w b N S) : ∃ o, w.heap[b]? = some o := by
  obtain ⟨D, n, h1, h2, ⟨es, c, h3, h4⟩, h5⟩ := h
  exact ⟨_, h3⟩
theorem ISet.mono {P : Program} {tk : TypeId} {w : World} {b N N' : Nat} {S : Int → Bool} (h : ISet P tk w b N S) (e : N ≤ N') : ISet P tk w b N' S := by
  obtain ⟨D, n, h1, h2⟩ := h
  exact ⟨D, n, Nat.le_trans h1 e, h2⟩
theorem ISet.add {P : Program} {tm tk te : TypeId} (hm : P.underlying tm = some (.map tk te)) (hk : P.underlying tk = some (.int .i64))
    {w : World} {b N : Nat} {S : Int → Bool} (h : ISet P tk w b N S) (hN : N < 9000000000000000000) (x : Int) (hx : (Lit.int .i64 x).wf = true) :
    ∃ w', (Instr.mapUpdate tm (.map (some b)) (.int .i64 x) (.agg #[])).run P w = .ok () w' ∧ ISet P tk w' b (N + 1) (sadd S x true) ∧ w.grownBy w' (some b) := by
  obtain ⟨D, n, h1, h2, h3, h4⟩ := h
  obtain ⟨w', r1, r2, r3⟩ := h3.update (Maps.int_keyed hk) hm (by unfold maxLen; omega) (Maps.keyOf_int_mk hk hx) unitElem_mk
  refine ⟨w', r1, ⟨_, n + 1, by omega, h2.put _ _, r2, fun y hy => ?_⟩, r3⟩
  unfold sadd
  by_cases c : y = x
  · subst c; rw [if_pos rfl, Maps.has_put_same h2 (show WideAt.IsKeyLit (.int .i64 y) from trivial)]
  · rw [if_neg c, Maps.has_put_other (by intro e; cases e; exact c rfl)]; exact h4 y hy
theorem ISet.look {P : Program} {tm tk te : TypeId} (hm : P.underlying tm = some (.map tk te)) (hk : P.underlying tk = some (.int .i64))
    {w : World} {b N : Nat} {S : Int → Bool} (h : ISet P tk w b N S) (hz : (zeroValue te).run P w = .ok (.agg #[]) w) (x : Int) (hx : (Lit.int .i64 x).wf = true) :
    (Instr.lookup tm (.map (some b)) (.int .i64 x) true).run P w = .ok (.tuple #[.agg #[], .bool (S x)]) w := by
  obtain ⟨D, n, h1, h2, h3, h4⟩ := h
  obtain ⟨v, ps, r1, r2⟩ := h3.look_ok (Maps.int_keyed hk) hm hz unitElem_mk (Maps.keyOf_int_mk hk hx)
  rw [h4 x hx, unitElem_inv r2] at r1
  exact r1
theorem ISet.drop {P : Program} {tm tk te : TypeId} (hm : P.underlying tm = some (.map tk te)) (hk : P.underlying tk = some (.int .i64))
    {w : World} {b N : Nat} {S : Int → Bool} (h : ISet P tk w b N S) (x : Int) (hx : (Lit.int .i64 x).wf = true) (ty : TypeId) :
    ∃ w', (Builtin.delete_ #[tm, tk] ty #[.map (some b), .int .i64 x]).run P w = .ok (.tuple #[]) w' ∧ ISet P tk w' b N (sadd S x false) ∧ w.grownBy w' (some b) := by
  obtain ⟨D, n, h1, h2, h3, h4⟩ := h
  obtain ⟨w', r1, r2, es, c, es', c', q1, q2⟩ := h3.drop (Maps.int_keyed hk) hm (Maps.keyOf_int_mk hk hx) ty
  refine ⟨w', r1, ⟨_, n, h1, h2.del _, r2, fun y hy => ?_⟩, World.mapTurned.grown ⟨es, c, es', c', q1, q2⟩⟩
  unfold sadd
  by_cases d : y = x
  · subst d; rw [if_pos rfl, Maps.has_del_same]
  · rw [if_neg d, Maps.has_del_other (by intro e; cases e; exact d rfl)]; exact h4 y hy
theorem ISet.made (P : Program) (tk : TypeId) (w : World) : ISet P tk (w.alloc (.map #[] 0)) w.heap.size 0 (fun _ => false) :=
  ⟨.map [], 0, Nat.le_refl _, ⟨[], rfl⟩, World.ownsMap_made w P tk unitElem, fun _ _ => rfl⟩
end Go.Proofs.Ytclekakhgaggdaa.QueueM
