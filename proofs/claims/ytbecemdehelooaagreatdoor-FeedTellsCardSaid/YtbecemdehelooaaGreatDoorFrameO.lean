/- Arguments that are read: slices of whatever is read of a kind. -/
import Derived.Test.YtbecemdehelooaaGreatDoorWWords
import Derived.Deep.Slices
import Derived.DataReads
import Derived.OpenShut
import Derived.ShutString
import Derived.ChangeArms
namespace Go.Proofs.YtbecemdehelooaaGreatDoor.FrameO
open Go.RowKit Go.ChangeShapes Go.WideShapes Go.Deep Go.Proofs.YtbecemdehelooaaGreatDoorW.PrintWords
set_option linter.unusedVariables false
variable {H : Type} {enc : TypeId × Value → H} {P : Program} {w : World} {base : Nat} {spare : Nat → Bool} {held : Bool}
theorem open_row {α : Type} (d : Kd α) (G : α → Prop) {t e : TypeId} {fuel : Nat} {cs : List Value} {x : DataW H × List MemPlace} (ht : P.underlying t = some (.slice e)) (hs : P.cellsOf e = d.sz)
    (he : ∀ (n : Nat) cs y, DataW.trod enc P w base spare held n e cs = some y → ∃ v, d.K w v cs ∧ G v)
    (h : DataW.trod enc P w base spare held fuel t cs = some x) : ∃ A len cap xs, cs = [.slice A len cap] ∧ xs.length = len ∧ len ≤ cap ∧ cap ≤ maxLen ∧ d.C w A len xs ∧ ∀ v ∈ xs, G v := by
  rcases open_slice ht h with ⟨h0, -⟩ | ⟨a, len, cap, m, n, D, Pl, hcs, hb, hl, hm, hmm, hx, hi⟩
  · exact ⟨none, 0, 0, [], h0, rfl, Nat.le_refl _, Nat.zero_le _, ⟨rfl, Nat.zero_le _, fun h => absurd h (Nat.lt_irrefl _)⟩, fun v hv => by cases hv⟩
  · have key : ∀ k, k ≤ len → ∃ xs : List α, xs.length = k ∧ ∀ j p, xs[j]? = some p → (∃ c, c.length = d.sz ∧ d.K w p c ∧ ∀ i u, c[i]? = some u → w.cell? (a.add (j * d.sz + i)) = some u) ∧ G p := by
      intro k
      induction k with
      | zero => intro _; exact ⟨[], rfl, fun j p hp => by simp at hp⟩
      | succ k ih =>
        intro hk
        obtain ⟨xs, hl1, hx1⟩ := ih (by omega)
        have hkm : k < m := by rw [hmm]; split <;> omega
        obtain ⟨cs', hc', hr'⟩ := hi k hkm
        obtain ⟨v, hv, hg⟩ := he _ _ _ hr'
        rw [hs] at hc'
        obtain ⟨-, hlen, hat⟩ := World.cells?_some hc'
        refine ⟨xs ++ [v], by simp [hl1], fun j p hp => ?_⟩
        rcases Nat.lt_or_ge j xs.length with hj | hj
        · rw [List.getElem?_append_left hj] at hp
          exact hx1 j p hp
        · rw [List.getElem?_append_right hj] at hp
          have hj0 : j - xs.length = 0 := by
            rcases Nat.eq_zero_or_pos (j - xs.length) with h | h
            · exact h
            · rw [List.getElem?_eq_none (by simp; omega)] at hp; cases hp
          rw [hj0] at hp
          obtain rfl := Option.some.inj hp
          obtain rfl : j = k := by omega
          refine ⟨⟨cs', hlen, hv, fun i u hu => ?_⟩, hg⟩
          have hi' : i < d.sz := by have := (List.getElem?_eq_some_iff.1 hu).1; omega
          have := hat i hi'
          rw [hu, Deep.add_add] at this
          exact this
    obtain ⟨xs, hl1, hx1⟩ := key len (Nat.le_refl _)
    refine ⟨some a, len, cap, xs, hcs, hl1, hl, hm, ⟨hl1, by unfold maxLen at hm; omega, fun _ => ⟨a, rfl, fun j p hp => (hx1 j p hp).1⟩⟩, fun v hv => ?_⟩
    obtain ⟨j, hj⟩ := List.getElem?_of_mem hv
    exact (hx1 j v hj).2
theorem el_int {e : TypeId} (he : P.underlying e = some (.int .i64)) (n : Nat) (cs : List Value) (y : DataW H × List MemPlace) (h : DataW.trod enc P w base spare held n e cs = some y) : ∃ v, (Kd.int .i64).K w v cs ∧ (Lit.int .i64 v).wf = true := by
  obtain ⟨z, h1, -, h2⟩ := DataW.trod_int he h
  exact ⟨z, h1, h2⟩
theorem el_str {e : TypeId} (he : P.underlying e = some .string) (n : Nat) (cs : List Value) (y : DataW H × List MemPlace) (h : DataW.trod enc P w base spare held n e cs = some y) : ∃ v, Kd.string.K w v cs ∧ v.size ≤ maxLen := by
  obtain ⟨z, h1, -, h2⟩ := DataW.trod_string he h
  exact ⟨z, h1, h2⟩
theorem el_row {α : Type} (d : Kd α) (G : α → Prop) {t e : TypeId} (q : Nat) (ht : P.underlying t = some (.slice e)) (hs : P.cellsOf e = d.sz)
    (he : ∀ (n : Nat) cs y, DataW.trod enc P w base spare held n e cs = some y → ∃ v, d.K w v cs ∧ G v)
    (n : Nat) (cs : List Value) (y : DataW H × List MemPlace) (h : DataW.trod enc P w base spare held n t cs = some y) : ∃ v, (Kd.slice q d).K w v cs ∧ ∀ x ∈ v, G x := by
  obtain ⟨A, len, cap, xs, h1, h2, h3, h4, h5, h6⟩ := open_row d G ht hs he h
  subst h2
  exact ⟨xs, ⟨A, cap, h1, h3, h5⟩, h6⟩
end Go.Proofs.YtbecemdehelooaaGreatDoor.FrameO
