/- What All tells: sorted items (without the program); the sort's row as the heap's cells. -/
import Derived.Test.YtclekakhgaggdaaHeapL
import Derived.Sort.OwnSorted
import Derived.Shelf.GgSortFunc.InsertionK
namespace Go.Proofs.Ytclekakhgaggdaa.HeapC
open Go.RowKit Go.Proofs.Ytclekakhgaggdaa.HeapT Go.Proofs.Ytclekakhgaggdaa.HeapM Go.Sort
set_option linter.unusedVariables false
set_option linter.unusedSimpArgs false

/-- ys are what C holds, by their keys. -/
structure SortedOf (C : Int → Option Int) (ys : List Itm) : Prop where
  lt : ys.Pairwise fun a b => a.1 < b.1
  mem : ∀ k p, (k, p) ∈ ys ↔ C k = some p
  wf : ∀ q, q < ys.length → (Lit.int .i64 (it ys q).1).wf = true

theorem it_mem {xs : List Itm} {i : Nat} (h : i < xs.length) : it xs i ∈ xs := by
  unfold it; rw [List.getD_eq_getElem?_getD, List.getElem?_eq_getElem h]; exact List.getElem_mem h
theorem mem_it {xs : List Itm} {x : Itm} (h : x ∈ xs) : ∃ i, i < xs.length ∧ it xs i = x := by
  obtain ⟨i, hi, e⟩ := List.getElem_of_mem h
  exact ⟨i, hi, by unfold it; rw [List.getD_eq_getElem?_getD, List.getElem?_eq_getElem hi]; exact e⟩
theorem it_get {xs : List Itm} {i : Nat} (h : i < xs.length) : xs[i] = it xs i := by
  unfold it; rw [List.getD_eq_getElem?_getD, List.getElem?_eq_getElem h]; rfl

theorem sorted_of {xs ys : List Itm} {M : Int → Option Nat} (hp : Places M xs) (perm : ys.Perm xs) (srt : ∀ i j, i < j → j < ys.length → (it ys i).1 ≤ (it ys j).1) (hw : ∀ q, q < xs.length → (Lit.int .i64 (it xs q).1).wf = true) : SortedOf (Cont M xs) ys := by
  have nd : (xs.map (·.1)).Nodup := by
    rw [List.nodup_iff_pairwise_ne, List.pairwise_iff_getElem]
    intro i j hi hj hij e
    simp only [List.length_map] at hi hj
    simp only [List.getElem_map] at e
    rw [it_get hi, it_get hj] at e
    have := places_key hp hi hj e
    omega
  have nd2 : (ys.map (·.1)).Nodup := (perm.map (·.1)).nodup_iff.2 nd
  refine ⟨?_, fun k p => ?_, fun q hq => ?_⟩
  · rw [List.pairwise_iff_getElem]
    intro i j hi hj hij
    have h1 := srt i j hij hj
    rw [it_get hi, it_get hj]
    have h2 : (it ys i).1 ≠ (it ys j).1 := by
      rw [List.nodup_iff_pairwise_ne, List.pairwise_iff_getElem] at nd2
      have := nd2 i j (by simpa using hi) (by simpa using hj) hij
      simp only [List.getElem_map] at this
      rw [it_get hi, it_get hj] at this
      exact this
    omega
  · rw [perm.mem_iff, cont_some hp]
    constructor
    · intro h; exact mem_it h
    · rintro ⟨i, hi, e⟩; rw [← e]; exact it_mem hi
  · obtain ⟨i, hi, e⟩ := mem_it (perm.mem_iff.1 (it_mem hq))
    rw [← e]; exact hw i hi

/-- Two lists of the same things are one. -/
theorem SortedOf.unique : ∀ {C : Int → Option Int} {xs ys : List Itm}, SortedOf C xs → SortedOf C ys → xs = ys := by
  intro C xs ys h g
  have key : ∀ (xs ys : List Itm), xs.Pairwise (fun a b => a.1 < b.1) → ys.Pairwise (fun a b => a.1 < b.1) → (∀ x, x ∈ xs ↔ x ∈ ys) → xs = ys := by
    intro xs
    induction xs with
    | nil =>
      intro ys _ _ e
      cases ys with
      | nil => rfl
      | cons y r => exact absurd ((e y).2 (List.mem_cons_self)) (by simp)
    | cons x r ih =>
      intro ys h g e
      cases ys with
      | nil => exact absurd ((e x).1 List.mem_cons_self) (by simp)
      | cons y s =>
        obtain ⟨h1, h2⟩ := List.pairwise_cons.1 h
        obtain ⟨g1, g2⟩ := List.pairwise_cons.1 g
        have exy : x = y := by
          rcases List.mem_cons.1 ((e x).1 List.mem_cons_self) with c | c
          · exact c
          · rcases List.mem_cons.1 ((e y).2 List.mem_cons_self) with d | d
            · exact d.symm
            · have := g1 x c; have := h1 y d; omega
        subst exy
        congr 1
        refine ih s h2 g2 fun z => ⟨fun hz => ?_, fun hz => ?_⟩
        · rcases List.mem_cons.1 ((e z).1 (List.mem_cons_of_mem _ hz)) with c | c
          · subst c; exact absurd (h1 _ hz) (by omega)
          · exact c
        · rcases List.mem_cons.1 ((e z).2 (List.mem_cons_of_mem _ hz)) with c | c
          · subst c; exact absurd (g1 _ hz) (by omega)
          · exact c
  exact key xs ys h.lt g.lt fun ⟨k, p⟩ => (h.mem k p).trans (g.mem k p).symm

def encIt (x : Itm) : List Value := [.int .i64 x.1, .int .i64 x.2]
theorem flat_cells (xs : List Itm) : flatK encIt 2 xs.toArray = (cellsL xs).toArray := by
  apply Array.ext_getElem?
  intro t
  by_cases ht : t < xs.length * 2
  · have h1 : (flatK encIt 2 xs.toArray)[t]? = some (flatK encIt 2 xs.toArray)[t]! := by
      rw [getElem!_pos _ t (by simpa using ht), Array.getElem?_eq_getElem]
    rw [h1, get_flatK _ _ _ _ (by simpa using ht)]
    have hq : t / 2 < xs.length := by omega
    have e : xs.toArray[t / 2]! = it xs (t / 2) := by
      rw [getElem!_pos _ _ (by simpa using hq), List.getElem_toArray, it_get hq]
    rw [e, List.getElem?_toArray]
    obtain ⟨c0, c1⟩ := cellsL_get xs (t / 2) hq
    rcases Nat.mod_two_eq_zero_or_one t with m | m
    · rw [show t = t / 2 * 2 by omega, c0, show t / 2 * 2 / 2 = t / 2 by omega, show t / 2 * 2 % 2 = 0 by omega]; rfl
    · rw [show t = t / 2 * 2 + 1 by omega, c1, show (t / 2 * 2 + 1) / 2 = t / 2 by omega, show (t / 2 * 2 + 1) % 2 = 1 by omega]; rfl
  · rw [Array.getElem?_eq_none (by simp; omega), Array.getElem?_eq_none (by simp [cellsL_length]; omega)]

theorem holds_cells {w : World} {g : Nat} {cur : Array Value} {e : TypeId} {vs : List Value} (hb : w.heap[g]? = some (.cells cur e (0, 0))) (ht : cur.toList.take vs.length = vs) : Holds id w g 0 vs.toArray := by
  intro j hj
  have hj' : j < vs.length := by simpa using hj
  refine ⟨?_, by simp [World.frozen?, hb]⟩
  have h1 : (cur.toList.take vs.length)[j]? = vs[j]? := by rw [ht]
  rw [List.getElem?_take_of_lt hj'] at h1
  simp only [World.cell?, hb, Nat.zero_add]
  simp only [Option.isSome_none, Bool.false_eq_true, if_false]
  rw [← Array.getElem?_toList, h1]
  simp [hj']

theorem heap_sortedV {w : World} {g n : Nat} {os : Array Obj} {cur : Array Value} {e : TypeId} {fr : Nat × Nat} (d : Array Value) (hb : w.heap[g]? = some (.cells cur e fr)) :
    (grow (putRow id (Sort.ahead w n) g 0 d) os).heap[g]? = some (.cells (putCells id 0 d cur) e fr) := by
  have hg : g < w.heap.size := (Array.getElem?_eq_some_iff.1 hb).1
  rw [heap_grow_old _ _ (by simpa using hg)]
  simp [putRow, mapBlock, Sort.ahead, Array.getElem?_modify, hb, onCells]

theorem grownBy_sortedV {w : World} {g n : Nat} {os : Array Obj} (d : Array Value) : w.grownBy (grow (putRow id (Sort.ahead w n) g 0 d) os) (some g) := by
  refine ⟨rfl, rfl, rfl, by simp, fun k hk hne => ?_⟩
  rw [heap_grow_old _ _ (by simpa using hk)]
  have : g ≠ k := fun e => hne (by rw [e])
  simp [putRow, mapBlock, Sort.ahead, Array.getElem?_modify, this]

theorem take_putCellsV (cur : Array Value) (ts : List Value) (h : ts.length ≤ cur.size) : (putCells id 0 ts.toArray cur).toList.take ts.length = ts := by
  apply List.ext_getElem?
  intro j
  by_cases hj : j < ts.length
  · rw [List.getElem?_take_of_lt hj, Array.getElem?_toList]
    simp [putCells, hj, show j < cur.size by omega]
  · rw [List.getElem?_take_eq_none (by omega), List.getElem?_eq_none (by omega)]

theorem row_sorted {w : World} {base g cap n : Nat} {e : TypeId} {os : Array Obj} {cur : Array Value} {xs ys : List Itm} (hl : ys.length = xs.length) (hbase : base ≤ g) (hb : w.heap[g]? = some (.cells cur e (0, 0)))
    (h1 : xs.length ≤ cap) (h2 : cap ≤ maxLen) (h3 : cur.size = cap * 2) :
    (sortWorldK encIt 2 w g 0 n ys.toArray os).ownsRow base e 2 (.slice (some ⟨g, 0, none⟩) xs.length cap) xs.length (cellsL ys) := by
  unfold sortWorldK putRowK
  rw [flat_cells]
  exact ⟨by rw [cellsL_length, hl], .inr ⟨g, cap, _, rfl, hbase, heap_sortedV _ hb, h1, h2, by simp [putCells, h3], by
    have := take_putCellsV cur (cellsL ys) (by rw [cellsL_length]; omega)
    rw [cellsL_length, hl] at this; exact this⟩⟩
end Go.Proofs.Ytclekakhgaggdaa.HeapC
