/- The heap in memory, and what each of its functions does to it. -/
import Derived.Test.YtclekakhgaggdaaProg
import Derived.Test.YtclekakhgaggdaaHeapM
import Derived.Test.YtclekakhgaggdaaWWords
import Derived.Test.YtclekakhgaggdaaWLast
import Derived.Test.YtclekakhgaggdaaWMore
import Derived.WalkKit
import Derived.KernelRfl
import Derived.Outline
import Derived.Lib.Hide
import Derived.Handy
import Derived.RegionTactic
import Derived.Deep.QuietTactic
import Derived.BigQuiet
namespace Go.Proofs.Ytclekakhgaggdaa.HeapC
open Go.RowKit Go.Proofs.Ytclekakhgaggdaa.HeapT Go.Proofs.Ytclekakhgaggdaa.HeapM Go.Proofs.YtclekakhgaggdaaW.PrintWords Go.Proofs.YtclekakhgaggdaaW.PrintLast Go.Proofs.YtclekakhgaggdaaW.PrintMore
set_option linter.unusedVariables false
set_option linter.unusedSimpArgs false

def cellsL : List Itm → List Value
  | [] => []
  | x :: r => .int .i64 x.1 :: .int .i64 x.2 :: cellsL r
theorem cellsL_length : ∀ xs : List Itm, (cellsL xs).length = xs.length * 2
  | [] => rfl
  | x :: r => by simp only [cellsL, List.length_cons, cellsL_length r]; omega
theorem cellsL_append : ∀ (xs ys : List Itm), cellsL (xs ++ ys) = cellsL xs ++ cellsL ys
  | [], _ => rfl
  | x :: r, ys => by simp only [List.cons_append, cellsL, cellsL_append r ys]
theorem cellsL_get : ∀ (xs : List Itm) (i : Nat), i < xs.length → (cellsL xs)[i * 2]? = some (.int .i64 (it xs i).1) ∧ (cellsL xs)[i * 2 + 1]? = some (.int .i64 (it xs i).2)
  | [], _, h => absurd h (by simp)
  | x :: r, 0, _ => ⟨rfl, rfl⟩
  | x :: r, i + 1, h => by
    have := cellsL_get r i (by simpa using h)
    have e : it (x :: r) (i + 1) = it r i := rfl
    rw [e, show (i + 1) * 2 = i * 2 + 1 + 1 by omega, show i * 2 + 1 + 1 + 1 = (i * 2 + 1) + 1 + 1 by omega]
    exact this
theorem cellsL_set : ∀ (xs : List Itm) (i : Nat) (x : Itm), i < xs.length → cellsL (xs.set i x) = ((cellsL xs).set (i * 2) (.int .i64 x.1)).set (i * 2 + 1) (.int .i64 x.2)
  | [], _, _, h => absurd h (by simp)
  | y :: r, 0, x, _ => rfl
  | y :: r, i + 1, x, h => by
    have := cellsL_set r i x (by simpa using h)
    rw [show (i + 1) * 2 = i * 2 + 1 + 1 by omega]
    simp only [List.set_cons_succ, cellsL, this]

/-- A heap lies at g: its items in v's row, the places in the map mb. -/
structure HMem (w : World) (g mb : Nat) (v : Value) (xs : List Itm) (M : Int → Option Nat) (most : Int) (N : Nat) : Prop where
  head : w.heap[g]? = some (.cells #[v, .map (some mb), .int .i64 most] 75 (0, 0))
  row : w.ownsRow 0 63 2 v xs.length (cellsL xs)
  map : IMap Try.prog 3 3 w mb N M
  gm : g ≠ mb
  vg : v.ownBlock ≠ some g
  vm : v.ownBlock ≠ some mb

/-- The row, where there is an item. -/
theorem HMem.at {w : World} {g mb : Nat} {v : Value} {xs : List Itm} {M : Int → Option Nat} {most : Int} {N : Nat} (h : HMem w g mb v xs M most N) (hn : 0 < xs.length) :
    ∃ r cap cur, v = .slice (some ⟨r, 0, none⟩) xs.length cap ∧ w.heap[r]? = some (.cells cur 63 (0, 0)) ∧ r ≠ g ∧ r ≠ mb ∧ xs.length ≤ cap ∧ cap ≤ maxLen ∧ cur.size = cap * 2 ∧ cur.toList.take (xs.length * 2) = cellsL xs := by
  obtain ⟨_, h1 | ⟨r, cap, cur, rfl, _, h2, h3, h4, h5, h6⟩⟩ := h.row
  · omega
  · refine ⟨r, cap, cur, rfl, h2, ?_, ?_, h3, h4, h5, h6⟩
    · intro e; exact h.vg (by simp [Value.ownBlock, e])
    · intro e; exact h.vm (by simp [Value.ownBlock, e])
theorem HMem.val {w : World} {g mb : Nat} {v : Value} {xs : List Itm} {M : Int → Option Nat} {most : Int} {N : Nat} (h : HMem w g mb v xs M most N) : ∃ a cap, v = .slice a xs.length cap := by
  rcases h.row.2 with ⟨h1, h2⟩ | ⟨r, cap, cur, h1, _⟩
  · exact ⟨none, 0, by rw [h1, h2]⟩
  · exact ⟨_, _, h1⟩
theorem cur_get {cur : Array Value} {xs : List Itm} (h : cur.toList.take (xs.length * 2) = cellsL xs) (i : Nat) (hi : i < xs.length) :
    cur[i * 2]? = some (.int .i64 (it xs i).1) ∧ cur[i * 2 + 1]? = some (.int .i64 (it xs i).2) := by
  have := cellsL_get xs i hi
  rw [← h, List.getElem?_take, List.getElem?_take, if_pos (by omega), if_pos (by omega)] at this
  simpa using this
theorem HMem.keep {w w' : World} {g mb : Nat} {v : Value} {xs : List Itm} {M : Int → Option Nat} {most : Int} {N : Nat} {S : Nat → Prop} (h : HMem w g mb v xs M most N) (c : Chg w w' S)
    (d : ∀ k, S k → k ≠ g ∧ k ≠ mb ∧ v.ownBlock ≠ some k) : HMem w' g mb v xs M most N := by
  refine ⟨c.blk h.head (fun e => (d g e).1 rfl), row_keep c h.row (fun k e => (d k e).2.2), ?_, h.gm, h.vg, h.vm⟩
  obtain ⟨o, ho⟩ := IMap.blk h.map
  exact h.map.congr (c.block mb (HeapM.blk_lt ho) (fun e => (d mb e).2.1 rfl))
theorem HMem.rowLt {w : World} {g mb : Nat} {v : Value} {xs : List Itm} {M : Int → Option Nat} {most : Int} {N : Nat} (h : HMem w g mb v xs M most N) : ∀ k, v.ownBlock = some k → k < w.heap.size := fun k e => (h.row.lt k e).2
theorem HMem.mapLt {w : World} {g mb : Nat} {v : Value} {xs : List Itm} {M : Int → Option Nat} {most : Int} {N : Nat} (h : HMem w g mb v xs M most N) : mb < w.heap.size := by
  obtain ⟨o, ho⟩ := IMap.blk h.map
  exact HeapM.blk_lt ho
def OwnB (v : Value) (mb : Nat) (k : Nat) : Prop := v.ownBlock = some k ∨ k = mb
theorem not_own {v : Value} {mb b n : Nat} (hv : ∀ k, v.ownBlock = some k → k < n) (hm : mb < n) (hb : n ≤ b) : ¬ OwnB v mb b := by
  rintro (e | e)
  · have := hv b e; omega
  · omega

set_option maxHeartbeats 1000000 in
set_option maxRecDepth 20000 in
theorem set_calls (w : World) (g mb : Nat) (v : Value) (xs : List Itm) (M : Int → Option Nat) (most : Int) (N : Nat) (h : HMem w g mb v xs M most N) (hN : N < 9000000000000000000)
    (i : Int) (k p : Int) (hi : 0 ≤ i) (hn : i < xs.length) (hk : (Lit.int .i64 k).wf = true) :
    Calls Try.prog 42 #[.pointer (some ⟨g, 0, none⟩), .int .i64 i, .agg #[.int .i64 k, .int .i64 p]] w fun e w' =>
      e = .returned (.tuple #[]) ∧ Chg w w' (OwnB v mb) ∧ HMem w' g mb v (xs.set i.toNat (k, p)) (upd M k (some i.toNat)) most (N + 1) := by
  obtain ⟨j, rfl⟩ := Int.eq_ofNat_of_zero_le hi
  rw [Int.toNat_natCast]
  have hj : j < xs.length := by omega
  obtain ⟨r, cap, cur, rfl, hr, hrg, hrm, hl, hcap, hsz, htk⟩ := h.at (by omega)
  have hlen : xs.length ≤ 9223372036854775807 := by unfold maxLen at hcap; omega
  obtain ⟨q0, q1⟩ := cur_get htk j hj
  have hh := Aside0.mk h
  have h0 : w.cell? ⟨g, 0, none⟩ = some (.slice (some ⟨r, 0, none⟩) xs.length cap) := (HeapM.blk_cell h.head 0).trans rfl
  have c0 : w.cell? ⟨r, j * 2, none⟩ = some (.int .i64 (it xs j).1) := (HeapM.blk_cell hr _).trans q0
  have c1 : w.cell? ⟨r, j * 2 + 1, none⟩ = some (.int .i64 (it xs j).2) := (HeapM.blk_cell hr _).trans q1
  have f0 : w.frozen? ⟨r, j * 2, none⟩ = false := HeapM.blk_free hr _
  have f1 : w.frozen? ⟨r, j * 2 + 1, none⟩ = false := HeapM.blk_free hr _
  have lg : g < w.heap.size := HeapM.blk_lt h.head
  have lr : r < w.heap.size := HeapM.blk_lt hr
  have ag : ∀ (o : Obj) (off : Nat), (w.alloc o).cell? ⟨g, off, none⟩ = w.cell? ⟨g, off, none⟩ := fun o off => World.cell?_alloc_lt _ _ _ lg
  have ar : ∀ (o : Obj) (off : Nat), (w.alloc o).cell? ⟨r, off, none⟩ = w.cell? ⟨r, off, none⟩ := fun o off => World.cell?_alloc_lt _ _ _ lr
  have fr : ∀ (o : Obj) (off : Nat), (w.alloc o).frozen? ⟨r, off, none⟩ = w.frozen? ⟨r, off, none⟩ := fun o off => World.frozen?_alloc_old _ _ _ (by simp; omega)
  have hr' := Aside0.mk hr
  have htk' := Aside0.mk htk
  have hsz' := Aside0.mk hsz
  clear h hr htk hsz q0 q1
  go_enter Try.func42, Try.ntmps42
  go_wp2
  go_region
  go_wp2
  obtain ⟨B, hB⟩ : ∃ B, B = w.heap.size := ⟨_, rfl⟩
  obtain ⟨W1, hW⟩ : ∃ W1, W1 = (((w.setCell ⟨r, j * 2, none⟩ (.int .i64 k)).setCell ⟨r, j * 2 + 1, none⟩ (.int .i64 p)).alloc (.cells #[.int .i64 k, .int .i64 p] 63)).drew := ⟨_, rfl⟩
  have hc := hh.out.head
  have hm := hh.out.map
  rw [← hW, ← hB]
  have hr1 := HeapM.blk_set_same hr'.out (j * 2) (.int .i64 k) (by have := hsz'.out; omega)
  have hr2 := HeapM.blk_set_same hr1 (j * 2 + 1) (.int .i64 p) (by rw [Array.size_setIfInBounds]; have := hsz'.out; omega)
  have hg1 := HeapM.blk_set_other (HeapM.blk_set_other hc ⟨r, j * 2, none⟩ (.int .i64 k) (Ne.symm hrg)) ⟨r, j * 2 + 1, none⟩ (.int .i64 p) (Ne.symm hrg)
  have ch : Chg w W1 (OwnB (.slice (some ⟨r, 0, none⟩) xs.length cap) mb) := by
    rw [hW]
    exact ((((Chg.refl _ _).setCell (.inl (.inl rfl)) _).setCell (.inl (.inl rfl)) _).alloc _).drew
  have s1 : W1.drew.cell? ⟨g, 1, none⟩ = some (.map (some mb)) := by
    rw [hW]; exact (HeapM.blk_cell (HeapM.blk_alloc hg1 _) 1).trans rfl
  have s2 : W1.drew.cell? ⟨B, 0, none⟩ = some (.int .i64 k) := by
    have e : B = ((w.setCell ⟨r, j * 2, none⟩ (.int .i64 k)).setCell ⟨r, j * 2 + 1, none⟩ (.int .i64 p)).heap.size := by rw [hB]; simp [World.setCell]
    rw [hW, e]; exact (HeapM.blk_cell (HeapM.blk_new _ _) 0).trans rfl
  have hr3 : Aside0 (W1.heap[r]? = some (.cells ((cur.setIfInBounds (j * 2) (.int .i64 k)).setIfInBounds (j * 2 + 1) (.int .i64 p)) 63 (0, 0))) := ⟨by rw [hW]; exact HeapM.blk_alloc hr2 _⟩
  have hg3 : Aside0 (W1.heap[g]? = some (.cells #[.slice (some ⟨r, 0, none⟩) xs.length cap, .map (some mb), .int .i64 most] 75 (0, 0))) := ⟨by rw [hW]; exact HeapM.blk_alloc hg1 _⟩
  have sm : Aside0 (IMap Try.prog 3 3 W1 mb N M) := ⟨IMap.congr hm (by
    obtain ⟨o, ho⟩ := IMap.blk hm
    rw [ho, hW]
    exact HeapM.blk_alloc (HeapM.blk_set_other (HeapM.blk_set_other ho _ _ (Ne.symm hrm)) _ _ (Ne.symm hrm)) _)⟩
  have ch' := Aside0.mk ch
  clear hW hB hr1 hr2 hg1 hc hm ch h0 c0 c1 f0 f1 ag ar fr
  refine start_ (n := 8) (S := fun w' => w'.cell? ⟨g, 1, none⟩ = some (.map (some mb)) ∧ w'.cell? ⟨B, 0, none⟩ = some (.int .i64 k)) (ds := [7]) #[false, false, false, false, false, false, false, false] (by kernel_rfl) rfl rfl ⟨s1, s2⟩ (fun hHeld => ?_)
  refine pure_ (i := 0) (N := some 13) (v := ?_) (a' := ?_) #[true, false, false, false, false, false, false, false] rfl rfl (by kernel_rfl) (fun _ _ _ h => h) (Or.inl ⟨by rfl, ?_⟩) ?_ ?_
  rotate_left
  · intro w'
    go_simp
    with_reducible rfl
  rotate_left
  · simp only [Act.put, List.setIfInBounds_toArray, List.set_cons_zero, List.set_cons_succ, i64_w, i32_w]
    rfl
  refine pure_ (i := 1) (N := some 14) (v := ?_) (a' := ?_) #[true, true, false, false, false, false, false, false] rfl rfl (by kernel_rfl) (fun _ _ _ h => h) (Or.inl ⟨by rfl, ?_⟩) ?_ ?_
  rotate_left
  · intro w'
    go_simp
    with_reducible rfl
  rotate_left
  · simp only [Act.put, List.setIfInBounds_toArray, List.set_cons_zero, List.set_cons_succ, i64_w, i32_w]
    rfl
  refine pure_ (i := 2) (N := some 15) (v := ?_) (a' := ?_) #[true, true, true, false, false, false, false, false] rfl rfl (by kernel_rfl) (fun _ _ _ h => h) (Or.inl ⟨by rfl, ?_⟩) ?_ ?_
  rotate_left
  · intro w'
    go_simp
    with_reducible rfl
  rotate_left
  · simp only [Act.put, List.setIfInBounds_toArray, List.set_cons_zero, List.set_cons_succ, i64_w, i32_w]
    rfl
  refine pure_ (i := 4) (N := some 17) (v := ?_) (a' := ?_) #[true, true, true, false, true, false, false, false] rfl rfl (by kernel_rfl) (fun _ _ _ h => h) (Or.inl ⟨by rfl, ?_⟩) ?_ ?_
  rotate_left
  · intro w'
    go_simp
    with_reducible rfl
  rotate_left
  · simp only [Act.put, List.setIfInBounds_toArray, List.set_cons_zero, List.set_cons_succ, i64_w, i32_w]
    rfl
  refine pure_ (i := 6) (N := some 19) (v := ?_) (a' := ?_) #[true, true, true, false, true, false, true, false] rfl rfl (by kernel_rfl) (fun _ _ _ h => h) (Or.inl ⟨by rfl, ?_⟩) ?_ ?_
  rotate_left
  · intro w'
    go_simp
    with_reducible rfl
  rotate_left
  · simp only [Act.put, List.setIfInBounds_toArray, List.set_cons_zero, List.set_cons_succ, i64_w, i32_w]
    rfl
  refine take_ (i := 3) (N := some 16) (v := ?_) (a' := ?_) #[true, true, true, true, true, false, true, false] rfl rfl (by kernel_rfl) (fun _ _ _ h => h) (Or.inl ⟨by rfl, ?_⟩) hHeld ?_ ?_
  rotate_left
  · rintro w' ⟨s0, s1⟩
    go_simp
    with_reducible rfl
  rotate_left
  · simp only [Act.put, List.setIfInBounds_toArray, List.set_cons_zero, List.set_cons_succ, i64_w, i32_w]
    rfl
  refine take_ (i := 5) (N := some 18) (v := ?_) (a' := ?_) #[true, true, true, true, true, true, true, false] rfl rfl (by kernel_rfl) (fun _ _ _ h => h) (Or.inl ⟨by rfl, ?_⟩) hHeld ?_ ?_
  rotate_left
  · rintro w' ⟨s0, s1⟩
    go_simp
    with_reducible rfl
  rotate_left
  · simp only [Act.put, List.setIfInBounds_toArray, List.set_cons_zero, List.set_cons_succ, i64_w, i32_w]
    rfl
  refine last_ (i := 7) (N := none) #[true, true, true, true, true, true, true, true] rfl rfl (by kernel_rfl) (by decide) (fun K hK => ?_)
  obtain ⟨w9, hu1, hu2, hu3⟩ := IMap.update (tm := 73) Try.underlying73 Try.underlying3 Try.underlying3 (w := W1.drew) (IMap.congr sm.out rfl) hN k j hk (by omega)
  refine skip_ (w1 := w9) (by rfl) rfl ?_ ?_
  · go_simp
    done
  refine hK.out _ _ ?_
  clear hK K
  refine done_ (by kernel_rfl) ?_

  go_end0
  have hmg := hh.out.gm
  have r9 : w9.heap[r]? = _ := (hu3.block r (HeapM.blk_lt hr3.out) (by simp; exact hrm)).trans hr3.out
  have g9 : w9.heap[g]? = _ := (hu3.block g (HeapM.blk_lt hg3.out) (by simp; exact hmg)).trans hg3.out
  refine ⟨rfl, ?_, ⟨g9, ?_, hu2, hmg, hh.out.vg, hh.out.vm⟩⟩
  · refine ch'.out.drew.grown hu3 (fun b e => .inl (.inr ?_)); exact (Option.some.inj e).symm
  · refine ⟨by rw [cellsL_length], .inr ⟨r, cap, _, by rw [List.length_set], Nat.zero_le _, r9, by rw [List.length_set]; exact hl, hcap, by simp [hsz'.out], ?_⟩⟩
    rw [List.length_set, cellsL_set _ _ _ hj, ← htk'.out]
    simp only [Array.toList_setIfInBounds]
    rw [List.take_set, List.take_set]

set_option maxHeartbeats 1000000 in
set_option maxRecDepth 20000 in
theorem swap_calls (w : World) (g mb : Nat) (v : Value) (xs : List Itm) (M : Int → Option Nat) (most : Int) (N : Nat) (h : HMem w g mb v xs M most N) (hN : N < 8000000000000000000)
    (i j : Int) (hi : 0 ≤ i) (hin : i < xs.length) (hj : 0 ≤ j) (hjn : j < xs.length) (hk : ∀ q, q < xs.length → (Lit.int .i64 (it xs q).1).wf = true) :
    Calls Try.prog 47 #[.pointer (some ⟨g, 0, none⟩), .int .i64 i, .int .i64 j] w fun e w' =>
      e = .returned (.tuple #[]) ∧ Chg w w' (OwnB v mb) ∧ HMem w' g mb v (swp xs i.toNat j.toNat) (upd (upd M (it xs j.toNat).1 (some i.toNat)) (it xs i.toNat).1 (some j.toNat)) most (N + 2) := by
  obtain ⟨a, rfl⟩ := Int.eq_ofNat_of_zero_le hi
  obtain ⟨b, rfl⟩ := Int.eq_ofNat_of_zero_le hj
  rw [Int.toNat_natCast, Int.toNat_natCast]
  have ha : a < xs.length := by omega
  have hb : b < xs.length := by omega
  obtain ⟨r, cap, cur, rfl, hr, hrg, hrm, hl, hcap, hsz, htk⟩ := h.at (by omega)
  have hlen : xs.length ≤ 9223372036854775807 := by unfold maxLen at hcap; omega
  obtain ⟨q0, q1⟩ := cur_get htk a ha
  obtain ⟨q2, q3⟩ := cur_get htk b hb
  have hh := Aside0.mk h
  have h0 : w.cell? ⟨g, 0, none⟩ = some (.slice (some ⟨r, 0, none⟩) xs.length cap) := (HeapM.blk_cell h.head 0).trans rfl
  have c0 : w.cell? ⟨r, a * 2, none⟩ = some (.int .i64 (it xs a).1) := (HeapM.blk_cell hr _).trans q0
  have c1 : w.cell? ⟨r, a * 2 + 1, none⟩ = some (.int .i64 (it xs a).2) := (HeapM.blk_cell hr _).trans q1
  have c2 : w.cell? ⟨r, b * 2, none⟩ = some (.int .i64 (it xs b).1) := (HeapM.blk_cell hr _).trans q2
  have c3 : w.cell? ⟨r, b * 2 + 1, none⟩ = some (.int .i64 (it xs b).2) := (HeapM.blk_cell hr _).trans q3
  have lg : g < w.heap.size := HeapM.blk_lt h.head
  have lr : r < w.heap.size := HeapM.blk_lt hr
  have ag : ∀ (W : World) (o : Obj) (off : Nat), w.heap.size ≤ W.heap.size → (W.alloc o).cell? ⟨g, off, none⟩ = W.cell? ⟨g, off, none⟩ := fun W o off hs => World.cell?_alloc_lt _ _ _ (by simp; omega)
  have ar : ∀ (W : World) (o : Obj) (off : Nat), w.heap.size ≤ W.heap.size → (W.alloc o).cell? ⟨r, off, none⟩ = W.cell? ⟨r, off, none⟩ := fun W o off hs => World.cell?_alloc_lt _ _ _ (by simp; omega)
  obtain ⟨x0, hx0⟩ : ∃ x, x = (it xs a).1 := ⟨_, rfl⟩
  obtain ⟨x1, hx1⟩ : ∃ x, x = (it xs a).2 := ⟨_, rfl⟩
  obtain ⟨y0, hy0⟩ : ∃ x, x = (it xs b).1 := ⟨_, rfl⟩
  obtain ⟨y1, hy1⟩ : ∃ x, x = (it xs b).2 := ⟨_, rfl⟩
  rw [← hx0] at c0; rw [← hx1] at c1; rw [← hy0] at c2; rw [← hy1] at c3
  have Hx0 := Aside0.mk hx0; have Hx1 := Aside0.mk hx1; have Hy0 := Aside0.mk hy0; have Hy1 := Aside0.mk hy1
  have hk' := Aside0.mk hk
  clear h hr htk hsz q0 q1 q2 q3 hx0 hx1 hy0 hy1 hk
  go_enter Try.func47, Try.ntmps47
  go_wp2_with fail
  go_region
  all_goals
    go_wp2_with fail
    refine (set_calls _ g mb _ xs M most N (HMem.keep hh.out (S := fun _ => False) ((((Chg.refl _ _).alloc _).alloc _).drew) (fun _ e => e.elim)) (by omega) a y0 y1 hi hin (by rw [Hy0.out]; exact hk'.out b hb)).mono ?_
    rintro e w2 ⟨rfl, ch2, hm2⟩
    have lm := hh.out.mapLt
    have z0 := fun off => ch2.cell (b := w.heap.size) (by simp; omega) (not_own hh.out.rowLt lm (by omega)) off
    have z1 := fun off => ch2.cell (b := w.heap.size + 1) (by simp) (not_own hh.out.rowLt lm (by omega)) off
    rw [Int.toNat_natCast] at hm2
    have ch2' := Aside0.mk ch2
    have hm2' := Aside0.mk hm2
    clear ch2 hm2
    go_wp2_with fail
    refine (set_calls _ g mb _ (xs.set a (y0, y1)) (upd M y0 (some a)) most (N + 1) hm2'.out (by omega) b x0 x1 hj (by rw [List.length_set]; exact hjn) (by rw [Hx0.out]; exact hk'.out a ha)).mono ?_
    rintro e w3 ⟨rfl, ch3, hm3⟩
    rw [Int.toNat_natCast] at hm3
    go_wp2
    go_returns
    refine ⟨rfl, ?_, ?_⟩
    · exact (((((Chg.refl _ _).alloc _).alloc _).drew).trans ch2'.out (fun _ e => .inl e)).trans ch3 (fun _ e => .inl e)
    · unfold swp
      have e1 : it xs b = (y0, y1) := Prod.ext Hy0.out.symm Hy1.out.symm
      have e2 : it xs a = (x0, x1) := Prod.ext Hx0.out.symm Hx1.out.symm
      rw [e1, e2]
      exact hm3
end Go.Proofs.Ytclekakhgaggdaa.HeapC
