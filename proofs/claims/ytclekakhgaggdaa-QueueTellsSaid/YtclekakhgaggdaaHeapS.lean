/- What All tells. -/
import Derived.Test.YtclekakhgaggdaaHeapN
import Derived.Shelf.SlSortCmp.NoneTotal
import Derived.Shelf.SlicesG.Cmp
import Derived.Test.YtclekakhgaggdaaShelf
namespace Go.Proofs.Ytclekakhgaggdaa.HeapC
open Go.RowKit Go.Proofs.Ytclekakhgaggdaa.HeapT Go.Proofs.Ytclekakhgaggdaa.HeapM Go.Proofs.YtclekakhgaggdaaW.PrintWords Go.Proofs.YtclekakhgaggdaaW.PrintLast Go.Proofs.YtclekakhgaggdaaW.PrintMore Go.Sort Go.Shelf
set_option linter.unusedVariables false
set_option linter.unusedSimpArgs false

def byKey (x y : Itm) : Int := Lib.compareInt x.1 y.1
theorem lt_byKey (x y : Itm) : ltOf byKey x y = decide (x.1 < y.1) := by
  unfold ltOf byKey Lib.compareInt
  by_cases h1 : x.1 < y.1
  · simp [h1]
  · by_cases h2 : y.1 < x.1 <;> simp [h1, h2]
theorem swo_byKey : SWO (ltOf byKey) where
  irrefl x := by rw [lt_byKey]; simp
  trans x y z h1 h2 := by rw [lt_byKey] at *; simp at *; omega
  ntrans x y z h1 h2 := by rw [lt_byKey] at *; simp at *; omega

set_option maxHeartbeats 1000000 in
theorem byKey_calls (x y : Itm) (W : World) : Calls Try.prog 50 #[.agg #[.int .i64 x.1, .int .i64 x.2], .agg #[.int .i64 y.1, .int .i64 y.2]] W fun e w' => e = .returned (.int .i64 (byKey x y)) ∧ ∃ q os', w' = grow (W.drewN q) os' := by
  have hcon := fun W' => AnyG.cmp_Compare_int Try.cmpInt x.1 y.1 W'
  change ∀ W', Calls Try.prog 51 _ _ _ at hcon
  unfold byKey
  generalize Lib.compareInt x.1 y.1 = r at hcon ⊢
  go_enter Try.func50, Try.ntmps50
  go_wp2_with (go_at_call 51; refine (hcon _).mono ?_; rintro e w' ⟨rfl, rfl⟩)
  go_ret
  exact ⟨rfl, 0, _, by rw [alloc_eq_grow, alloc_eq_grow, grow_grow]; rfl⟩

set_option maxHeartbeats 1000000 in
theorem sort_some (g cap : Nat) (xs : List Itm) (cur : Array Value) (M : Int → Option Nat) (w : World) (B : Nat) (hB : B ≤ g) (hb : w.heap[g]? = some (.cells cur 63 (0, 0))) (h1 : xs.length ≤ cap) (h2 : cap ≤ maxLen) (h3 : cur.size = cap * 2) (ht : cur.toList.take (xs.length * 2) = cellsL xs)
    (hbig : xs.length ≤ 1000000) (hp : Places M xs) (hw : ∀ q, q < xs.length → (Lit.int .i64 (it xs q).1).wf = true) :
    Calls Try.prog 49 #[.slice (some ⟨g, 0, none⟩) xs.length cap, .func (.func 50) #[] #[]] w fun e w' => e = .returned (.tuple #[]) ∧
      ∃ ys, SortedOf (Cont M xs) ys ∧ ys.length = xs.length ∧ w'.ownsRow B 63 2 (.slice (some ⟨g, 0, none⟩) xs.length cap) xs.length (cellsL ys) ∧ w.grownBy w' (some g) := by
  have eg : ∀ args w, (callFunc 50 args).run Try.prog w = .ok (.enter 50 args) w := enters_of Try.func50 (by kernel_rfl) rfl
  have hH : HoldsK encIt 2 w g 0 xs.toArray := by
    unfold HoldsK
    rw [flat_cells]
    exact holds_cells hb (by rw [cellsL_length]; exact ht)
  have hcon := AnyQ.slices_SortFunc Try.sortIt 2 Try.isAgg63 Try.sizeOf63 encIt (fun _ => rfl) (fun x v hv => by simp [encIt] at hv; rcases hv with rfl | rfl <;> rfl) byKey swo_byKey 50 #[] g 0 cap xs.toArray w eg (fun _ _ _ _ x y => byKey_calls x y _) hH (HeapM.blk_lt hb) (by simp; omega)
  change Calls Try.prog 49 _ _ _ at hcon
  refine Calls.mono hcon ?_
  rintro e w' ⟨rfl, d', n, os, hpm, hs, rfl⟩
  obtain ⟨p1, p2, p3⟩ := hpm
  have hsz : d'.size = xs.length := by simpa using p1
  have perm : d'.toList.Perm xs := by
    have := p3
    rw [show (d'.extract 0 xs.toArray.size) = d' by rw [show xs.toArray.size = d'.size by rw [hsz]; rfl]; exact Array.extract_size, Array.extract_size] at this
    exact this
  refine ⟨rfl, d'.toList, sorted_of hp perm (fun i j hij hj => ?_) hw, by simpa using hsz, ?_, ?_⟩
  · have hj' : j < d'.size := by simpa using hj
    have := hs i j (Nat.zero_le _) hij (by simpa [hsz] using hj')
    rw [lt_byKey, decide_eq_false_iff_not, getElem!_pos d' j hj', getElem!_pos d' i (by omega)] at this
    rw [← it_get (show i < d'.toList.length by simp; omega), ← it_get hj]
    simp only [Array.getElem_toList]
    omega
  · have := row_sorted (w := w) (base := B) (g := g) (cap := cap) (n := n) (os := os) (xs := xs) (ys := d'.toList) (by simpa using hsz) hB hb h1 h2 h3
    simpa using this
  · unfold sortWorldK putRowK; exact grownBy_sortedV _
end Go.Proofs.Ytclekakhgaggdaa.HeapC
