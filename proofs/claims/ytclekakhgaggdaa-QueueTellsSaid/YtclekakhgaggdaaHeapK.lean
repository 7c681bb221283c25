/- What the methods do at a nil heap. -/
import Derived.Test.YtclekakhgaggdaaHeapJ
namespace Go.Proofs.Ytclekakhgaggdaa.HeapC
open Go.RowKit Go.Proofs.Ytclekakhgaggdaa.HeapT Go.Proofs.Ytclekakhgaggdaa.HeapM Go.Proofs.YtclekakhgaggdaaW.PrintWords Go.Proofs.YtclekakhgaggdaaW.PrintLast Go.Proofs.YtclekakhgaggdaaW.PrintMore
set_option linter.unusedVariables false
set_option linter.unusedSimpArgs false

set_option maxHeartbeats 1000000 in
theorem place_nil (w : World) (k : Int) : Calls Try.prog 39 #[.pointer none, .int .i64 k] w fun e w' => e = .returned (.tuple #[.int .i64 0, .bool false]) ∧ w = w' := by
  have HB := Aside0.mk (Below.refl w.heap.size w)
  go_enter Try.func39, Try.ntmps39
  go_wp2
  go_returns
  exact ⟨rfl, rfl⟩

set_option maxHeartbeats 1000000 in
theorem len_nil (w : World)  : Calls Try.prog 56 #[.pointer none] w fun e w' => e = .returned (.int .i64 0) ∧ w = w' := by
  have HB := Aside0.mk (Below.refl w.heap.size w)
  go_enter Try.func56, Try.ntmps56
  go_wp2
  go_returns
  exact ⟨rfl, rfl⟩

set_option maxHeartbeats 1000000 in
theorem top_nil (w : World)  : Calls Try.prog 44 #[.pointer none] w fun e w' => e = .returned (.tuple #[.agg #[.int .i64 0, .int .i64 0], .bool false]) ∧ Below w.heap.size w w' := by
  have HB := Aside0.mk (Below.refl w.heap.size w)
  have HC0 := Lib.hid (fun (w2 : World) => len_nil w2)
  go_enter Try.func44, Try.ntmps44
  go_wp2_with (first | (go_at_call 56; refine (HC0.out _).mono ?_; rintro e w' ⟨rfl, rfl⟩))
  go_returns
  exact ⟨rfl, by repeat (with_reducible first | exact HB.out | apply below_alloc | apply pw_below_drewN | apply below_drew1 | refine below_set ?_ (by omega))⟩

set_option maxHeartbeats 1000000 in
theorem prio_nil (w : World) (k : Int) : Calls Try.prog 24 #[.pointer none, .int .i64 k] w fun e w' => e = .returned (.tuple #[.int .i64 0, .bool false]) ∧ w = w' := by
  have HB := Aside0.mk (Below.refl w.heap.size w)
  have HC0 := Lib.hid (fun (w2 : World) => place_nil w2 k)
  go_enter Try.func24, Try.ntmps24
  go_wp2_with (first | (go_at_call 39; refine (HC0.out _).mono ?_; rintro e w' ⟨rfl, rfl⟩))
  go_returns
  exact ⟨rfl, rfl⟩

set_option maxHeartbeats 1000000 in
theorem change_nil (w : World) (k p : Int) : Calls Try.prog 25 #[.pointer none, .int .i64 k, .int .i64 p] w fun e w' => e = .returned (.bool false) ∧ w = w' := by
  have HB := Aside0.mk (Below.refl w.heap.size w)
  have HC0 := Lib.hid (fun (w2 : World) => place_nil w2 k)
  go_enter Try.func25, Try.ntmps25
  go_wp2_with (first | (go_at_call 39; refine (HC0.out _).mono ?_; rintro e w' ⟨rfl, rfl⟩))
  go_returns
  exact ⟨rfl, rfl⟩

set_option maxHeartbeats 1000000 in
theorem remove_nil (w : World) (k : Int) : Calls Try.prog 34 #[.pointer none, .int .i64 k] w fun e w' => e = .returned (.bool false) ∧ w = w' := by
  have HB := Aside0.mk (Below.refl w.heap.size w)
  have HC0 := Lib.hid (fun (w2 : World) => place_nil w2 k)
  go_enter Try.func34, Try.ntmps34
  go_wp2_with (first | (go_at_call 39; refine (HC0.out _).mono ?_; rintro e w' ⟨rfl, rfl⟩))
  go_returns
  exact ⟨rfl, rfl⟩

set_option maxHeartbeats 1000000 in
theorem push_nil (w : World) (k p : Int) : Calls Try.prog 26 #[.pointer none, .int .i64 k, .int .i64 p] w fun e w' => e = .returned (.int .i64 50) ∧ Below w.heap.size w w' := by
  have HB := Aside0.mk (Below.refl w.heap.size w)
  have HC0 := Lib.hid (fun (w2 : World) => place_nil w2 k)
  go_enter Try.func26, Try.ntmps26
  go_wp2_with (first | (go_at_call 39; refine (HC0.out _).mono ?_; rintro e w' ⟨rfl, rfl⟩))
  go_region
  go_wp2_with (first | (go_at_call 39; refine (HC0.out _).mono ?_; rintro e w' ⟨rfl, rfl⟩))
  go_returns
  exact ⟨rfl, by repeat (with_reducible first | exact HB.out | apply below_alloc | apply pw_below_drewN | apply below_drew1 | refine below_set ?_ (by omega))⟩

set_option maxHeartbeats 1000000 in
theorem all_nil (w : World)  : Calls Try.prog 36 #[.pointer none] w fun e w' => e = .returned (.slice none 0 0) ∧ w = w' := by
  have HB := Aside0.mk (Below.refl w.heap.size w)
  go_enter Try.func36, Try.ntmps36
  go_wp2
  go_returns
  exact ⟨rfl, rfl⟩

set_option maxHeartbeats 1000000 in
theorem new_nil (most : Int) (w : World) (h : most < 1 ∨ 1000 < most) :
    Calls Try.prog 22 #[.int .i64 most] w fun e w' => e = .returned (.pointer none) ∧ Below w.heap.size w w' := by
  have HB := Aside0.mk (Below.refl w.heap.size w)
  rcases h with h | h
  · have d1 : decide (most < 1) = true := decide_eq_true h
    go_enter Try.func22, Try.ntmps22
    go_wp2
    go_returns
    exact ⟨rfl, HB.out⟩
  · have d1 : decide (most < 1) = false := decide_eq_false (by omega)
    have d2 : decide ((1000 : Int) < most) = true := decide_eq_true h
    go_enter Try.func22, Try.ntmps22
    go_wp2
    go_returns
    exact ⟨rfl, HB.out⟩

set_option maxHeartbeats 1000000 in
theorem pop_nil (w : World) :
    Calls Try.prog 31 #[.pointer none] w fun e w' => e = .returned (.tuple #[.agg #[.int .i64 0, .int .i64 0], .bool false]) ∧ Below w.heap.size w w' := by
  have HB0 : Below w.heap.size w (w.alloc (.cells #[.int .i64 0, .int .i64 0] 63)) := by apply below_alloc; exact Below.refl _ _
  have HT := Lib.hid (top_nil (w.alloc (.cells #[.int .i64 0, .int .i64 0] 63)))
  have bs : (w.alloc (.cells #[.int .i64 0, .int .i64 0] 63)).heap.size = w.heap.size + 1 := by simp
  have bn := HeapM.blk_new w (.cells #[.int .i64 0, .int .i64 0] 63 (0, 0))
  have HB1 := Aside0.mk HB0
  have bs1 := Aside0.mk bs
  have bn1 := Aside0.mk bn
  clear HB0 bs bn
  go_enter Try.func31, Try.ntmps31
  go_wp2_with fail
  refine HT.out.mono ?_
  rintro e w1 ⟨rfl, HB⟩
  have hb1 : w1.heap[w.heap.size]? = some (.cells #[.int .i64 0, .int .i64 0] 63 (0, 0)) := (HB.block _ (by rw [bs1.out]; omega)).trans bn1.out
  have hc0 : w1.cell? ⟨w.heap.size, 0, none⟩ = some (.int .i64 0) := (HeapM.blk_cell hb1 0).trans rfl
  have hc1 : w1.cell? ⟨w.heap.size, 1, none⟩ = some (.int .i64 0) := (HeapM.blk_cell hb1 1).trans rfl
  have hf0 : w1.frozen? ⟨w.heap.size, 0, none⟩ = false := HeapM.blk_free hb1 0
  have hf1 : w1.frozen? ⟨w.heap.size, 1, none⟩ = false := HeapM.blk_free hb1 1
  have lB : w.heap.size < w1.heap.size := HeapM.blk_lt hb1
  have ag : ∀ (o : Obj) (off : Nat), (w1.alloc o).cell? ⟨w.heap.size, off, none⟩ = w1.cell? ⟨w.heap.size, off, none⟩ := fun o off => World.cell?_alloc_lt _ _ _ lB
  have fr : ∀ (o : Obj) (off : Nat), (w1.alloc o).frozen? ⟨w.heap.size, off, none⟩ = w1.frozen? ⟨w.heap.size, off, none⟩ := fun o off => World.frozen?_alloc_old _ _ _ (by simp; omega)
  have HB' : Aside0 (Below w.heap.size w w1) := ⟨HB1.out.trans (HB.mono (by rw [bs1.out]; omega))⟩
  have hb1' := Aside0.mk hb1
  clear HB hb1
  go_wp2_with fail
  go_region
  obtain ⟨W3, hW3⟩ : ∃ W3, W3 = (((w1.setCell ⟨w.heap.size, 0, none⟩ (.int .i64 0)).setCell ⟨w.heap.size, 1, none⟩ (.int .i64 0)).alloc (.cells #[.int .i64 0, .int .i64 0] 63)).drew := ⟨_, rfl⟩
  rw [← hW3]
  have hb3 : W3.heap[w.heap.size]? = some (.cells #[.int .i64 0, .int .i64 0] 63 (0, 0)) := by
    have := HeapM.blk_alloc (HeapM.blk_set_same (HeapM.blk_set_same hb1'.out 0 (.int .i64 0) (by simp)) 1 (.int .i64 0) (by simp)) (.cells #[.int .i64 0, .int .i64 0] 63)
    rw [hW3]; exact this
  have hd0 : W3.cell? ⟨w.heap.size, 0, none⟩ = some (.int .i64 0) := (HeapM.blk_cell hb3 0).trans rfl
  have hd1 : W3.cell? ⟨w.heap.size, 1, none⟩ = some (.int .i64 0) := (HeapM.blk_cell hb3 1).trans rfl
  have HB3 : Aside0 (Below w.heap.size w W3) := ⟨by rw [hW3]; repeat (with_reducible first | exact HB'.out | apply below_alloc | apply pw_below_drewN | apply below_drew1 | refine below_set ?_ (by simp))⟩
  clear hW3 hb3 ag fr hc0 hc1 hf0 hf1
  go_wp2
  try simp only [Exit.inBlock, Exit.then]
  refine bodyPost_ret (by simp [results, Try.results31, go_sem, hd0, hd1]; try rfl) rfl ?_
  exact ⟨rfl, HB3.out⟩

end Go.Proofs.Ytclekakhgaggdaa.HeapC
