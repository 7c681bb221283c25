/- The document's queue: New. -/
import Derived.Test.YtclekakhgaggdaaQSx
namespace Go.Proofs.Ytclekakhgaggdaa.HeapC
open Go.RowKit Go.Proofs.Ytclekakhgaggdaa.HeapT Go.Proofs.Ytclekakhgaggdaa.HeapM Go.Proofs.Ytclekakhgaggdaa.QueueM Go.Proofs.YtclekakhgaggdaaW.PrintWords Go.Proofs.YtclekakhgaggdaaW.PrintLast Go.Proofs.YtclekakhgaggdaaW.PrintMore
set_option linter.unusedVariables false
set_option linter.unusedSimpArgs false
set_option maxHeartbeats 1000000 in
theorem rqnew_ok (room age : Int) (w : World) (h0 : 1 ≤ room) (h1 : room ≤ 1000) (a0 : 1 ≤ age) (a1 : age ≤ 1000) :
    Calls Try.prog 11 #[.int .i64 room, .int .i64 age] w fun e w' => e = .returned (.tuple #[.agg #[.slice none 0 0, .int .i64 room, .int .i64 age, .slice none 0 0], .bool true]) ∧ Below w.heap.size w w' := by
  have HB := Aside0.mk (Below.refl w.heap.size w)
  have d1 : decide (age < 1) = false := decide_eq_false (by omega)
  have d2 : decide ((1000 : Int) < age) = false := decide_eq_false (by omega)
  have HN := Aside0.mk (And.intro h0 h1)
  clear a0 a1 h0 h1
  go_enter Try.func11, Try.ntmps11
  go_wp2_with fail
  refine (rnew_ok room _ HN.out.1 HN.out.2).mono ?_
  rintro e w1 ⟨rfl, hb⟩
  have hbA : w1.heap[w.heap.size]? = some (.cells #[.slice none 0 0, .int .i64 0, .int .i64 0, .slice none 0 0] 34 (0, 0)) := (hb.block _ (by simp)).trans (HeapM.blk_new w _)
  have hs1 : w.heap.size < w1.heap.size := HeapM.blk_lt hbA
  have hBB := Aside0.mk (show Below w.heap.size w w1 from below_step (below_alloc (Below.refl _ _) _) hb)
  have hSZ := Aside0.mk hs1
  obtain ⟨A, hA⟩ : ∃ A, w.heap.size = A := ⟨_, rfl⟩
  rw [hA] at hbA hs1 hBB hSZ ⊢
  have hAA := Aside0.mk hA
  have c0 := (HeapM.blk_cell hbA 0).trans rfl
  have c1 := (HeapM.blk_cell hbA 1).trans rfl
  have c2 := (HeapM.blk_cell hbA 2).trans rfl
  have c3 := (HeapM.blk_cell hbA 3).trans rfl
  have f0 := HeapM.blk_free hbA 0
  have f1 := HeapM.blk_free hbA 1
  have f2 := HeapM.blk_free hbA 2
  have f3 := HeapM.blk_free hbA 3
  have hb8 := HeapM.blk_set_same (HeapM.blk_set_same (HeapM.blk_set_same (HeapM.blk_set_same hbA 0 (.slice none 0 0) (by simp)) 1 (.int .i64 room) (by simp)) 2 (.int .i64 age) (by simp)) 3 (.slice none 0 0) (by simp)
  have hb9 : (((((w1.setCell ⟨A, 0, none⟩ (.slice none 0 0)).setCell ⟨A, 1, none⟩ (.int .i64 room)).setCell ⟨A, 2, none⟩ (.int .i64 age)).setCell ⟨A, 3, none⟩ (.slice none 0 0)).alloc (.cells #[.slice none 0 0, .int .i64 room] 31)).heap[A]? = some (.cells #[.slice none 0 0, .int .i64 room, .int .i64 age, .slice none 0 0] 34 (0, 0)) := ((below_alloc (Below.refl _ _) _).block A (HeapM.blk_lt hb8)).trans (hb8.trans rfl)
  have hBW : Below w.heap.size w (((((w1.setCell ⟨A, 0, none⟩ (.slice none 0 0)).setCell ⟨A, 1, none⟩ (.int .i64 room)).setCell ⟨A, 2, none⟩ (.int .i64 age)).setCell ⟨A, 3, none⟩ (.slice none 0 0)).alloc (.cells #[.slice none 0 0, .int .i64 room] 31)) := by
    rw [hA]
    rw [← hA] at hBB
    exact hA ▸ below_alloc (below_set (below_set (below_set (below_set hBB.out (by omega)) (by omega)) (by omega)) (by omega)) _
  have hB9 := Aside0.mk hb9
  have hBW9 := Aside0.mk hBW
  clear hb hbA hA hb8 hb9 hBW
  go_wp2_with fail
  obtain ⟨W9, hW9⟩ : ∃ W, (((((w1.setCell ⟨A, 0, none⟩ (.slice none 0 0)).setCell ⟨A, 1, none⟩ (.int .i64 room)).setCell ⟨A, 2, none⟩ (.int .i64 age)).setCell ⟨A, 3, none⟩ (.slice none 0 0)).alloc (.cells #[.slice none 0 0, .int .i64 room] 31)) = W := ⟨_, rfl⟩
  rw [hW9] at hB9 hBW9 ⊢
  clear hW9 c0 c1 c2 c3 f0 f1 f2 f3
  have c0 : W9.cell? ⟨A, 0, none⟩ = some (.slice none 0 0) := (HeapM.blk_cell hB9.out 0).trans rfl
  have c1 : W9.cell? ⟨A, 1, none⟩ = some (.int .i64 room) := (HeapM.blk_cell hB9.out 1).trans rfl
  have c2 : W9.cell? ⟨A, 2, none⟩ = some (.int .i64 age) := (HeapM.blk_cell hB9.out 2).trans rfl
  have c3 : W9.cell? ⟨A, 3, none⟩ = some (.slice none 0 0) := (HeapM.blk_cell hB9.out 3).trans rfl
  (try simp only [Exit.inBlock, Exit.then])
  refine bodyPost_ret (by simp [results, Try.results11, go_sem, c0, c1, c2, c3]; try rfl) rfl ?_
  exact ⟨rfl, hBW9.out⟩
set_option maxHeartbeats 1000000 in
theorem rqnew_no (room age : Int) (w : World) (h : room < 1 ∨ 1000 < room ∨ age < 1 ∨ 1000 < age) :
    Calls Try.prog 11 #[.int .i64 room, .int .i64 age] w fun e w' => e = .returned (.tuple #[.agg #[.slice none 0 0, .int .i64 0, .int .i64 0, .slice none 0 0], .bool false]) ∧ Below w.heap.size w w' := by
  by_cases hr : room < 1 ∨ 1000 < room
  · have HN := Aside0.mk hr
    clear h hr
    go_enter Try.func11, Try.ntmps11
    go_wp2_with fail
    refine (rnew_no room _ HN.out).mono ?_
    rintro e w1 ⟨rfl, hb⟩
    have hbA : w1.heap[w.heap.size]? = some (.cells #[.slice none 0 0, .int .i64 0, .int .i64 0, .slice none 0 0] 34 (0, 0)) := (hb.block _ (by simp)).trans (HeapM.blk_new w _)
    have hs1 : w.heap.size < w1.heap.size := HeapM.blk_lt hbA
    have hBB := Aside0.mk (show Below w.heap.size w w1 from below_step (below_alloc (Below.refl _ _) _) hb)
    have hSZ := Aside0.mk hs1
    obtain ⟨A, hA⟩ : ∃ A, w.heap.size = A := ⟨_, rfl⟩
    rw [hA] at hbA hs1 hBB hSZ ⊢
    have hAA := Aside0.mk hA
    have c0 := (HeapM.blk_cell hbA 0).trans rfl
    have c1 := (HeapM.blk_cell hbA 1).trans rfl
    have c2 := (HeapM.blk_cell hbA 2).trans rfl
    have c3 := (HeapM.blk_cell hbA 3).trans rfl
    have f0 := HeapM.blk_free hbA 0
    have f1 := HeapM.blk_free hbA 1
    have f2 := HeapM.blk_free hbA 2
    have f3 := HeapM.blk_free hbA 3
    have hb8 := HeapM.blk_set_same (HeapM.blk_set_same (HeapM.blk_set_same (HeapM.blk_set_same hbA 0 (.slice none 0 0) (by simp)) 1 (.int .i64 0) (by simp)) 2 (.int .i64 0) (by simp)) 3 (.slice none 0 0) (by simp)
    have hb9 : (((((w1.setCell ⟨A, 0, none⟩ (.slice none 0 0)).setCell ⟨A, 1, none⟩ (.int .i64 0)).setCell ⟨A, 2, none⟩ (.int .i64 0)).setCell ⟨A, 3, none⟩ (.slice none 0 0)).alloc (.cells #[.slice none 0 0, .int .i64 0] 31)).heap[A]? = some (.cells #[.slice none 0 0, .int .i64 0, .int .i64 0, .slice none 0 0] 34 (0, 0)) := ((below_alloc (Below.refl _ _) _).block A (HeapM.blk_lt hb8)).trans (hb8.trans rfl)
    have hBW : Below w.heap.size w (((((w1.setCell ⟨A, 0, none⟩ (.slice none 0 0)).setCell ⟨A, 1, none⟩ (.int .i64 0)).setCell ⟨A, 2, none⟩ (.int .i64 0)).setCell ⟨A, 3, none⟩ (.slice none 0 0)).alloc (.cells #[.slice none 0 0, .int .i64 0] 31)) := by
      rw [hA]
      rw [← hA] at hBB
      exact hA ▸ below_alloc (below_set (below_set (below_set (below_set hBB.out (by omega)) (by omega)) (by omega)) (by omega)) _
    have hB9 := Aside0.mk hb9
    have hBW9 := Aside0.mk hBW
    clear hb hbA hA hb8 hb9 hBW
    go_wp2_with fail
    obtain ⟨W9, hW9⟩ : ∃ W, (((((w1.setCell ⟨A, 0, none⟩ (.slice none 0 0)).setCell ⟨A, 1, none⟩ (.int .i64 0)).setCell ⟨A, 2, none⟩ (.int .i64 0)).setCell ⟨A, 3, none⟩ (.slice none 0 0)).alloc (.cells #[.slice none 0 0, .int .i64 0] 31)) = W := ⟨_, rfl⟩
    rw [hW9] at hB9 hBW9 ⊢
    clear hW9 c0 c1 c2 c3 f0 f1 f2 f3
    have c0 : W9.cell? ⟨A, 0, none⟩ = some (.slice none 0 0) := (HeapM.blk_cell hB9.out 0).trans rfl
    have c1 : W9.cell? ⟨A, 1, none⟩ = some (.int .i64 0) := (HeapM.blk_cell hB9.out 1).trans rfl
    have c2 : W9.cell? ⟨A, 2, none⟩ = some (.int .i64 0) := (HeapM.blk_cell hB9.out 2).trans rfl
    have c3 : W9.cell? ⟨A, 3, none⟩ = some (.slice none 0 0) := (HeapM.blk_cell hB9.out 3).trans rfl
    (try simp only [Exit.inBlock, Exit.then])
    refine bodyPost_ret (by simp [results, Try.results11, go_sem, c0, c1, c2, c3]; try rfl) rfl ?_
    exact ⟨rfl, hBW9.out⟩
  · have HN := Aside0.mk (show 1 ≤ room ∧ room ≤ 1000 by omega)
    by_cases ha : age < 1
    · have d1 : decide (age < 1) = true := decide_eq_true ha
      clear h hr ha
      go_enter Try.func11, Try.ntmps11
      go_wp2_with fail
      refine (rnew_ok room _ HN.out.1 HN.out.2).mono ?_
      rintro e w1 ⟨rfl, hb⟩
      have hbA : w1.heap[w.heap.size]? = some (.cells #[.slice none 0 0, .int .i64 0, .int .i64 0, .slice none 0 0] 34 (0, 0)) := (hb.block _ (by simp)).trans (HeapM.blk_new w _)
      have hs1 : w.heap.size < w1.heap.size := HeapM.blk_lt hbA
      have hBB := Aside0.mk (show Below w.heap.size w w1 from below_step (below_alloc (Below.refl _ _) _) hb)
      have hSZ := Aside0.mk hs1
      obtain ⟨A, hA⟩ : ∃ A, w.heap.size = A := ⟨_, rfl⟩
      rw [hA] at hbA hs1 hBB hSZ ⊢
      have hAA := Aside0.mk hA
      have c0 := (HeapM.blk_cell hbA 0).trans rfl
      have c1 := (HeapM.blk_cell hbA 1).trans rfl
      have c2 := (HeapM.blk_cell hbA 2).trans rfl
      have c3 := (HeapM.blk_cell hbA 3).trans rfl
      have f0 := HeapM.blk_free hbA 0
      have f1 := HeapM.blk_free hbA 1
      have f2 := HeapM.blk_free hbA 2
      have f3 := HeapM.blk_free hbA 3
      have hb8 := HeapM.blk_set_same (HeapM.blk_set_same (HeapM.blk_set_same (HeapM.blk_set_same hbA 0 (.slice none 0 0) (by simp)) 1 (.int .i64 0) (by simp)) 2 (.int .i64 0) (by simp)) 3 (.slice none 0 0) (by simp)
      have hb9 : (((((w1.setCell ⟨A, 0, none⟩ (.slice none 0 0)).setCell ⟨A, 1, none⟩ (.int .i64 0)).setCell ⟨A, 2, none⟩ (.int .i64 0)).setCell ⟨A, 3, none⟩ (.slice none 0 0)).alloc (.cells #[.slice none 0 0, .int .i64 room] 31)).heap[A]? = some (.cells #[.slice none 0 0, .int .i64 0, .int .i64 0, .slice none 0 0] 34 (0, 0)) := ((below_alloc (Below.refl _ _) _).block A (HeapM.blk_lt hb8)).trans (hb8.trans rfl)
      have hBW : Below w.heap.size w (((((w1.setCell ⟨A, 0, none⟩ (.slice none 0 0)).setCell ⟨A, 1, none⟩ (.int .i64 0)).setCell ⟨A, 2, none⟩ (.int .i64 0)).setCell ⟨A, 3, none⟩ (.slice none 0 0)).alloc (.cells #[.slice none 0 0, .int .i64 room] 31)) := by
        rw [hA]
        rw [← hA] at hBB
        exact hA ▸ below_alloc (below_set (below_set (below_set (below_set hBB.out (by omega)) (by omega)) (by omega)) (by omega)) _
      have hB9 := Aside0.mk hb9
      have hBW9 := Aside0.mk hBW
      clear hb hbA hA hb8 hb9 hBW
      go_wp2_with fail
      obtain ⟨W9, hW9⟩ : ∃ W, (((((w1.setCell ⟨A, 0, none⟩ (.slice none 0 0)).setCell ⟨A, 1, none⟩ (.int .i64 0)).setCell ⟨A, 2, none⟩ (.int .i64 0)).setCell ⟨A, 3, none⟩ (.slice none 0 0)).alloc (.cells #[.slice none 0 0, .int .i64 room] 31)) = W := ⟨_, rfl⟩
      rw [hW9] at hB9 hBW9 ⊢
      clear hW9 c0 c1 c2 c3 f0 f1 f2 f3
      have c0 : W9.cell? ⟨A, 0, none⟩ = some (.slice none 0 0) := (HeapM.blk_cell hB9.out 0).trans rfl
      have c1 : W9.cell? ⟨A, 1, none⟩ = some (.int .i64 0) := (HeapM.blk_cell hB9.out 1).trans rfl
      have c2 : W9.cell? ⟨A, 2, none⟩ = some (.int .i64 0) := (HeapM.blk_cell hB9.out 2).trans rfl
      have c3 : W9.cell? ⟨A, 3, none⟩ = some (.slice none 0 0) := (HeapM.blk_cell hB9.out 3).trans rfl
      (try simp only [Exit.inBlock, Exit.then])
      refine bodyPost_ret (by simp [results, Try.results11, go_sem, c0, c1, c2, c3]; try rfl) rfl ?_
      exact ⟨rfl, hBW9.out⟩
    · have d1 : decide (age < 1) = false := decide_eq_false ha
      have d2 : decide ((1000 : Int) < age) = true := decide_eq_true (by omega)
      clear h hr ha
      go_enter Try.func11, Try.ntmps11
      go_wp2_with fail
      refine (rnew_ok room _ HN.out.1 HN.out.2).mono ?_
      rintro e w1 ⟨rfl, hb⟩
      have hbA : w1.heap[w.heap.size]? = some (.cells #[.slice none 0 0, .int .i64 0, .int .i64 0, .slice none 0 0] 34 (0, 0)) := (hb.block _ (by simp)).trans (HeapM.blk_new w _)
      have hs1 : w.heap.size < w1.heap.size := HeapM.blk_lt hbA
      have hBB := Aside0.mk (show Below w.heap.size w w1 from below_step (below_alloc (Below.refl _ _) _) hb)
      have hSZ := Aside0.mk hs1
      obtain ⟨A, hA⟩ : ∃ A, w.heap.size = A := ⟨_, rfl⟩
      rw [hA] at hbA hs1 hBB hSZ ⊢
      have hAA := Aside0.mk hA
      have c0 := (HeapM.blk_cell hbA 0).trans rfl
      have c1 := (HeapM.blk_cell hbA 1).trans rfl
      have c2 := (HeapM.blk_cell hbA 2).trans rfl
      have c3 := (HeapM.blk_cell hbA 3).trans rfl
      have f0 := HeapM.blk_free hbA 0
      have f1 := HeapM.blk_free hbA 1
      have f2 := HeapM.blk_free hbA 2
      have f3 := HeapM.blk_free hbA 3
      have hb8 := HeapM.blk_set_same (HeapM.blk_set_same (HeapM.blk_set_same (HeapM.blk_set_same hbA 0 (.slice none 0 0) (by simp)) 1 (.int .i64 0) (by simp)) 2 (.int .i64 0) (by simp)) 3 (.slice none 0 0) (by simp)
      have hb9 : (((((w1.setCell ⟨A, 0, none⟩ (.slice none 0 0)).setCell ⟨A, 1, none⟩ (.int .i64 0)).setCell ⟨A, 2, none⟩ (.int .i64 0)).setCell ⟨A, 3, none⟩ (.slice none 0 0)).alloc (.cells #[.slice none 0 0, .int .i64 room] 31)).heap[A]? = some (.cells #[.slice none 0 0, .int .i64 0, .int .i64 0, .slice none 0 0] 34 (0, 0)) := ((below_alloc (Below.refl _ _) _).block A (HeapM.blk_lt hb8)).trans (hb8.trans rfl)
      have hBW : Below w.heap.size w (((((w1.setCell ⟨A, 0, none⟩ (.slice none 0 0)).setCell ⟨A, 1, none⟩ (.int .i64 0)).setCell ⟨A, 2, none⟩ (.int .i64 0)).setCell ⟨A, 3, none⟩ (.slice none 0 0)).alloc (.cells #[.slice none 0 0, .int .i64 room] 31)) := by
        rw [hA]
        rw [← hA] at hBB
        exact hA ▸ below_alloc (below_set (below_set (below_set (below_set hBB.out (by omega)) (by omega)) (by omega)) (by omega)) _
      have hB9 := Aside0.mk hb9
      have hBW9 := Aside0.mk hBW
      clear hb hbA hA hb8 hb9 hBW
      go_wp2_with fail
      obtain ⟨W9, hW9⟩ : ∃ W, (((((w1.setCell ⟨A, 0, none⟩ (.slice none 0 0)).setCell ⟨A, 1, none⟩ (.int .i64 0)).setCell ⟨A, 2, none⟩ (.int .i64 0)).setCell ⟨A, 3, none⟩ (.slice none 0 0)).alloc (.cells #[.slice none 0 0, .int .i64 room] 31)) = W := ⟨_, rfl⟩
      rw [hW9] at hB9 hBW9 ⊢
      clear hW9 c0 c1 c2 c3 f0 f1 f2 f3
      have c0 : W9.cell? ⟨A, 0, none⟩ = some (.slice none 0 0) := (HeapM.blk_cell hB9.out 0).trans rfl
      have c1 : W9.cell? ⟨A, 1, none⟩ = some (.int .i64 0) := (HeapM.blk_cell hB9.out 1).trans rfl
      have c2 : W9.cell? ⟨A, 2, none⟩ = some (.int .i64 0) := (HeapM.blk_cell hB9.out 2).trans rfl
      have c3 : W9.cell? ⟨A, 3, none⟩ = some (.slice none 0 0) := (HeapM.blk_cell hB9.out 3).trans rfl
      (try simp only [Exit.inBlock, Exit.then])
      refine bodyPost_ret (by simp [results, Try.results11, go_sem, c0, c1, c2, c3]; try rfl) rfl ?_
      exact ⟨rfl, hBW9.out⟩
end Go.Proofs.Ytclekakhgaggdaa.HeapC
/- The queue, or none, and the document's, side by side. -/
namespace Go.Proofs.Ytclekakhgaggdaa.HeapC
open Go.RowKit Go.Proofs.Ytclekakhgaggdaa.HeapT Go.Proofs.Ytclekakhgaggdaa.HeapM Go.Proofs.Ytclekakhgaggdaa.QueueM Go.Proofs.YtclekakhgaggdaaW.PrintWords Go.Proofs.YtclekakhgaggdaaW.PrintLast Go.Proofs.YtclekakhgaggdaaW.PrintMore
set_option linter.unusedVariables false
set_option linter.unusedSimpArgs false
/-- What is asked for, and what comes of it. -/
def WantA (C : Int → Option Int) (S : Int → Bool) (age most : Int) (n : Nat) (s p t a : Int) (C' : Int → Option Int) (S' : Int → Bool) (n' : Nat) : Prop :=
  (1 ≤ age ∧ WOk s p t ∧ WantTo C S n most s (p * age - t) a C' S' n') ∨ ((age < 1 ∨ ¬ WOk s p t) ∧ a = 1 ∧ C' = C ∧ S' = S ∧ n' = n)
/-- A queue, or none (which holds nothing). -/
def QAny (w : World) (qv : Value) (C : Int → Option Int) (S : Int → Bool) (age most : Int) (n N : Nat) (D : Nat → Prop) : Prop :=
  (∃ q g mb, qv = .pointer (some ⟨q, 0, none⟩) ∧ QOk w q g mb C S age most n N D) ∨ (qv = .pointer none ∧ C = (fun _ => none) ∧ S = (fun _ => false) ∧ age = 0 ∧ most = 0 ∧ n = 0 ∧ ∀ k, D k → k < w.heap.size)
/-- What of it does not hang on memory. -/
structure QFit (C : Int → Option Int) (S : Int → Bool) (age most : Int) (n : Nat) : Prop where
  sr : ∀ x, S x = true → 0 ≤ x ∧ x < 1000
  sc : ∀ x, S x = true → C x = none
  ag : age ≤ 1000
  mo : most ≤ 1000
  nm : (n : Int) ≤ 1000
section
variable {w : World} {qv : Value} {C : Int → Option Int} {S : Int → Bool} {age most : Int} {n N : Nat} {D : Nat → Prop}
theorem QAny.fit (h : QAny w qv C S age most n N D) : QFit C S age most n := by
  rcases h with ⟨q, g, mb, -, h⟩ | ⟨-, rfl, rfl, rfl, rfl, rfl, -⟩
  · exact ⟨h.sr, h.sc, h.ag.2, h.mo.2, by have := h.nm; have := h.mo.2; omega⟩
  · exact ⟨fun x hx => absurd hx (by simp), fun x hx => absurd hx (by simp), by decide, by decide, by decide⟩
theorem QAny.lt (h : QAny w qv C S age most n N D) : ∀ k, D k → k < w.heap.size := by
  rcases h with ⟨q, g, mb, -, h⟩ | ⟨-, -, -, -, -, -, h⟩
  · obtain ⟨P, -, -, hl⟩ := h.is
    exact hl
  · exact h
/-- Blocks that turned are none of the queue's, nor are new ones. -/
theorem QAny.turned {w' : World} {T D' : Nat → Prop} (h : QAny w qv C S age most n N D) (c : Chg w w' T) (hS : ∀ k, T k → D k) (hD : ∀ k, D' k → D k ∨ (w.heap.size ≤ k ∧ k < w'.heap.size)) : QAny w' qv C S age most n N D' := by
  have hl := h.lt
  have hD' : ∀ k, D' k → k < w'.heap.size := fun k e => (hD k e).elim (fun d => Nat.lt_of_lt_of_le (hl k d) c.size) And.right
  rcases h with ⟨q, g, mb, rfl, h⟩ | ⟨rfl, h1, h2, h3, h4, h5, h6⟩
  · obtain ⟨P, p, hd, -⟩ := h.is
    have K : Kept w w' P := Chg.mono c (fun k s => .inl (fun e => hd k e (hS k s)))
    refine .inl ⟨q, g, mb, rfl, (p.keep K (fun k e => e)).ok (fun k e d => ?_) hD'⟩
    rcases hD k d with x | x
    · exact hd k e x
    · have := p.lt k e; omega
  · exact .inr ⟨rfl, h1, h2, h3, h4, h5, hD'⟩
theorem QAny.below {w' : World} (h : QAny w qv C S age most n N D) (b : Below w.heap.size w w') : QAny w' qv C S age most n N D :=
  h.turned (Chg.of_below b (fun _ => False)) (fun _ e => e.elim) (fun k e => .inl e)
theorem QAny.want (h : QAny w qv C S age most n N D) (hN : N ≤ 14000000000000) (s p t : Int) :
    Calls Try.prog 12 #[qv, .int .i64 s, .int .i64 p, .int .i64 t] w fun e w' => ∃ a C' S' n' N', e = .returned (.int .i64 a) ∧ WantA C S age most n s p t a C' S' n' ∧ QAny w' qv C' S' age most n' N' D ∧ Kept w w' D ∧ N' ≤ N + 5000000000 := by
  have h0 := h
  rcases h with ⟨q, g, mb, rfl, h⟩ | ⟨rfl, rfl, rfl, rfl, rfl, rfl, h6⟩
  · by_cases hw : WOk s p t
    · refine (h.want (by omega) s p t hw).mono ?_
      rintro e w' ⟨a, C', S', n', N', rfl, H1, H2, H3, H4⟩
      exact ⟨a, C', S', n', N', rfl, .inl ⟨h.ag.1, hw, H1⟩, .inl ⟨q, g, mb, rfl, H2⟩, H3, by omega⟩
    · refine (want_bad _ s p t (.inr hw)).mono ?_
      rintro e w' ⟨rfl, rfl⟩
      exact ⟨1, C, S, n, N, rfl, .inr ⟨.inr hw, rfl, rfl, rfl, rfl⟩, h0, Kept.refl _ _, by omega⟩
  · refine (want_bad _ s p t (.inl rfl)).mono ?_
    rintro e w' ⟨rfl, rfl⟩
    exact ⟨1, _, _, 0, N, rfl, .inr ⟨.inl (by decide), rfl, rfl, rfl, rfl⟩, h0, Kept.refl _ _, by omega⟩
theorem QAny.next (h : QAny w qv C S age most n N D) (hN : N ≤ 14000000000000) (now : Int) :
    Calls Try.prog 14 #[qv, .int .i64 now] w fun e w' => ∃ k p b C' S' n' N', e = .returned (.tuple #[.int .i64 k, .bool b]) ∧ NextTo C S n most (-(clampT now)) k p b C' S' n' ∧ QAny w' qv C' S' age most n' N' D ∧ Kept w w' D ∧ N' ≤ N + 5000000000 := by
  have h0 := h
  rcases h with ⟨q, g, mb, rfl, h⟩ | ⟨rfl, rfl, rfl, rfl, rfl, rfl, h6⟩
  · refine (h.next hN now).mono ?_
    rintro e w' ⟨k, p, b, C', S', n', N', rfl, H1, H2, H3, H4⟩
    exact ⟨k, p, b, C', S', n', N', rfl, H1, .inl ⟨q, g, mb, rfl, H2⟩, H3, H4⟩
  · refine (next_nil now w).mono ?_
    rintro e w' ⟨rfl, rfl⟩
    exact ⟨0, 0, false, _, _, 0, N, rfl, ⟨.inl ⟨rfl, rfl, rfl, rfl⟩, [], 0, ⟨⟨List.Pairwise.nil, fun x => by simp⟩, rfl, fun x => by simp, fun x => by simp⟩, rfl⟩, h0, Kept.refl _ _, by omega⟩
theorem QAny.drop (h : QAny w qv C S age most n N D) (hN : N ≤ 14000000000000) (k : Int) (hk : (Lit.int .i64 k).wf = true) :
    Calls Try.prog 16 #[qv, .int .i64 k] w fun e w' => ∃ n' N', e = .returned (.bool ((C k).isSome || S k)) ∧ QAny w' qv (upd C k none) (sadd S k false) age most n' N' D ∧ Kept w w' D ∧ N' ≤ N + 5000000000 ∧ (C k ≠ none → n' + 1 = n) ∧ (C k = none → n' = n) := by
  have h0 := h
  rcases h with ⟨q, g, mb, rfl, h⟩ | ⟨rfl, rfl, rfl, rfl, rfl, rfl, h6⟩
  · refine (h.drop (by omega) k hk).mono ?_
    rintro e w' ⟨n', N', rfl, H1, H2, H3, H4, H5, H6⟩
    exact ⟨n', N', rfl, .inl ⟨q, g, mb, rfl, H1⟩, H2, by omega, H5, H6⟩
  · refine (drop_nil k w).mono ?_
    rintro e w' ⟨rfl, rfl⟩
    refine ⟨0, N, rfl, ?_, Kept.refl _ _, by omega, fun e => absurd rfl e, fun _ => rfl⟩
    rw [upd_none rfl, show sadd (fun _ => false) k false = (fun _ => false) from by funext x; unfold sadd; split <;> rfl]
    exact h0
end
section
variable {w : World} {r : Nat} {xs : List Itm} {C : Int → Option Int} {S : Int → Bool} {age most : Int} {n : Nat} {ys : List Int} {G : Nat → Prop}
theorem set_few (hset : SetOf S ys) (f : QFit C S age most n) : ys.length ≤ 10000 := by
  have := sorted_small (a := 0) (b := 1000) ys hset.srt (fun x hx => f.sr x ((hset.mem x).1 hx))
  omega
theorem RQ.want (h : RQ w r xs most age ys G) (f : QFit C S age most n) (hs : SortedOf C xs) (hset : SetOf S ys) (hn : xs.length = n) (s p t a : Int) (C' : Int → Option Int) (S' : Int → Bool) (n' : Nat) (hw : WantA C S age most n s p t a C' S' n') :
    Calls Try.prog 13 #[.pointer (some ⟨r, 0, none⟩), .int .i64 s, .int .i64 p, .int .i64 t] w fun e w' => e = .returned (.int .i64 a) ∧ ∃ xs' ys', QPost w w' r xs' most age ys' G ∧ SortedOf C' xs' ∧ SetOf S' ys' ∧ xs'.length = n' := by
  have hy := set_few hset f
  have hl : xs.length ≤ 1000000 := by have := f.nm; omega
  rcases hw with ⟨ha, hw, ⟨old, hc, rfl, rfl, rfl, rfl⟩ | ⟨hc, hr, rfl, rfl, rfl, rfl⟩ | ⟨hc, hr, rfl, rfl, rfl, rfl⟩⟩ | ⟨hb, rfl, rfl, rfl, rfl⟩
  · refine (rwant_there h hl hs ha f.ag s p t hw old hc).mono ?_
    rintro e w' ⟨xs', rfl, H1, H2⟩
    refine ⟨rfl, xs', ys, H2, H1, hset, ?_⟩
    rw [← chg_some (by rw [hc]; exact Option.some_ne_none _)] at H1
    rw [len_turn hs H1, hn]
  · refine (rwant_push h hl hy hs ha f.ag s p t hw hc (by omega)).mono ?_
    rintro e w' ⟨xs', rfl, H1, H2⟩
    exact ⟨rfl, xs', _, H2, H1, (mk_set hset s false).1, by rw [len_ins hs hc (wf_small (by have := hw.1; omega) (by have := hw.2.1; omega)) H1, hn]⟩
  · refine (rwant_full h hl hy hs ha f.ag s p t hw hc (by omega)).mono ?_
    rintro e w' ⟨rfl, H2⟩
    exact ⟨rfl, xs, _, H2, hs, (mk_set hset s true).1, hn⟩
  · refine (rwant_bad h s p t hb).mono ?_
    rintro e w' ⟨rfl, rfl⟩
    exact ⟨rfl, xs, ys, QPost.of_below h (Below.refl _ _), hs, hset, hn⟩
theorem drop_set {m : Nat} (hset : SetOf S ys) : SetOf (fun x => S x && !decide (x ∈ ys.take m)) (ys.drop m) := by
  refine ⟨hset.srt.sublist (List.drop_sublist _ _), fun x => ?_⟩
  have h1 := hset.srt
  rw [← List.take_append_drop m ys, List.pairwise_append] at h1
  have h2 := hset.mem x
  rw [← List.take_append_drop m ys, List.mem_append] at h2
  simp only [Bool.and_eq_true, Bool.not_eq_true', decide_eq_false_iff_not]
  constructor
  · intro hx
    exact ⟨h2.1 (.inr hx), fun e => by have := h1.2.2 x e x hx; omega⟩
  · rintro ⟨hx, hnt⟩
    exact (h2.2 hx).resolve_left hnt
theorem Swept.same {C1 C2 C3 : Int → Option Int} {S2 S3 : Int → Bool} {t : Int} {ys2 ys3 : List Int} {m2 m3 : Nat} (h : Swept C1 S n most t ys2 m2 C2 S2) (g : Swept C1 S n most t ys3 m3 C3 S3) : ys2 = ys3 ∧ m2 = m3 ∧ C2 = C3 ∧ S2 = S3 := by
  have e1 : ys2 = ys3 := SetOf.unique h.set.srt g.set.srt (fun x => (h.set.mem x).trans (g.set.mem x).symm)
  subst e1
  have e2 : m2 = m3 := h.much.trans g.much.symm
  subst e2
  exact ⟨rfl, rfl, funext fun x => (h.cont x).trans (g.cont x).symm, funext fun x => (h.dirt x).trans (g.dirt x).symm⟩
theorem RQ.next (h : RQ w r xs most age ys G) (f : QFit C S age most n) (hs : SortedOf C xs) (hset : SetOf S ys) (hn : xs.length = n) (now k p : Int) (b : Bool) (C' : Int → Option Int) (S' : Int → Bool) (n' : Nat) (hw : NextTo C S n most (-(clampT now)) k p b C' S' n') :
    Calls Try.prog 15 #[.pointer (some ⟨r, 0, none⟩), .int .i64 now] w fun e w' => e = .returned (.tuple #[.int .i64 k, .bool b]) ∧ ∃ xs' ys', QPost w w' r xs' most age ys' G ∧ SortedOf C' xs' ∧ SetOf S' ys' ∧ xs'.length = n' := by
  obtain ⟨ht, ys2, m2, hsw, rfl⟩ := hw
  refine (rnext_calls h (by have := f.nm; omega) f.mo hs hset f.sr f.sc now).mono ?_
  rintro e w' ⟨k1, p1, b1, m, C1, S1, xs', ys', rfl, H1, H2, H3, H4, rfl, H6⟩
  rw [hn] at H1 H2 H3
  obtain ⟨rfl, rfl, rfl⟩ := ht.same H1
  obtain ⟨rfl, rfl, rfl, rfl⟩ := hsw.same H2
  have e1 : S' = (fun x => S x && !decide (x ∈ ys2.take m2)) := funext H2.dirt
  exact ⟨rfl, xs', _, H6, H4, by rw [e1]; exact drop_set hset, H3⟩
theorem RQ.drop (h : RQ w r xs most age ys G) (f : QFit C S age most n) (hs : SortedOf C xs) (hset : SetOf S ys) (hn : xs.length = n) (k : Int) (n' : Nat) (h1 : C k ≠ none → n' + 1 = n) (h2 : C k = none → n' = n) :
    Calls Try.prog 17 #[.pointer (some ⟨r, 0, none⟩), .int .i64 k] w fun e w' => e = .returned (.bool ((C k).isSome || S k)) ∧ ∃ xs' ys', QPost w w' r xs' most age ys' G ∧ SortedOf (upd C k none) xs' ∧ SetOf (sadd S k false) ys' ∧ xs'.length = n' := by
  refine (rdrop_calls h (by have := f.nm; omega) (set_few hset f) hs k).mono ?_
  rintro e w' ⟨xs', rfl, H1, H2⟩
  obtain ⟨m1, m2⟩ := mk_set hset k false
  refine ⟨by rw [m2], xs', _, H2, H1, m1, ?_⟩
  have := len_del hs H1
  by_cases c : C k = none
  · rw [this.2 c, h2 c, hn]
  · have := this.1 c; have := h1 c; omega
end
/-- The two queues, and blocks E that are neither's. -/
def TQ (w : World) (qv : Value) (r : Nat) (C : Int → Option Int) (S : Int → Bool) (age most : Int) (n N : Nat) (xs : List Itm) (ys : List Int) (E : Nat → Prop) : Prop :=
  ∃ D G, QAny w qv C S age most n N D ∧ RQ w r xs most age ys G ∧ SortedOf C xs ∧ SetOf S ys ∧ xs.length = n ∧ (∀ k, G k → D k) ∧ ∀ k, E k → D k ∧ ¬ G k
section
variable {w : World} {qv : Value} {r : Nat} {C : Int → Option Int} {S : Int → Bool} {age most : Int} {n N : Nat} {xs : List Itm} {ys : List Int} {E : Nat → Prop}
theorem TQ.below {w' : World} (h : TQ w qv r C S age most n N xs ys E) (b : Below w.heap.size w w') : TQ w' qv r C S age most n N xs ys E := by
  obtain ⟨D, G, h1, h2, h3, h4, h5, h6, h7⟩ := h
  exact ⟨D, G, h1.below b, h2.below b, h3, h4, h5, h6, h7⟩
theorem TQ.less {E' : Nat → Prop} (h : TQ w qv r C S age most n N xs ys E) (hd : ∀ k, E' k → E k) : TQ w qv r C S age most n N xs ys E' := by
  obtain ⟨D, G, h1, h2, h3, h4, h5, h6, h7⟩ := h
  exact ⟨D, G, h1, h2, h3, h4, h5, h6, fun k e => h7 k (hd k e)⟩
/-- Behind a step of the document's. -/
theorem tq_done {w1 w2 : World} {D G : Nat → Prop} {xs' : List Itm} {ys' : List Int} (h1 : QAny w1 qv C S age most n N D) (hG : ∀ k, G k → D k) (hE : ∀ k, E k → D k ∧ ¬ G k) (hp : QPost w1 w2 r xs' most age ys' G) (hs : SortedOf C xs') (hset : SetOf S ys') (hn : xs'.length = n) : TQ w2 qv r C S age most n N xs' ys' E ∧ Kept w1 w2 E := by
  obtain ⟨G', g1, g2, g3⟩ := hp
  have hl := h1.lt
  refine ⟨⟨fun k => D k ∨ G' k, G', h1.turned g2 hG ?_, g1, hs, hset, hn, fun k e => .inr e, fun k e => ⟨.inl (hE k e).1, fun x => ?_⟩⟩, Chg.mono g2 (fun k g => .inl (fun e => (hE k e).2 g))⟩
  · rintro k (e | e)
    · exact .inl e
    · exact (g3 k e).imp (hG k) id
  · rcases g3 k x with y | y
    · exact (hE k e).2 y
    · have := hl k (hE k e).1; omega
theorem TQ.want (h : TQ w qv r C S age most n N xs ys E) (hN : N ≤ 14000000000000) (s p t : Int) :
    Calls Try.prog 12 #[qv, .int .i64 s, .int .i64 p, .int .i64 t] w fun e w1 => ∃ a, e = .returned (.int .i64 a) ∧
      Calls Try.prog 13 #[.pointer (some ⟨r, 0, none⟩), .int .i64 s, .int .i64 p, .int .i64 t] w1 fun e w2 => e = .returned (.int .i64 a) ∧
        ∃ C' S' n' N' xs' ys', TQ w2 qv r C' S' age most n' N' xs' ys' E ∧ Kept w w2 E ∧ N' ≤ N + 5000000000 := by
  obtain ⟨D, G, h1, h2, h3, h4, h5, h6, h7⟩ := h
  refine (h1.want hN s p t).mono ?_
  rintro e w1 ⟨a, C', S', n', N', rfl, H1, H2, H3, H4⟩
  refine ⟨a, rfl, ?_⟩
  refine ((h2.keep H3 (fun k s e => s (h6 k e))).want h1.fit h3 h4 h5 s p t a C' S' n' H1).mono ?_
  rintro e w2 ⟨rfl, xs', ys', P1, P2, P3, P4⟩
  obtain ⟨T1, T2⟩ := tq_done H2 h6 h7 P1 P2 P3 P4
  exact ⟨rfl, C', S', n', N', xs', ys', T1, (H3.mono (fun k e => (h7 k e).1)).trans T2, H4⟩
theorem TQ.next (h : TQ w qv r C S age most n N xs ys E) (hN : N ≤ 14000000000000) (now : Int) :
    Calls Try.prog 14 #[qv, .int .i64 now] w fun e w1 => ∃ k b, e = .returned (.tuple #[.int .i64 k, .bool b]) ∧
      Calls Try.prog 15 #[.pointer (some ⟨r, 0, none⟩), .int .i64 now] w1 fun e w2 => e = .returned (.tuple #[.int .i64 k, .bool b]) ∧
        ∃ C' S' n' N' xs' ys', TQ w2 qv r C' S' age most n' N' xs' ys' E ∧ Kept w w2 E ∧ N' ≤ N + 5000000000 := by
  obtain ⟨D, G, h1, h2, h3, h4, h5, h6, h7⟩ := h
  refine (h1.next hN now).mono ?_
  rintro e w1 ⟨k, p, b, C', S', n', N', rfl, H1, H2, H3, H4⟩
  refine ⟨k, b, rfl, ?_⟩
  refine ((h2.keep H3 (fun k s e => s (h6 k e))).next h1.fit h3 h4 h5 now k p b C' S' n' H1).mono ?_
  rintro e w2 ⟨rfl, xs', ys', P1, P2, P3, P4⟩
  obtain ⟨T1, T2⟩ := tq_done H2 h6 h7 P1 P2 P3 P4
  exact ⟨rfl, C', S', n', N', xs', ys', T1, (H3.mono (fun k e => (h7 k e).1)).trans T2, H4⟩
theorem TQ.drop (h : TQ w qv r C S age most n N xs ys E) (hN : N ≤ 14000000000000) (k : Int) (hk : (Lit.int .i64 k).wf = true) :
    Calls Try.prog 16 #[qv, .int .i64 k] w fun e w1 => ∃ b, e = .returned (.bool b) ∧
      Calls Try.prog 17 #[.pointer (some ⟨r, 0, none⟩), .int .i64 k] w1 fun e w2 => e = .returned (.bool b) ∧
        ∃ C' S' n' N' xs' ys', TQ w2 qv r C' S' age most n' N' xs' ys' E ∧ Kept w w2 E ∧ N' ≤ N + 5000000000 := by
  obtain ⟨D, G, h1, h2, h3, h4, h5, h6, h7⟩ := h
  refine (h1.drop hN k hk).mono ?_
  rintro e w1 ⟨n', N', rfl, H2, H3, H4, H5, H6⟩
  refine ⟨_, rfl, ?_⟩
  refine ((h2.keep H3 (fun k s e => s (h6 k e))).drop h1.fit h3 h4 h5 k n' H5 H6).mono ?_
  rintro e w2 ⟨rfl, xs', ys', P1, P2, P3, P4⟩
  obtain ⟨T1, T2⟩ := tq_done H2 h6 h7 P1 P2 P3 P4
  exact ⟨rfl, _, _, n', N', xs', ys', T1, (H3.mono (fun k e => (h7 k e).1)).trans T2, H4⟩
end
/-- Ints that are read at v. -/
def Rd (w : World) (v : Value) (ys : List Int) : Prop :=
  ∃ a cap, v = .slice a ys.length cap ∧ ∀ i, i < ys.length → ∃ b off, a = some ⟨b, off, none⟩ ∧ b < w.heap.size ∧ w.cell? ⟨b, off + i, none⟩ = some (.int .i64 (ys.getD i 0))
theorem Rd.below {w w' : World} {v : Value} {ys : List Int} (h : Rd w v ys) (b : Below w.heap.size w w') : Rd w' v ys := by
  obtain ⟨a, cap, h1, h3⟩ := h
  refine ⟨a, cap, h1, fun i hi => ?_⟩
  obtain ⟨g, off, e, hl, hc⟩ := h3 i hi
  exact ⟨g, off, e, Nat.lt_of_lt_of_le hl b.size, (b.cell (p := ⟨g, off + i, none⟩) hl).trans hc⟩
theorem NRow.rd {w : World} {B : Nat} {v : Value} {ys : List Int} (h : NRow w B v ys) : Rd w v ys := by
  obtain ⟨a, cap, rfl, _, hc⟩ := h.nums
  refine ⟨a, cap, rfl, fun i hi => ?_⟩
  obtain ⟨b, rfl, e2, e3, e4⟩ := hc i hi
  exact ⟨b, 0, rfl, e3, by rw [Nat.zero_add]; exact e4⟩
theorem rd_nil (w : World) : Rd w (.slice none 0 0) [] := ⟨none, 0, rfl, fun i hi => absurd hi (by simp)⟩
section
variable {w : World} {qv : Value} {r : Nat} {C : Int → Option Int} {S : Int → Bool} {age most : Int} {n N : Nat} {xs : List Itm} {ys : List Int} {E : Nat → Prop}
/-- What is read of both. -/
theorem TQ.look (h : TQ w qv r C S age most n N xs ys E) (hN : N ≤ 14000000000000) :
    (∀ w', Below w.heap.size w w' → Calls Try.prog 19 #[qv] w' fun e w2 => ∃ v, e = .returned v ∧ Rd w2 v (xs.map (·.1)) ∧ Below w'.heap.size w' w2) ∧
    (∀ w', Below w.heap.size w w' → Calls Try.prog 20 #[.pointer (some ⟨r, 0, none⟩)] w' fun e w2 => ∃ v, e = .returned v ∧ Rd w2 v (xs.map (·.1)) ∧ Below w'.heap.size w' w2) ∧
    (∀ w', Below w.heap.size w w' → Calls Try.prog 21 #[qv] w' fun e w2 => ∃ v, e = .returned v ∧ Rd w2 v ys ∧ Below w'.heap.size w' w2) ∧
    (∃ dv, w.cell? ⟨r, 3, none⟩ = some dv ∧ r < w.heap.size ∧ Rd w dv ys) ∧ xs.length ≤ 1000 ∧ ys.length ≤ 10000 := by
  obtain ⟨D, G, h1, h2, h3, h4, h5, h6, h7⟩ := h
  have f := h1.fit
  refine ⟨fun w' b => ?_, fun w' b => ?_, fun w' b => ?_, ?_, by have := f.nm; omega, set_few h4 f⟩
  · rcases h1.below b with ⟨q, g, mb, rfl, h⟩ | ⟨rfl, rfl, rfl, rfl, rfl, rfl, h4⟩
    · refine h.waiting.mono ?_
      rintro e w2 ⟨v, ks, rfl, H1, H2, H3, H4⟩
      obtain rfl : ks = xs.map (·.1) := SetOf.unique H1.srt h3.keys.srt (fun x => (H1.mem x).trans (h3.keys.mem x).symm)
      exact ⟨v, rfl, H3.rd, H4⟩
    · refine (waiting_nil w').mono ?_
      rintro e w2 ⟨rfl, rfl⟩
      obtain rfl : xs = [] := List.length_eq_zero_iff.1 h5
      exact ⟨_, rfl, rd_nil _, Below.refl _ _⟩
  · obtain ⟨dv, F, ⟨v, hv, -, -⟩, -, -, -⟩ := h2.below b
    refine (rwaiting w' r v xs most hv (by have := f.nm; omega)).mono ?_
    rintro e w2 ⟨u, rfl, H1, H2⟩
    exact ⟨u, rfl, H1.rd, H2⟩
  · rcases h1.below b with ⟨q, g, mb, rfl, h⟩ | ⟨rfl, rfl, rfl, rfl, rfl, rfl, h6⟩
    · refine (h.dirty (by omega)).mono ?_
      rintro e w2 ⟨v, ks, rfl, H1, H3, H4⟩
      obtain rfl : ks = ys := SetOf.unique H1.srt h4.srt (fun x => (H1.mem x).trans (h4.mem x).symm)
      exact ⟨v, rfl, H3.rd, H4⟩
    · refine (dirty_nil w').mono ?_
      rintro e w2 ⟨rfl, rfl⟩
      obtain rfl : ys = [] := List.eq_nil_iff_forall_not_mem.2 (fun x hx => by have := (h4.mem x).1 hx; cases this)
      exact ⟨_, rfl, rd_nil _, Below.refl _ _⟩
  · obtain ⟨a, cap, c3, hc, hr, -, -⟩ := h2.dirty
    refine ⟨_, c3, hr, a, cap, rfl, fun i hi => ?_⟩
    obtain ⟨b, off, e, -, q1, q2⟩ := hc i hi
    exact ⟨b, off, e, q1, q2⟩
end
set_option maxHeartbeats 2000000 in
set_option maxRecDepth 20000 in
/-- Two rows of the same numbers are told the same, wherever they begin. -/
theorem ints_rd (v1 v2 : Value) (xs : List Int) (w : World) (h1 : Rd w v1 xs) (h2 : Rd w v2 xs) (hl : xs.length ≤ 1000000) :
    Calls Try.prog 18 #[v1, v2] w fun e w' => e = .returned (.bool true) ∧ Below w.heap.size w w' := by
  obtain ⟨a1, c1, rfl, g1⟩ := h1
  obtain ⟨a2, c2, rfl, g2⟩ := h2
  obtain ⟨len, hlen⟩ : ∃ l, l = xs.length := ⟨_, rfl⟩
  have G1 := Aside0.mk g1
  have G2 := Aside0.mk g2
  have HL := Aside0.mk hlen
  rw [← hlen] at hl ⊢
  clear g1 g2 hlen
  have BB := Aside0.mk (Below.refl w.heap.size w)
  go_enter Try.func18, Try.ntmps18
  go_wp2_with fail
  go_loopw [5] (fun vi wr => ∃ (i : Nat), vi = .int .i64 i ∧ i ≤ len ∧ Aside0 (Below w.heap.size w wr)) (fun vi _ => len - (intOf vi).toNat)
  case atStart => exact ⟨0, rfl, by omega, BB⟩
  case round =>
    clear BB
    obtain ⟨i, rfl, hil, B⟩ := hrel
    by_cases hlt : i < len
    · have hw1 : wrap64 ((i : Int) + 1) = i + 1 := by unfold wrap64; omega
      obtain ⟨b1, o1, e1, q1, k1⟩ := G1.out i (by have := HL.out; omega)
      obtain ⟨b2, o2, e2, q2, k2⟩ := G2.out i (by have := HL.out; omega)
      subst e1
      subst e2
      obtain ⟨x, hx⟩ : ∃ x, xs.getD i 0 = x := ⟨_, rfl⟩
      rw [hx] at k1 k2
      have d1 := (B.out.cell (p := ⟨b1, o1 + i, none⟩) q1).trans k1
      have d2 := (B.out.cell (p := ⟨b2, o2 + i, none⟩) q2).trans k2
      clear k1 k2 q1 q2 hx
      go_wp2_with fail
      refine start_ (n := 9) (S := fun w' => w'.cell? ⟨b1, o1 + i, none⟩ = some (.int .i64 x) ∧ w'.cell? ⟨b2, o2 + i, none⟩ = some (.int .i64 x) ∧ Below w.heap.size w w') (ds := []) #[false, false, false, false, false, false, false, false, false] (by kernel_rfl) rfl rfl ⟨d1, d2, (by apply below_drew1; exact B.out)⟩ (fun hHeld => ?_)
      refine pure_ (i := 0) (N := some 17) (v := ?_) (a' := ?_) #[true, false, false, false, false, false, false, false, false] rfl rfl (by kernel_rfl) (fun _ _ _ h => h) (Or.inl ⟨by rfl, ?_⟩) ?_ ?_
      rotate_left
      · intro w'
        go_simp
        with_reducible rfl
      rotate_left
      · simp only [Act.put, List.setIfInBounds_toArray, List.set_cons_zero, List.set_cons_succ, i64_w, i32_w]
        rfl
      refine pure_ (i := 1) (N := some 18) (v := ?_) (a' := ?_) #[true, true, false, false, false, false, false, false, false] rfl rfl (by kernel_rfl) (fun _ _ _ h => h) (Or.inl ⟨by rfl, ?_⟩) ?_ ?_
      rotate_left
      · intro w'
        go_simp
        with_reducible rfl
      rotate_left
      · simp only [Act.put, List.setIfInBounds_toArray, List.set_cons_zero, List.set_cons_succ, i64_w, i32_w]
        rfl
      refine pure_ (i := 2) (N := some 19) (v := ?_) (a' := ?_) #[true, true, true, false, false, false, false, false, false] rfl rfl (by kernel_rfl) (fun _ _ _ h => h) (Or.inl ⟨by rfl, ?_⟩) ?_ ?_
      rotate_left
      · intro w'
        go_simp
        with_reducible rfl
      rotate_left
      · simp only [Act.put, List.setIfInBounds_toArray, List.set_cons_zero, List.set_cons_succ, i64_w, i32_w]
        rfl
      refine pure_ (i := 4) (N := some 21) (v := ?_) (a' := ?_) #[true, true, true, false, true, false, false, false, false] rfl rfl (by kernel_rfl) (fun _ _ _ h => h) (Or.inl ⟨by rfl, ?_⟩) ?_ ?_
      rotate_left
      · intro w'
        go_simp
        with_reducible rfl
      rotate_left
      · simp only [Act.put, List.setIfInBounds_toArray, List.set_cons_zero, List.set_cons_succ, i64_w, i32_w]
        rfl
      refine pure_ (i := 5) (N := some 22) (v := ?_) (a' := ?_) #[true, true, true, false, true, true, false, false, false] rfl rfl (by kernel_rfl) (fun _ _ _ h => h) (Or.inl ⟨by rfl, ?_⟩) ?_ ?_
      rotate_left
      · intro w'
        go_simp
        with_reducible rfl
      rotate_left
      · simp only [Act.put, List.setIfInBounds_toArray, List.set_cons_zero, List.set_cons_succ, i64_w, i32_w]
        rfl
      refine pure_ (i := 6) (N := some 23) (v := ?_) (a' := ?_) #[true, true, true, false, true, true, true, false, false] rfl rfl (by kernel_rfl) (fun _ _ _ h => h) (Or.inl ⟨by rfl, ?_⟩) ?_ ?_
      rotate_left
      · intro w'
        go_simp
        with_reducible rfl
      rotate_left
      · simp only [Act.put, List.setIfInBounds_toArray, List.set_cons_zero, List.set_cons_succ, i64_w, i32_w]
        rfl
      refine take_ (i := 3) (N := some 20) (v := ?_) (a' := ?_) #[true, true, true, true, true, true, true, false, false] rfl rfl (by kernel_rfl) (fun _ _ _ h => h) (Or.inl ⟨by rfl, ?_⟩) hHeld ?_ ?_
      rotate_left
      · rintro w' ⟨s0, s1, s2⟩
        go_simp
        with_reducible rfl
      rotate_left
      · simp only [Act.put, List.setIfInBounds_toArray, List.set_cons_zero, List.set_cons_succ, i64_w, i32_w]
        rfl
      refine take_ (i := 7) (N := some 24) (v := ?_) (a' := ?_) #[true, true, true, true, true, true, true, true, false] rfl rfl (by kernel_rfl) (fun _ _ _ h => h) (Or.inl ⟨by rfl, ?_⟩) hHeld ?_ ?_
      rotate_left
      · rintro w' ⟨s0, s1, s2⟩
        go_simp
        with_reducible rfl
      rotate_left
      · simp only [Act.put, List.setIfInBounds_toArray, List.set_cons_zero, List.set_cons_succ, i64_w, i32_w]
        rfl
      refine pure_ (i := 8) (N := some 25) (v := ?_) (a' := ?_) #[true, true, true, true, true, true, true, true, true] rfl rfl (by kernel_rfl) (fun _ _ _ h => h) (Or.inl ⟨by rfl, ?_⟩) ?_ ?_
      rotate_left
      · intro w'
        go_simp
        with_reducible rfl
      rotate_left
      · simp only [Act.put, List.setIfInBounds_toArray, List.set_cons_zero, List.set_cons_succ, i64_w, i32_w]
        rfl
      refine done_ (by kernel_rfl) ?_

      have R := Aside0.mk hHeld.2.2
      clear hHeld d1 d2
      go_wp2_with fail
      go_roundw
      case rel => exact ⟨i + 1, by go_num, by omega, by first | exact R | exact B⟩
      case measure => simp [intOf]; omega
    · go_wp2_with fail
      go_ret
      exact ⟨rfl, B.out⟩
end Go.Proofs.Ytclekakhgaggdaa.HeapC
