/- The document's heap: Top, Pop, Push. -/
import Derived.Test.YtclekakhgaggdaaQR
namespace Go.Proofs.Ytclekakhgaggdaa.HeapC
open Go.RowKit Go.Proofs.Ytclekakhgaggdaa.HeapT Go.Proofs.Ytclekakhgaggdaa.HeapM Go.Proofs.YtclekakhgaggdaaW.PrintWords Go.Proofs.YtclekakhgaggdaaW.PrintLast Go.Proofs.YtclekakhgaggdaaW.PrintMore
set_option linter.unusedVariables false
set_option maxRecDepth 20000
set_option linter.unusedSimpArgs false
variable {κ : TypeId × List Value}

set_option maxHeartbeats 1000000 in
theorem rtop_none (w : World) (r : Nat) (xs : List Itm) (most : Int) (G : Nat → Prop) (h : IsRef κ w r xs most G) (hl : xs.length = 0) :
    Calls Try.prog 46 #[.pointer (some ⟨r, 0, none⟩)] w fun e w' => e = .returned (.tuple #[.agg #[.int .i64 0, .int .i64 0], .bool false]) ∧ Below w.heap.size w w' := by
  obtain ⟨v, hm, -, -⟩ := h
  obtain ⟨a, cap, rfl⟩ := hm.val
  have c0 : w.cell? ⟨r, 0, none⟩ = some (.slice a 0 cap) := by have := (HeapM.blk_cell hm.head 0).trans rfl; rw [hl] at this; exact this
  have hlr := HeapM.blk_lt hm.head
  have ar : ∀ (o : Obj) (off : Nat), (w.alloc o).cell? ⟨r, off, none⟩ = w.cell? ⟨r, off, none⟩ := fun o off => World.cell?_alloc_lt _ _ _ hlr
  have HB := Aside0.mk (Below.refl w.heap.size w)
  clear hm hl
  go_enter Try.func46, Try.ntmps46
  go_wp2
  go_returns
  exact ⟨rfl, by repeat (with_reducible first | exact HB.out | apply below_alloc | apply pw_below_drewN | apply below_drew1 | refine below_set ?_ (by simp))⟩

/-- The first one of the greatest urgency among those ahead of i. -/
def Best1 (xs : List Itm) (i b : Nat) : Prop := b < i ∧ (∀ j, j < i → (it xs j).2 ≤ (it xs b).2) ∧ ∀ j, j < b → (it xs j).2 < (it xs b).2
theorem Best1.start (xs : List Itm) : Best1 xs 1 0 := ⟨by omega, fun j hj => by rw [show j = 0 by omega]; omega, fun j hj => absurd hj (by omega)⟩
theorem Best1.stay {xs : List Itm} {i b : Nat} (h : Best1 xs i b) (hx : ¬ (it xs b).2 < (it xs i).2) : Best1 xs (i + 1) b :=
  ⟨by have := h.1; omega, fun j hj => by
    by_cases e : j = i
    · rw [e]; omega
    · exact h.2.1 j (by omega), h.2.2⟩
theorem Best1.take {xs : List Itm} {i b : Nat} (h : Best1 xs i b) (hx : (it xs b).2 < (it xs i).2) : Best1 xs (i + 1) i :=
  ⟨by omega, fun j hj => by
    by_cases e : j = i
    · rw [e]; omega
    · have := h.2.1 j (by omega); omega, fun j hj => by have := h.2.1 j hj; omega⟩

set_option maxHeartbeats 2000000 in
theorem rtop_some (w : World) (r : Nat) (xs : List Itm) (most : Int) (G : Nat → Prop) (h : IsRef κ w r xs most G) (hl : xs.length ≤ 1000000) (hn : 0 < xs.length) :
    Calls Try.prog 46 #[.pointer (some ⟨r, 0, none⟩)] w fun e w' => ∃ b, Best1 xs xs.length b ∧ e = .returned (.tuple #[.agg #[.int .i64 (it xs b).1, .int .i64 (it xs b).2], .bool true]) ∧ Below w.heap.size w w' := by
  obtain ⟨v, hm, -, -⟩ := h
  have hm' := Aside0.mk hm
  obtain ⟨b0, cap, rfl, hb0, hbr, hcap, q0, q1⟩ := hm.item 0 hn
  have c0 : w.cell? ⟨r, 0, none⟩ = some (.slice (some ⟨b0, 0, none⟩) xs.length cap) := (HeapM.blk_cell hm.head 0).trans rfl
  have hlr := HeapM.blk_lt hm.head
  have ar : ∀ (o : Obj) (off : Nat), (w.alloc o).cell? ⟨r, off, none⟩ = w.cell? ⟨r, off, none⟩ := fun o off => World.cell?_alloc_lt _ _ _ hlr
  have ab : ∀ (o : Obj) (off : Nat), (w.alloc o).cell? ⟨b0, off, none⟩ = w.cell? ⟨b0, off, none⟩ := fun o off => World.cell?_alloc_lt _ _ _ hb0
  have HB := Aside0.mk (Below.refl w.heap.size w)
  have hn1 : ((xs.length : Int) == 0) = false := beq_eq_false_iff_ne.2 (by omega)
  rw [Nat.zero_mul] at q0
  rw [show 0 * 2 + 1 = 1 from rfl] at q1
  obtain ⟨x, hx⟩ : ∃ x, (it xs 0).1 = x := ⟨_, rfl⟩
  obtain ⟨y, hy⟩ : ∃ x, (it xs 0).2 = x := ⟨_, rfl⟩
  rw [hx] at q0
  rw [hy] at q1
  have hx' := Aside0.mk hx
  have hy' := Aside0.mk hy
  obtain ⟨W, hW⟩ : ∃ W, W = (w.alloc (.cells #[.int .i64 0, .int .i64 0] 63)).alloc (.cells #[.int .i64 x, .int .i64 y] 63) := ⟨_, rfl⟩
  obtain ⟨X, hX⟩ : ∃ X, X = w.heap.size := ⟨_, rfl⟩
  have bX : W.heap[X]? = some (.cells #[.int .i64 0, .int .i64 0] 63 (0, 0)) := by rw [hW, hX]; exact HeapM.blk_alloc (HeapM.blk_new _ _) _
  have bY : W.heap[X + 1]? = some (.cells #[.int .i64 x, .int .i64 y] 63 (0, 0)) := by
    have := HeapM.blk_new (w.alloc (.cells #[.int .i64 0, .int .i64 0] 63)) (.cells #[.int .i64 x, .int .i64 y] 63 (0, 0))
    rw [hW, hX]; simpa using this
  have BW : Below w.heap.size w W := by rw [hW]; repeat (with_reducible first | exact HB.out | apply below_alloc)
  have hW' := Aside0.mk hW
  have hX' := Aside0.mk hX
  have bX' := Aside0.mk bX
  have bY' := Aside0.mk bY
  have BW' := Aside0.mk BW
  clear hm hx hy hW hX bX bY BW
  go_enter Try.func46, Try.ntmps46
  go_wp2_with fail
  rw [← hW'.out, ← hX'.out]
  clear q0 q1 ar ab
  go_loopw [5] (fun vi wr => ∃ (i b : Nat), vi = .int .i64 i ∧ i ≤ xs.length ∧ Aside0 (Best1 xs i b) ∧ Aside0 (wr.heap[X]? = some (.cells #[.int .i64 0, .int .i64 0] 63 (0, 0))) ∧ Aside0 (wr.heap[X + 1]? = some (.cells #[.int .i64 (it xs b).1, .int .i64 (it xs b).2] 63 (0, 0))) ∧ Aside0 (Below w.heap.size w wr)) (fun vi _ => xs.length - (intOf vi).toNat)
  case atStart => exact ⟨1, 0, rfl, by omega, ⟨Best1.start xs⟩, bX', ⟨by rw [hx'.out, hy'.out]; exact bY'.out⟩, BW'⟩
  case round =>
    obtain ⟨i, b, rfl, hin, HB1, HX, HY, HK⟩ := hrel
    have cr := (HK.out.cell (p := ⟨r, 0, none⟩) hlr).trans c0
    obtain ⟨p0, hp0⟩ : ∃ x, (it xs b).1 = x := ⟨_, rfl⟩
    obtain ⟨p1, hp1⟩ : ∃ x, (it xs b).2 = x := ⟨_, rfl⟩
    have HY2 := HY.out
    rw [hp0, hp1] at HY2
    have y0 : wr.cell? ⟨X + 1, 0, none⟩ = some (.int .i64 p0) := (HeapM.blk_cell HY2 0).trans rfl
    have y1 : wr.cell? ⟨X + 1, 1, none⟩ = some (.int .i64 p1) := (HeapM.blk_cell HY2 1).trans rfl
    have hp0' := Aside0.mk hp0
    have hp1' := Aside0.mk hp1
    have HY2' := Aside0.mk HY2
    clear HY hp0 hp1 HY2
    by_cases hlt : i < xs.length
    · have hw1 : wrap64 ((i : Int) + 1) = i + 1 := by unfold wrap64; omega
      obtain ⟨b9, cap9, e, hb9, -, -, q0, q1⟩ := hm'.out.item i hlt
      injection e with e1 _ e3
      injection e1 with e1
      injection e1 with e1
      subst e1; subst e3
      have d0 := (HK.out.cell (p := ⟨b0, i * 2, none⟩) hb0).trans q0
      have d1 := (HK.out.cell (p := ⟨b0, i * 2 + 1, none⟩) hb0).trans q1
      obtain ⟨s, hs⟩ : ∃ x, (it xs i).1 = x := ⟨_, rfl⟩
      obtain ⟨t, ht⟩ : ∃ x, (it xs i).2 = x := ⟨_, rfl⟩
      rw [hs] at d0
      rw [ht] at d1
      have hs' := Aside0.mk hs
      have ht' := Aside0.mk ht
      have hlt' := Aside0.mk hlt
      clear q0 q1 hs ht
      by_cases hpt : p1 < t
      · have hd : decide (p1 < t) = true := decide_eq_true hpt
        have hB2 := Aside0.mk (HB1.out.take (by rw [ht'.out, hp1'.out]; exact hpt))
        clear hpt
        go_wp2_with fail
        refine start_ (n := 11) (S := fun w' => w'.cell? ⟨r, 0, none⟩ = some (.slice (some ⟨b0, 0, none⟩) xs.length cap) ∧ w'.cell? ⟨b0, i * 2 + 1, none⟩ = some (.int .i64 t) ∧ w'.cell? ⟨X + 1, 1, none⟩ = some (.int .i64 p1)) (ds := []) #[false, false, false, false, false, false, false, false, false, false, false] (by kernel_rfl) rfl rfl ⟨cr, d1, y1⟩ (fun hHeld => ?_)
        refine pure_ (i := 0) (N := some 28) (v := ?_) (a' := ?_) #[true, false, false, false, false, false, false, false, false, false, false] rfl rfl (by kernel_rfl) (fun _ _ _ h => h) (Or.inl ⟨by rfl, ?_⟩) ?_ ?_
        rotate_left
        · intro w'
          go_simp
          with_reducible rfl
        rotate_left
        · simp only [Act.put, List.setIfInBounds_toArray, List.set_cons_zero, List.set_cons_succ, i64_w, i32_w]
          rfl
        refine pure_ (i := 1) (N := some 29) (v := ?_) (a' := ?_) #[true, true, false, false, false, false, false, false, false, false, false] rfl rfl (by kernel_rfl) (fun _ _ _ h => h) (Or.inl ⟨by rfl, ?_⟩) ?_ ?_
        rotate_left
        · intro w'
          go_simp
          with_reducible rfl
        rotate_left
        · simp only [Act.put, List.setIfInBounds_toArray, List.set_cons_zero, List.set_cons_succ, i64_w, i32_w]
          rfl
        refine pure_ (i := 2) (N := some 30) (v := ?_) (a' := ?_) #[true, true, true, false, false, false, false, false, false, false, false] rfl rfl (by kernel_rfl) (fun _ _ _ h => h) (Or.inl ⟨by rfl, ?_⟩) ?_ ?_
        rotate_left
        · intro w'
          go_simp
          with_reducible rfl
        rotate_left
        · simp only [Act.put, List.setIfInBounds_toArray, List.set_cons_zero, List.set_cons_succ, i64_w, i32_w]
          rfl
        refine pure_ (i := 4) (N := some 32) (v := ?_) (a' := ?_) #[true, true, true, false, true, false, false, false, false, false, false] rfl rfl (by kernel_rfl) (fun _ _ _ h => h) (Or.inl ⟨by rfl, ?_⟩) ?_ ?_
        rotate_left
        · intro w'
          go_simp
          with_reducible rfl
        rotate_left
        · simp only [Act.put, List.setIfInBounds_toArray, List.set_cons_zero, List.set_cons_succ, i64_w, i32_w]
          rfl
        refine pure_ (i := 8) (N := some 36) (v := ?_) (a' := ?_) #[true, true, true, false, true, false, false, false, true, false, false] rfl rfl (by kernel_rfl) (fun _ _ _ h => h) (Or.inl ⟨by rfl, ?_⟩) ?_ ?_
        rotate_left
        · intro w'
          go_simp
          with_reducible rfl
        rotate_left
        · simp only [Act.put, List.setIfInBounds_toArray, List.set_cons_zero, List.set_cons_succ, i64_w, i32_w]
          rfl
        refine take_ (i := 3) (N := some 31) (v := ?_) (a' := ?_) #[true, true, true, true, true, false, false, false, true, false, false] rfl rfl (by kernel_rfl) (fun _ _ _ h => h) (Or.inl ⟨by rfl, ?_⟩) hHeld ?_ ?_
        rotate_left
        · rintro w' ⟨s0, s1, s2⟩
          go_simp
          with_reducible rfl
        rotate_left
        · simp only [Act.put, List.setIfInBounds_toArray, List.set_cons_zero, List.set_cons_succ, i64_w, i32_w]
          rfl
        refine pure_ (i := 5) (N := some 33) (v := ?_) (a' := ?_) #[true, true, true, true, true, true, false, false, true, false, false] rfl rfl (by kernel_rfl) (fun _ _ _ h => h) (Or.inl ⟨by rfl, ?_⟩) ?_ ?_
        rotate_left
        · intro w'
          go_simp
          with_reducible rfl
        rotate_left
        · simp only [Act.put, List.setIfInBounds_toArray, List.set_cons_zero, List.set_cons_succ, i64_w, i32_w]
          rfl
        refine pure_ (i := 6) (N := some 34) (v := ?_) (a' := ?_) #[true, true, true, true, true, true, true, false, true, false, false] rfl rfl (by kernel_rfl) (fun _ _ _ h => h) (Or.inl ⟨by rfl, ?_⟩) ?_ ?_
        rotate_left
        · intro w'
          go_simp
          with_reducible rfl
        rotate_left
        · simp only [Act.put, List.setIfInBounds_toArray, List.set_cons_zero, List.set_cons_succ, i64_w, i32_w]
          rfl
        refine take_ (i := 7) (N := some 35) (v := ?_) (a' := ?_) #[true, true, true, true, true, true, true, true, true, false, false] rfl rfl (by kernel_rfl) (fun _ _ _ h => h) (Or.inl ⟨by rfl, ?_⟩) hHeld ?_ ?_
        rotate_left
        · rintro w' ⟨s0, s1, s2⟩
          go_simp
          with_reducible rfl
        rotate_left
        · simp only [Act.put, List.setIfInBounds_toArray, List.set_cons_zero, List.set_cons_succ, i64_w, i32_w]
          rfl
        refine take_ (i := 9) (N := some 37) (v := ?_) (a' := ?_) #[true, true, true, true, true, true, true, true, true, true, false] rfl rfl (by kernel_rfl) (fun _ _ _ h => h) (Or.inl ⟨by rfl, ?_⟩) hHeld ?_ ?_
        rotate_left
        · rintro w' ⟨s0, s1, s2⟩
          go_simp
          with_reducible rfl
        rotate_left
        · simp only [Act.put, List.setIfInBounds_toArray, List.set_cons_zero, List.set_cons_succ, i64_w, i32_w]
          rfl
        refine pure_ (i := 10) (N := some 38) (v := ?_) (a' := ?_) #[true, true, true, true, true, true, true, true, true, true, true] rfl rfl (by kernel_rfl) (fun _ _ _ h => h) (Or.inl ⟨by rfl, ?_⟩) ?_ ?_
        rotate_left
        · intro w'
          go_simp
          with_reducible rfl
        rotate_left
        · simp only [Act.put, List.setIfInBounds_toArray, List.set_cons_zero, List.set_cons_succ, i64_w, i32_w]
          rfl
        refine done_ (by kernel_rfl) ?_

        clear hHeld
        have bY9 := HeapM.blk_set_same (HeapM.blk_set_same HY2'.out 0 (.int .i64 s) (by simp)) 1 (.int .i64 t) (by simp)
        have fy0 : wr.frozen? ⟨X + 1, 0, none⟩ = false := HeapM.blk_free HY2'.out 0
        have fy1 : wr.frozen? ⟨X + 1, 1, none⟩ = false := HeapM.blk_free HY2'.out 1
        have bX9 := HeapM.blk_set_other (HeapM.blk_set_other HX.out ⟨X + 1, 0, none⟩ (.int .i64 s) (by simp)) ⟨X + 1, 1, none⟩ (.int .i64 t) (by simp)
        have bY9' := Aside0.mk bY9
        have bX9' := Aside0.mk bX9
        clear bY9 bX9
        go_wp2
        go_roundw
        case rel => exact ⟨i + 1, i, by go_num, by have := hlt'.out; omega, hB2, bX9', ⟨by rw [hs'.out, ht'.out]; exact bY9'.out⟩, ⟨by
          apply below_drew1
          refine below_set (below_set HK.out ?_) ?_
          all_goals (have := hX'.out; omega)⟩⟩
        case measure => simp only [intOf]; have := hlt'.out; omega
      · have hd : decide (p1 < t) = false := decide_eq_false hpt
        have hB2 := Aside0.mk (HB1.out.stay (by rw [ht'.out, hp1'.out]; exact hpt))
        clear hpt
        go_wp2_with fail
        refine start_ (n := 11) (S := fun w' => w'.cell? ⟨r, 0, none⟩ = some (.slice (some ⟨b0, 0, none⟩) xs.length cap) ∧ w'.cell? ⟨b0, i * 2 + 1, none⟩ = some (.int .i64 t) ∧ w'.cell? ⟨X + 1, 1, none⟩ = some (.int .i64 p1)) (ds := []) #[false, false, false, false, false, false, false, false, false, false, false] (by kernel_rfl) rfl rfl ⟨cr, d1, y1⟩ (fun hHeld => ?_)
        refine pure_ (i := 0) (N := some 28) (v := ?_) (a' := ?_) #[true, false, false, false, false, false, false, false, false, false, false] rfl rfl (by kernel_rfl) (fun _ _ _ h => h) (Or.inl ⟨by rfl, ?_⟩) ?_ ?_
        rotate_left
        · intro w'
          go_simp
          with_reducible rfl
        rotate_left
        · simp only [Act.put, List.setIfInBounds_toArray, List.set_cons_zero, List.set_cons_succ, i64_w, i32_w]
          rfl
        refine pure_ (i := 1) (N := some 29) (v := ?_) (a' := ?_) #[true, true, false, false, false, false, false, false, false, false, false] rfl rfl (by kernel_rfl) (fun _ _ _ h => h) (Or.inl ⟨by rfl, ?_⟩) ?_ ?_
        rotate_left
        · intro w'
          go_simp
          with_reducible rfl
        rotate_left
        · simp only [Act.put, List.setIfInBounds_toArray, List.set_cons_zero, List.set_cons_succ, i64_w, i32_w]
          rfl
        refine pure_ (i := 2) (N := some 30) (v := ?_) (a' := ?_) #[true, true, true, false, false, false, false, false, false, false, false] rfl rfl (by kernel_rfl) (fun _ _ _ h => h) (Or.inl ⟨by rfl, ?_⟩) ?_ ?_
        rotate_left
        · intro w'
          go_simp
          with_reducible rfl
        rotate_left
        · simp only [Act.put, List.setIfInBounds_toArray, List.set_cons_zero, List.set_cons_succ, i64_w, i32_w]
          rfl
        refine pure_ (i := 4) (N := some 32) (v := ?_) (a' := ?_) #[true, true, true, false, true, false, false, false, false, false, false] rfl rfl (by kernel_rfl) (fun _ _ _ h => h) (Or.inl ⟨by rfl, ?_⟩) ?_ ?_
        rotate_left
        · intro w'
          go_simp
          with_reducible rfl
        rotate_left
        · simp only [Act.put, List.setIfInBounds_toArray, List.set_cons_zero, List.set_cons_succ, i64_w, i32_w]
          rfl
        refine pure_ (i := 8) (N := some 36) (v := ?_) (a' := ?_) #[true, true, true, false, true, false, false, false, true, false, false] rfl rfl (by kernel_rfl) (fun _ _ _ h => h) (Or.inl ⟨by rfl, ?_⟩) ?_ ?_
        rotate_left
        · intro w'
          go_simp
          with_reducible rfl
        rotate_left
        · simp only [Act.put, List.setIfInBounds_toArray, List.set_cons_zero, List.set_cons_succ, i64_w, i32_w]
          rfl
        refine take_ (i := 3) (N := some 31) (v := ?_) (a' := ?_) #[true, true, true, true, true, false, false, false, true, false, false] rfl rfl (by kernel_rfl) (fun _ _ _ h => h) (Or.inl ⟨by rfl, ?_⟩) hHeld ?_ ?_
        rotate_left
        · rintro w' ⟨s0, s1, s2⟩
          go_simp
          with_reducible rfl
        rotate_left
        · simp only [Act.put, List.setIfInBounds_toArray, List.set_cons_zero, List.set_cons_succ, i64_w, i32_w]
          rfl
        refine pure_ (i := 5) (N := some 33) (v := ?_) (a' := ?_) #[true, true, true, true, true, true, false, false, true, false, false] rfl rfl (by kernel_rfl) (fun _ _ _ h => h) (Or.inl ⟨by rfl, ?_⟩) ?_ ?_
        rotate_left
        · intro w'
          go_simp
          with_reducible rfl
        rotate_left
        · simp only [Act.put, List.setIfInBounds_toArray, List.set_cons_zero, List.set_cons_succ, i64_w, i32_w]
          rfl
        refine pure_ (i := 6) (N := some 34) (v := ?_) (a' := ?_) #[true, true, true, true, true, true, true, false, true, false, false] rfl rfl (by kernel_rfl) (fun _ _ _ h => h) (Or.inl ⟨by rfl, ?_⟩) ?_ ?_
        rotate_left
        · intro w'
          go_simp
          with_reducible rfl
        rotate_left
        · simp only [Act.put, List.setIfInBounds_toArray, List.set_cons_zero, List.set_cons_succ, i64_w, i32_w]
          rfl
        refine take_ (i := 7) (N := some 35) (v := ?_) (a' := ?_) #[true, true, true, true, true, true, true, true, true, false, false] rfl rfl (by kernel_rfl) (fun _ _ _ h => h) (Or.inl ⟨by rfl, ?_⟩) hHeld ?_ ?_
        rotate_left
        · rintro w' ⟨s0, s1, s2⟩
          go_simp
          with_reducible rfl
        rotate_left
        · simp only [Act.put, List.setIfInBounds_toArray, List.set_cons_zero, List.set_cons_succ, i64_w, i32_w]
          rfl
        refine take_ (i := 9) (N := some 37) (v := ?_) (a' := ?_) #[true, true, true, true, true, true, true, true, true, true, false] rfl rfl (by kernel_rfl) (fun _ _ _ h => h) (Or.inl ⟨by rfl, ?_⟩) hHeld ?_ ?_
        rotate_left
        · rintro w' ⟨s0, s1, s2⟩
          go_simp
          with_reducible rfl
        rotate_left
        · simp only [Act.put, List.setIfInBounds_toArray, List.set_cons_zero, List.set_cons_succ, i64_w, i32_w]
          rfl
        refine pure_ (i := 10) (N := some 38) (v := ?_) (a' := ?_) #[true, true, true, true, true, true, true, true, true, true, true] rfl rfl (by kernel_rfl) (fun _ _ _ h => h) (Or.inl ⟨by rfl, ?_⟩) ?_ ?_
        rotate_left
        · intro w'
          go_simp
          with_reducible rfl
        rotate_left
        · simp only [Act.put, List.setIfInBounds_toArray, List.set_cons_zero, List.set_cons_succ, i64_w, i32_w]
          rfl
        refine done_ (by kernel_rfl) ?_

        clear hHeld
        go_wp2
        go_roundw
        case rel => exact ⟨i + 1, b, by go_num, by have := hlt'.out; omega, hB2, HX, ⟨by rw [hp0'.out, hp1'.out]; exact HY2'.out⟩, ⟨by apply below_drew1; exact HK.out⟩⟩
        case measure => simp only [intOf]; have := hlt'.out; omega
    · obtain rfl : i = xs.length := by omega
      have x0 : wr.cell? ⟨X, 0, none⟩ = some (.int .i64 0) := (HeapM.blk_cell HX.out 0).trans rfl
      have x1 : wr.cell? ⟨X, 1, none⟩ = some (.int .i64 0) := (HeapM.blk_cell HX.out 1).trans rfl
      have fx0 : wr.frozen? ⟨X, 0, none⟩ = false := HeapM.blk_free HX.out 0
      have fx1 : wr.frozen? ⟨X, 1, none⟩ = false := HeapM.blk_free HX.out 1
      go_wp2_with fail
      obtain ⟨W4, hW4⟩ : ∃ W4, W4 = (wr.setCell ⟨X, 0, none⟩ (.int .i64 p0)).setCell ⟨X, 1, none⟩ (.int .i64 p1) := ⟨_, rfl⟩
      have bW := HeapM.blk_set_same (HeapM.blk_set_same HX.out 0 (.int .i64 p0) (by simp)) 1 (.int .i64 p1) (by simp)
      have BW4 : Below w.heap.size w W4 := by
        rw [hW4]
        refine below_set (below_set HK.out ?_) ?_
        all_goals (have := hX'.out; omega)
      rw [← hW4] at bW ⊢
      have z0 : W4.cell? ⟨X, 0, none⟩ = some (.int .i64 p0) := (HeapM.blk_cell bW 0).trans rfl
      have z1 : W4.cell? ⟨X, 1, none⟩ = some (.int .i64 p1) := (HeapM.blk_cell bW 1).trans rfl
      refine bodyPost_ret (by simp [results, Try.results46, go_sem, z0, z1]; try rfl) rfl ?_
      exact ⟨b, HB1.out, by rw [hp0'.out, hp1'.out], BW4⟩

theorem rtop_any (w : World) (r : Nat) (xs : List Itm) (most : Int) (G : Nat → Prop) (h : IsRef κ w r xs most G) (hl : xs.length ≤ 1000000) (C : Int → Option Int) (hs : SortedOf C xs) :
    Calls Try.prog 46 #[.pointer (some ⟨r, 0, none⟩)] w fun e w' => ∃ k p b, e = .returned (.tuple #[.agg #[.int .i64 k, .int .i64 p], .bool b]) ∧ TopIs C xs.length k p b ∧ Below w.heap.size w w' := by
  rcases Nat.eq_zero_or_pos xs.length with hn | hn
  · refine (rtop_none w r xs most G h hn).mono ?_
    rintro e w' ⟨rfl, B⟩
    exact ⟨_, _, _, rfl, .inl ⟨hn, rfl, rfl, rfl⟩, B⟩
  · refine (rtop_some w r xs most G h hl hn).mono ?_
    rintro e w' ⟨b, hb, rfl, B⟩
    exact ⟨_, _, _, rfl, hs.top b hb.1 hb.2.1 hb.2.2, B⟩

theorem RPost.behind {w w1 w' : World} {r : Nat} {xs : List Itm} {most : Int} {G : Nat → Prop} (b : Below w.heap.size w w1) (h : RPost κ w1 w' r xs most G) : RPost κ w w' r xs most G := by
  obtain ⟨F', h1, h2, h3⟩ := h
  have := b.size
  exact ⟨F', h1, (Chg.of_below b _).trans h2 (fun _ e => .inl e), fun k e => (h3 k e).imp id fun x => ⟨by omega, x.2⟩⟩
theorem RPost.slot {w w2 w3 : World} {r B : Nat} {xs : List Itm} {most : Int} {G : Nat → Prop} (b : Below w.heap.size w w2) (h : RPost κ w2 w3 r xs most G) (hw : w.heap.size ≤ B) (hB : B < w2.heap.size) (hF : ¬ G B) (i j : Nat) (u v : Value) :
    RPost κ w ((w3.setCell ⟨B, i, none⟩ u).setCell ⟨B, j, none⟩ v) r xs most G := by
  obtain ⟨F', h1, h2, h3⟩ := h
  have hs := b.size
  have nF : ¬ F' B := fun e => by
    rcases h3 _ e with f | f
    · exact hF f
    · omega
  have c : Chg w3 ((w3.setCell ⟨B, i, none⟩ u).setCell ⟨B, j, none⟩ v) (fun k => k = B) := ((Chg.refl w3 (fun k => k = B)).setCell (.inl rfl) u).setCell (.inl rfl) v
  refine ⟨F', h1.keep c (fun k e f => by subst e; exact nF f), ((Chg.of_below b _).trans h2 (fun _ e => .inl e)).trans c (fun k e => by subst e; exact .inr hw), fun k e => ?_⟩
  rcases h3 k e with f | f
  · exact .inl f
  · exact .inr ⟨by omega, by have := c.size; omega⟩

set_option maxHeartbeats 2000000 in
theorem rpop_calls (w : World) (r : Nat) (xs : List Itm) (most : Int) (G : Nat → Prop) (h : IsRef κ w r xs most G) (hl : xs.length ≤ 1000000) (C : Int → Option Int) (hs : SortedOf C xs) :
    Calls Try.prog 33 #[.pointer (some ⟨r, 0, none⟩)] w fun e w' => ∃ k p b xs', e = .returned (.tuple #[.agg #[.int .i64 k, .int .i64 p], .bool b]) ∧ TopIs C xs.length k p b ∧ SortedOf (if b then upd C k none else C) xs' ∧ RPost κ w w' r xs' most G := by
  have HB0 : Below w.heap.size w (w.alloc (.cells #[.int .i64 0, .int .i64 0] 63)) := by apply below_alloc; exact Below.refl _ _
  have hH := h.below HB0
  have HT := Lib.hid (rtop_any _ r xs most G hH hl C hs)
  have HH := Aside0.mk hH
  have HBa := Aside0.mk HB0
  have hs' := Aside0.mk hs
  obtain ⟨X, hX⟩ : ∃ X, X = w.heap.size := ⟨_, rfl⟩
  have bX := HeapM.blk_new w (.cells #[.int .i64 0, .int .i64 0] 63 (0, 0))
  rw [← hX] at bX
  have hX' := Aside0.mk hX
  have bX' := Aside0.mk bX
  have hGl := Aside0.mk h.lt
  have nGX : Aside0 (¬ G X) := ⟨fun e => by have := h.lt X e; omega⟩
  clear h hH HB0 hX bX hs
  go_enter Try.func33, Try.ntmps33
  go_wp2_with fail
  refine HT.out.mono ?_
  rintro e w1 ⟨k, p, b, rfl, TI, B1⟩
  have hB1 := HBa.out.trans (B1.mono HBa.out.size)
  obtain ⟨V, hV⟩ : ∃ Q, Q = w1.alloc (.cells #[.int .i64 k, .int .i64 p] 63) := ⟨_, rfl⟩
  obtain ⟨Y, hY⟩ : ∃ Q, Q = w1.heap.size := ⟨_, rfl⟩
  have BV : Below w.heap.size w V := by rw [hV]; apply below_alloc; exact hB1
  have bX1 := (B1.block X (HeapM.blk_lt bX'.out)).trans bX'.out
  have bXV : V.heap[X]? = some (.cells #[.int .i64 0, .int .i64 0] 63 (0, 0)) := by rw [hV]; exact HeapM.blk_alloc bX1 _
  have bYV : V.heap[Y]? = some (.cells #[.int .i64 k, .int .i64 p] 63 (0, 0)) := by rw [hV, hY]; exact HeapM.blk_new _ _
  have y0 : (w1.alloc (.cells #[.int .i64 k, .int .i64 p] 63)).cell? ⟨w1.heap.size, 0, none⟩ = some (.int .i64 k) := by rw [← hV, ← hY]; exact (HeapM.blk_cell bYV 0).trans rfl
  have y1 : (w1.alloc (.cells #[.int .i64 k, .int .i64 p] 63)).cell? ⟨w1.heap.size, 1, none⟩ = some (.int .i64 p) := by rw [← hV, ← hY]; exact (HeapM.blk_cell bYV 1).trans rfl
  have x0 : (w1.alloc (.cells #[.int .i64 k, .int .i64 p] 63)).cell? ⟨w.heap.size, 0, none⟩ = some (.int .i64 0) := by rw [← hV, ← hX'.out]; exact (HeapM.blk_cell bXV 0).trans rfl
  have x1 : (w1.alloc (.cells #[.int .i64 k, .int .i64 p] 63)).cell? ⟨w.heap.size, 1, none⟩ = some (.int .i64 0) := by rw [← hV, ← hX'.out]; exact (HeapM.blk_cell bXV 1).trans rfl
  have f0 : (w1.alloc (.cells #[.int .i64 k, .int .i64 p] 63)).frozen? ⟨w.heap.size, 0, none⟩ = false := by rw [← hV, ← hX'.out]; exact HeapM.blk_free bXV 0
  have f1 : (w1.alloc (.cells #[.int .i64 k, .int .i64 p] 63)).frozen? ⟨w.heap.size, 1, none⟩ = false := by rw [← hV, ← hX'.out]; exact HeapM.blk_free bXV 1
  have HV : IsRef κ V r xs most G := (HH.out.below B1).below (by rw [hV]; apply below_alloc; exact Below.refl _ _)
  have HBY : Aside0 (w.heap.size ≤ w1.heap.size) := ⟨hB1.size⟩
  have hV' := Aside0.mk hV
  have hY' := Aside0.mk hY
  have bXV' := Aside0.mk bXV
  have bYV' := Aside0.mk bYV
  have BV' := Aside0.mk BV
  have HV' := Aside0.mk HV
  have TI' := Aside0.mk TI
  have HR := Lib.hid (rremove_calls V r xs most G HV hl C hs'.out k)
  clear B1 hB1 hV hY BV bX1 bXV bYV HV TI HT
  cases b with
  | true =>
    go_wp2_with fail
    rw [← hV'.out, ← hY'.out, ← hX'.out]
    refine HR.out.mono ?_
    rintro e w2 ⟨xs', rfl, S2, P2⟩
    clear x0 x1 y0 y1 f0 f1 HR
    have P2' := Aside0.mk P2
    obtain ⟨G2, -, c2, -⟩ := P2
    have nGY : ¬ G Y := fun e => by have h1 := hGl.out Y e; have h2 := hY'.out; have h3 := HBY.out; omega
    have bX2 := c2.blk bXV'.out nGX.out
    have bY2 := c2.blk bYV'.out nGY
    have x0 : w2.cell? ⟨X, 0, none⟩ = some (.int .i64 0) := (HeapM.blk_cell bX2 0).trans rfl
    have x1 : w2.cell? ⟨X, 1, none⟩ = some (.int .i64 0) := (HeapM.blk_cell bX2 1).trans rfl
    have y0 : w2.cell? ⟨Y, 0, none⟩ = some (.int .i64 k) := (HeapM.blk_cell bY2 0).trans rfl
    have y1 : w2.cell? ⟨Y, 1, none⟩ = some (.int .i64 p) := (HeapM.blk_cell bY2 1).trans rfl
    have f0 := HeapM.blk_free bX2 0
    have f1 := HeapM.blk_free bX2 1
    have bX2' := Aside0.mk bX2
    have S2' := Aside0.mk S2
    clear c2 nGY bX2 bY2 S2
    go_wp2_with fail
    have bW := HeapM.blk_set_same (HeapM.blk_set_same bX2'.out 0 (.int .i64 k) (by simp)) 1 (.int .i64 p) (by simp)
    have PF := Aside0.mk (RPost.slot BV'.out P2'.out (by have := hX'.out; omega : w.heap.size ≤ X) (HeapM.blk_lt bXV'.out) nGX.out 0 1 (.int .i64 k) (.int .i64 p))
    obtain ⟨W4, hW4⟩ : ∃ W4, W4 = (w2.setCell ⟨X, 0, none⟩ (.int .i64 k)).setCell ⟨X, 1, none⟩ (.int .i64 p) := ⟨_, rfl⟩
    rw [← hW4] at bW PF ⊢
    have z0 : W4.cell? ⟨X, 0, none⟩ = some (.int .i64 k) := (HeapM.blk_cell bW 0).trans rfl
    have z1 : W4.cell? ⟨X, 1, none⟩ = some (.int .i64 p) := (HeapM.blk_cell bW 1).trans rfl
    refine bodyPost_ret (by simp [results, Try.results33, go_sem, z0, z1]; try rfl) rfl ?_
    exact ⟨k, p, true, xs', rfl, TI'.out, S2'.out, PF.out⟩
  | false =>
    go_wp2_with fail
    rw [← hV'.out, ← hX'.out]
    have bW := HeapM.blk_set_same (HeapM.blk_set_same bXV'.out 0 (.int .i64 k) (by simp)) 1 (.int .i64 p) (by simp)
    have PF := Aside0.mk (RPost.slot (w2 := V) (w3 := V) BV'.out ⟨G, HV'.out, Chg.refl _ _, fun k e => .inl e⟩ (by have := hX'.out; omega : w.heap.size ≤ X) (HeapM.blk_lt bXV'.out) nGX.out 0 1 (.int .i64 k) (.int .i64 p))
    obtain ⟨W4, hW4⟩ : ∃ W4, W4 = (V.setCell ⟨X, 0, none⟩ (.int .i64 k)).setCell ⟨X, 1, none⟩ (.int .i64 p) := ⟨_, rfl⟩
    rw [← hW4] at bW PF ⊢
    have z0 : W4.cell? ⟨X, 0, none⟩ = some (.int .i64 k) := (HeapM.blk_cell bW 0).trans rfl
    have z1 : W4.cell? ⟨X, 1, none⟩ = some (.int .i64 p) := (HeapM.blk_cell bW 1).trans rfl
    refine bodyPost_ret (by simp [results, Try.results33, go_sem, z0, z1]; try rfl) rfl ?_
    exact ⟨k, p, false, xs, rfl, TI'.out, hs'.out, PF.out⟩
end Go.Proofs.Ytclekakhgaggdaa.HeapC
