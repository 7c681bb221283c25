/- What each of the heap's methods does, told of what is in it (the fifth part: Pop). -/
import Derived.Test.YtclekakhgaggdaaHeapI
namespace Go.Proofs.Ytclekakhgaggdaa.HeapC
open Go.RowKit Go.Proofs.Ytclekakhgaggdaa.HeapT Go.Proofs.Ytclekakhgaggdaa.HeapM Go.Proofs.YtclekakhgaggdaaW.PrintWords Go.Proofs.YtclekakhgaggdaaW.PrintLast Go.Proofs.YtclekakhgaggdaaW.PrintMore
set_option linter.unusedVariables false
set_option linter.unusedSimpArgs false

theorem HPost.behind {w w1 w' : World} {g : Nat} {C : Int → Option Int} {most : Int} {n N : Nat} {F : Nat → Prop} (b : Below w.heap.size w w1) (h : HPost w1 w' g C most n N F) : HPost w w' g C most n N F := by
  obtain ⟨F', h1, h2, h3⟩ := h
  have := b.size
  exact ⟨F', h1, (Chg.of_below b _).trans h2 (fun _ e => .inl e), fun k e => (h3 k e).imp id fun x => ⟨by omega, x.2⟩⟩

set_option maxHeartbeats 1000000 in
theorem pop_none (w : World) (g : Nat) (C : Int → Option Int) (most : Int) (N : Nat) (F : Nat → Prop) (h : IsHeap w g C most 0 N F) :
    Calls Try.prog 31 #[.pointer (some ⟨g, 0, none⟩)] w fun e w' => e = .returned (.tuple #[.agg #[.int .i64 0, .int .i64 0], .bool false]) ∧ Below w.heap.size w w' := by
  have HB0 : Below w.heap.size w (w.alloc (.cells #[.int .i64 0, .int .i64 0] 63)) := by apply below_alloc; exact Below.refl _ _
  have HT := Lib.hid (top_none _ g C most N F (h.below HB0))
  have bs : (w.alloc (.cells #[.int .i64 0, .int .i64 0] 63)).heap.size = w.heap.size + 1 := by simp
  have bn := HeapM.blk_new w (.cells #[.int .i64 0, .int .i64 0] 63 (0, 0))
  have HB1 := Aside0.mk HB0
  have bs1 := Aside0.mk bs
  have bn1 := Aside0.mk bn
  clear h HB0 bs bn
  go_enter Try.func31, Try.ntmps31
  go_wp2_with fail
  refine HT.out.mono ?_
  rintro e w1 ⟨rfl, HB⟩
  have hb1 : w1.heap[w.heap.size]? = some (.cells #[.int .i64 0, .int .i64 0] 63 (0, 0)) := (HB.block _ (by rw [bs1.out]; omega)).trans bn1.out
  have hc0 : w1.cell? ⟨w.heap.size, 0, none⟩ = some (.int .i64 0) := (HeapM.blk_cell hb1 0).trans rfl
  have hc1 : w1.cell? ⟨w.heap.size, 1, none⟩ = some (.int .i64 0) := (HeapM.blk_cell hb1 1).trans rfl
  have hf0 : w1.frozen? ⟨w.heap.size, 0, none⟩ = false := HeapM.blk_free hb1 0
  have hf1 : w1.frozen? ⟨w.heap.size, 1, none⟩ = false := HeapM.blk_free hb1 1
  have lB : w.heap.size < w1.heap.size := HeapM.blk_lt hb1
  have ag : ∀ (o : Obj) (off : Nat), (w1.alloc o).cell? ⟨w.heap.size, off, none⟩ = w1.cell? ⟨w.heap.size, off, none⟩ := fun o off => World.cell?_alloc_lt _ _ _ lB
  have fr : ∀ (o : Obj) (off : Nat), (w1.alloc o).frozen? ⟨w.heap.size, off, none⟩ = w1.frozen? ⟨w.heap.size, off, none⟩ := fun o off => World.frozen?_alloc_old _ _ _ (by simp; omega)
  have HB' : Aside0 (Below w.heap.size w w1) := ⟨HB1.out.trans (HB.mono (by rw [bs1.out]; omega))⟩
  have hb1' := Aside0.mk hb1
  clear HB hb1
  go_wp2_with fail
  go_region
  obtain ⟨W3, hW3⟩ : ∃ W3, W3 = (((w1.setCell ⟨w.heap.size, 0, none⟩ (.int .i64 0)).setCell ⟨w.heap.size, 1, none⟩ (.int .i64 0)).alloc (.cells #[.int .i64 0, .int .i64 0] 63)).drew := ⟨_, rfl⟩
  rw [← hW3]
  have hb3 : W3.heap[w.heap.size]? = some (.cells #[.int .i64 0, .int .i64 0] 63 (0, 0)) := by
    have := HeapM.blk_alloc (HeapM.blk_set_same (HeapM.blk_set_same hb1'.out 0 (.int .i64 0) (by simp)) 1 (.int .i64 0) (by simp)) (.cells #[.int .i64 0, .int .i64 0] 63)
    rw [hW3]; exact this
  have hd0 : W3.cell? ⟨w.heap.size, 0, none⟩ = some (.int .i64 0) := (HeapM.blk_cell hb3 0).trans rfl
  have hd1 : W3.cell? ⟨w.heap.size, 1, none⟩ = some (.int .i64 0) := (HeapM.blk_cell hb3 1).trans rfl
  have HB3 : Aside0 (Below w.heap.size w W3) := ⟨by rw [hW3]; repeat (with_reducible first | exact HB'.out | apply below_alloc | apply pw_below_drewN | apply below_drew1 | refine below_set ?_ (by simp))⟩
  clear hW3 hb3 ag fr hc0 hc1 hf0 hf1
  go_wp2
  try simp only [Exit.inBlock, Exit.then]
  refine bodyPost_ret (by simp [results, Try.results31, go_sem, hd0, hd1]; try rfl) rfl ?_
  exact ⟨rfl, HB3.out⟩

theorem HPost.slot {w w2 w3 : World} {g B : Nat} {C : Int → Option Int} {most : Int} {n N : Nat} {F : Nat → Prop} (b : Below w.heap.size w w2) (h : HPost w2 w3 g C most n N F) (hw : w.heap.size ≤ B) (hB : B < w2.heap.size) (hF : ¬ F B) (i j : Nat) (u v : Value) :
    HPost w ((w3.setCell ⟨B, i, none⟩ u).setCell ⟨B, j, none⟩ v) g C most n N F := by
  obtain ⟨F', h1, h2, h3⟩ := h
  have hs := b.size
  have nF : ¬ F' B := fun e => by
    rcases h3 _ e with f | f
    · exact hF f
    · omega
  refine ⟨F', h1.keep (((Chg.refl w3 (fun q => q = B)).setCell (.inl rfl) u).setCell (.inl rfl) v) (fun k e f => ?_), ?_, fun k e => (h3 k e).imp id (fun x => ⟨by omega, by simp [World.setCell]; exact x.2⟩)⟩
  · subst e; exact nF f
  · exact ((((Chg.of_below b _).trans h2 (fun _ e => .inl e)).setCell (.inr hw) u).setCell (.inr hw) v)

set_option maxHeartbeats 2000000 in
set_option maxRecDepth 20000 in
theorem pop_some (w : World) (g : Nat) (C : Int → Option Int) (most : Int) (n N : Nat) (F : Nat → Prop) (h : IsHeap w g C most n N F) (hN : N < 3000000000000000000) (hn : n ≤ 1000000) (hn0 : 0 < n) :
    ∃ k p, Most C k p ∧ (Lit.int .i64 k).wf = true ∧ Calls Try.prog 31 #[.pointer (some ⟨g, 0, none⟩)] w fun e w' => e = .returned (.tuple #[.agg #[.int .i64 k, .int .i64 p], .bool true]) ∧ HPost w w' g (upd C k none) most (n - 1) (N + 4000010) F := by
  have HB0 : Below w.heap.size w (w.alloc (.cells #[.int .i64 0, .int .i64 0] 63)) := by apply below_alloc; exact Below.refl _ _
  obtain ⟨k, p, hmost, hk, HT⟩ := top_some _ g C most n N F (h.below HB0) hn0
  refine ⟨k, p, hmost, hk, ?_⟩
  have hCk : C k ≠ none := by rw [hmost.1]; simp
  have HTh := Lib.hid HT
  have bs : (w.alloc (.cells #[.int .i64 0, .int .i64 0] 63)).heap.size = w.heap.size + 1 := by simp
  have bn := HeapM.blk_new w (.cells #[.int .i64 0, .int .i64 0] 63 (0, 0))
  have HB1 := Aside0.mk HB0
  have bs1 := Aside0.mk bs
  have bn1 := Aside0.mk bn
  have HR := Lib.hid (fun (w2 : World) (hb : Below w.heap.size w w2) => remove_some w2 g C most n N F (h.below hb) hN hn k hk hCk)
  have hlt := Aside0.mk h.lt
  clear h HB0 bs bn HT hmost hCk
  go_enter Try.func31, Try.ntmps31
  go_wp2_with fail
  refine HTh.out.mono ?_
  rintro e w1 ⟨rfl, HB⟩
  have hb1 : w1.heap[w.heap.size]? = some (.cells #[.int .i64 0, .int .i64 0] 63 (0, 0)) := (HB.block _ (by rw [bs1.out]; omega)).trans bn1.out
  have hc0 : w1.cell? ⟨w.heap.size, 0, none⟩ = some (.int .i64 0) := (HeapM.blk_cell hb1 0).trans rfl
  have hc1 : w1.cell? ⟨w.heap.size, 1, none⟩ = some (.int .i64 0) := (HeapM.blk_cell hb1 1).trans rfl
  have lB : w.heap.size < w1.heap.size := HeapM.blk_lt hb1
  have HB' : Aside0 (Below w.heap.size w w1) := ⟨HB1.out.trans (HB.mono (by rw [bs1.out]; omega))⟩
  have hb1' := Aside0.mk hb1
  clear HB hb1
  go_wp2_with fail
  obtain ⟨B, hB⟩ : ∃ B, B = w.heap.size := ⟨_, rfl⟩
  obtain ⟨X, hX⟩ : ∃ X, X = w1.heap.size := ⟨_, rfl⟩
  obtain ⟨W2, hW2⟩ : ∃ W2, W2 = w1.alloc (.cells #[.int .i64 k, .int .i64 p] 63) := ⟨_, rfl⟩
  have hX2 : W2.heap[X]? = some (.cells #[.int .i64 k, .int .i64 p] 63 (0, 0)) := by rw [hW2, hX]; exact HeapM.blk_new _ _
  have hB2 : W2.heap[B]? = some (.cells #[.int .i64 0, .int .i64 0] 63 (0, 0)) := by rw [hW2, hB]; exact HeapM.blk_alloc hb1'.out _
  have HB2 : Aside0 (Below w.heap.size w W2.drew) := ⟨by apply below_drew1; rw [hW2]; apply below_alloc; exact HB'.out⟩
  have x0 : W2.drew.cell? ⟨X, 0, none⟩ = some (.int .i64 k) := (HeapM.blk_cell hX2 0).trans rfl
  have x1 : W2.drew.cell? ⟨X, 1, none⟩ = some (.int .i64 p) := (HeapM.blk_cell hX2 1).trans rfl
  have lX : X < W2.heap.size := HeapM.blk_lt hX2
  have lB2 : B < W2.heap.size := HeapM.blk_lt hB2
  rw [← hW2, ← hX, ← hB]
  have nFX : ¬ F X := fun e => by have := hlt.out X e; omega
  have nFB : ¬ F B := fun e => by have := hlt.out B e; omega
  have hB2' := Aside0.mk hB2
  have hX2' := Aside0.mk hX2
  have hBX : B ≠ X := by omega
  have hBw := Aside0.mk hB
  clear hc0 hc1 hX2 hB2 hW2 hX hB lB
  refine start_ (n := 10) (S := fun w' => w'.cell? ⟨X, 0, none⟩ = some (.int .i64 k) ∧ w'.cell? ⟨X, 1, none⟩ = some (.int .i64 p)) (ds := [8]) #[false, false, false, false, false, false, false, false, false, false] (by kernel_rfl) rfl rfl ⟨x0, x1⟩ (fun hHeld => ?_)
  refine pure_ (i := 1) (N := some 12) (v := ?_) (a' := ?_) #[false, true, false, false, false, false, false, false, false, false] rfl rfl (by kernel_rfl) (fun _ _ _ h => h) (Or.inl ⟨by rfl, ?_⟩) ?_ ?_
  rotate_left
  · intro w'
    go_simp
    with_reducible rfl
  rotate_left
  · simp only [Act.put, List.setIfInBounds_toArray, List.set_cons_zero, List.set_cons_succ, i64_w, i32_w]
    rfl
  refine pure_ (i := 2) (N := some 13) (v := ?_) (a' := ?_) #[false, true, true, false, false, false, false, false, false, false] rfl rfl (by kernel_rfl) (fun _ _ _ h => h) (Or.inl ⟨by rfl, ?_⟩) ?_ ?_
  rotate_left
  · intro w'
    go_simp
    with_reducible rfl
  rotate_left
  · simp only [Act.put, List.setIfInBounds_toArray, List.set_cons_zero, List.set_cons_succ, i64_w, i32_w]
    rfl
  refine pure_ (i := 3) (N := some 14) (v := ?_) (a' := ?_) #[false, true, true, true, false, false, false, false, false, false] rfl rfl (by kernel_rfl) (fun _ _ _ h => h) (Or.inl ⟨by rfl, ?_⟩) ?_ ?_
  rotate_left
  · intro w'
    go_simp
    with_reducible rfl
  rotate_left
  · simp only [Act.put, List.setIfInBounds_toArray, List.set_cons_zero, List.set_cons_succ, i64_w, i32_w]
    rfl
  refine pure_ (i := 4) (N := some 15) (v := ?_) (a' := ?_) #[false, true, true, true, true, false, false, false, false, false] rfl rfl (by kernel_rfl) (fun _ _ _ h => h) (Or.inl ⟨by rfl, ?_⟩) ?_ ?_
  rotate_left
  · intro w'
    go_simp
    with_reducible rfl
  rotate_left
  · simp only [Act.put, List.setIfInBounds_toArray, List.set_cons_zero, List.set_cons_succ, i64_w, i32_w]
    rfl
  refine take_ (i := 0) (N := some 11) (v := ?_) (a' := ?_) #[true, true, true, true, true, false, false, false, false, false] rfl rfl (by kernel_rfl) (fun _ _ _ h => h) (Or.inl ⟨by rfl, ?_⟩) hHeld ?_ ?_
  rotate_left
  · rintro w' ⟨s0, s1⟩
    go_simp
    with_reducible rfl
  rotate_left
  · simp only [Act.put, List.setIfInBounds_toArray, List.set_cons_zero, List.set_cons_succ, i64_w, i32_w]
    rfl
  refine take_ (i := 5) (N := some 16) (v := ?_) (a' := ?_) #[true, true, true, true, true, true, false, false, false, false] rfl rfl (by kernel_rfl) (fun _ _ _ h => h) (Or.inl ⟨by rfl, ?_⟩) hHeld ?_ ?_
  rotate_left
  · rintro w' ⟨s0, s1⟩
    go_simp
    with_reducible rfl
  rotate_left
  · simp only [Act.put, List.setIfInBounds_toArray, List.set_cons_zero, List.set_cons_succ, i64_w, i32_w]
    rfl
  refine one_ (i := 6) (N := some 17) #[true, true, true, true, true, true, true, false, false, false] rfl rfl (by kernel_rfl) (by decide) (fun K hK => ?_)
  refine goes_ Try.func34 (by kernel_rfl) rfl #[.pointer (some ⟨g, 0, none⟩), .int .i64 k] (by rfl) rfl rfl (by simp only [List.map_toArray, List.map_cons, List.map_nil]; rfl) ?_
  with_reducible refine (HR.out _ HB2.out).mono ?_
  rintro e w3 ⟨rfl, hn3, hp3⟩
  refine ⟨_, rfl, ?_⟩
  obtain ⟨F3, hF3, hC3, hS3⟩ := id hp3
  refine hK.out _ _ ⟨(hC3.cell (b := X) lX nFX 0).trans hHeld.1, (hC3.cell (b := X) lX nFX 1).trans hHeld.2⟩ (fun hHeld => ?_)
  clear hK K
  refine norm_ (a' := ?_) ?_ ?_
  rotate_left
  · show Act.put _ (some 17) _ = _
    simp only [Act.put, List.setIfInBounds_toArray, List.set_cons_zero, List.set_cons_succ, i64_w, i32_w]
    rfl
  refine pure_ (i := 7) (N := some 18) (v := ?_) (a' := ?_) #[true, true, true, true, true, true, true, true, false, false] rfl rfl (by kernel_rfl) (fun _ _ _ h => h) (Or.inl ⟨by rfl, ?_⟩) ?_ ?_
  rotate_left
  · intro w'
    go_simp
    with_reducible rfl
  rotate_left
  · simp only [Act.put, List.setIfInBounds_toArray, List.set_cons_zero, List.set_cons_succ, i64_w, i32_w]
    rfl
  refine last_ (i := 8) (N := none) #[true, true, true, true, true, true, true, true, true, false] rfl rfl (by kernel_rfl) (by decide) (fun K hK => ?_)
  have q0 : w3.cell? ⟨B, 0, none⟩ = some (.int .i64 0) := (HeapM.blk_cell (hC3.blk (b := B) hB2'.out nFB) 0).trans rfl
  have q1 : w3.cell? ⟨B, 1, none⟩ = some (.int .i64 0) := (HeapM.blk_cell (hC3.blk (b := B) hB2'.out nFB) 1).trans rfl
  have z0 : w3.frozen? ⟨B, 0, none⟩ = false := HeapM.blk_free (hC3.blk (b := B) hB2'.out nFB) 0
  have z1 : w3.frozen? ⟨B, 1, none⟩ = false := HeapM.blk_free (hC3.blk (b := B) hB2'.out nFB) 1
  refine skip_ (w1 := ?_) (by rfl) rfl ?_ ?_
  rotate_left
  · go_simp
    rfl
  refine hK.out _ _ ?_
  clear hK K
  refine pure_ (i := 9) (N := some 3) (v := ?_) (a' := ?_) #[true, true, true, true, true, true, true, true, true, true] rfl rfl (by kernel_rfl) (fun _ _ _ h => h) (Or.inl ⟨by rfl, ?_⟩) ?_ ?_
  rotate_left
  · intro w'
    go_simp
    with_reducible rfl
  rotate_left
  · simp only [Act.put, List.setIfInBounds_toArray, List.set_cons_zero, List.set_cons_succ, i64_w, i32_w]
    rfl
  refine done_ (by kernel_rfl) ?_

  have hb9 := HeapM.blk_set_same (HeapM.blk_set_same (hC3.blk (b := B) hB2'.out nFB) 0 (.int .i64 k) (by simp)) 1 (.int .i64 p) (by simp)
  have P := Aside0.mk (HPost.slot HB2.out hp3 (B := B) (by have := hBw.out; omega) lB2 nFB 0 1 (.int .i64 k) (.int .i64 p))
  obtain ⟨W4, hW4⟩ : ∃ W4, W4 = (w3.setCell ⟨B, 0, none⟩ (.int .i64 k)).setCell ⟨B, 1, none⟩ (.int .i64 p) := ⟨_, rfl⟩
  rw [← hW4] at hb9 P
  have hd0 : W4.cell? ⟨B, 0, none⟩ = some (.int .i64 k) := (HeapM.blk_cell hb9 0).trans rfl
  have hd1 : W4.cell? ⟨B, 1, none⟩ = some (.int .i64 p) := (HeapM.blk_cell hb9 1).trans rfl
  rw [← hW4]
  clear hW4 hb9 hp3 hF3 hC3 hS3 q0 q1 z0 z1 x0 x1
  simp only [Exit.then]
  go_wp2
  try simp only [Exit.inBlock, Exit.then]
  refine bodyPost_ret (by simp [results, Try.results31, go_sem, hd0, hd1]; try rfl) rfl ?_
  exact ⟨rfl, P.out⟩
end Go.Proofs.Ytclekakhgaggdaa.HeapC
