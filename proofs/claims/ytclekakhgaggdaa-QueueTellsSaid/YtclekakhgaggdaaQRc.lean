/- The document's heap: Push. -/
import Derived.Test.YtclekakhgaggdaaQRb
namespace Go.Proofs.Ytclekakhgaggdaa.HeapC
open Go.RowKit Go.Proofs.Ytclekakhgaggdaa.HeapT Go.Proofs.Ytclekakhgaggdaa.HeapM Go.Proofs.YtclekakhgaggdaaW.PrintWords Go.Proofs.YtclekakhgaggdaaW.PrintLast Go.Proofs.YtclekakhgaggdaaW.PrintMore
set_option linter.unusedVariables false
set_option maxRecDepth 20000
set_option linter.unusedSimpArgs false
variable {κ : TypeId × List Value}


/-- What has been put behind one another when i items were gone through. -/
def insL (xs : List Itm) (c : Nat) (k p : Int) (i : Nat) : List Itm := if i ≤ c then xs.take i else xs.take c ++ (k, p) :: (xs.drop c).take (i - c)
theorem insL_lt (xs : List Itm) (c : Nat) (k p : Int) (i : Nat) (h : i < c) (hl : i < xs.length) : insL xs c k p (i + 1) = insL xs c k p i ++ [it xs i] := by
  unfold insL; rw [if_pos (by omega), if_pos (by omega)]; exact rtake_one xs i hl
theorem drop_take_one (xs : List Itm) (c i : Nat) (h : c ≤ i) (hl : i < xs.length) : (xs.drop c).take (i + 1 - c) = (xs.drop c).take (i - c) ++ [it xs i] := by
  rw [show i + 1 - c = (i - c) + 1 by omega, rtake_one (xs.drop c) (i - c) (by rw [List.length_drop]; omega), it_drop, show c + (i - c) = i by omega]
theorem insL_gt (xs : List Itm) (c : Nat) (k p : Int) (i : Nat) (h : c < i) (hl : i < xs.length) : insL xs c k p (i + 1) = insL xs c k p i ++ [it xs i] := by
  unfold insL; rw [if_neg (by omega), if_neg (by omega), drop_take_one xs c i (by omega) hl]; simp
theorem insL_eq (xs : List Itm) (c : Nat) (k p : Int) (hl : c < xs.length) : insL xs c k p (c + 1) = (insL xs c k p c ++ [(k, p)]) ++ [it xs c] := by
  unfold insL; rw [if_neg (by omega), if_pos (by omega), drop_take_one xs c c (by omega) hl]; simp
theorem insL_end (xs : List Itm) (c : Nat) (k p : Int) (h : c < xs.length) : insL xs c k p xs.length = xs.take c ++ (k, p) :: xs.drop c := by
  unfold insL; rw [if_neg (by omega), List.take_of_length_le (l := xs.drop c) (by rw [List.length_drop]; omega)]
theorem insL_last (xs : List Itm) (k p : Int) : insL xs xs.length k p xs.length ++ [(k, p)] = xs.take xs.length ++ (k, p) :: xs.drop xs.length := by
  unfold insL; rw [if_pos (by omega), List.drop_length]
theorem insL_length (xs : List Itm) (c : Nat) (k p : Int) (i : Nat) : (insL xs c k p i).length ≤ i + 1 := by
  unfold insL; split
  · rw [List.length_take]; omega
  · simp only [List.length_append, List.length_cons, List.length_take, List.length_drop]; omega

set_option maxHeartbeats 1000000 in
theorem rpush_there (w : World) (r : Nat) (xs : List Itm) (most : Int) (G : Nat → Prop) (h : IsRef κ w r xs most G) (hl : xs.length ≤ 1000000) (C : Int → Option Int) (hs : SortedOf C xs) (k p : Int) (hc : C k ≠ none) :
    Calls Try.prog 29 #[.pointer (some ⟨r, 0, none⟩), .int .i64 k, .int .i64 p] w fun e w' => e = .returned (.int .i64 1) ∧ w = w' := by
  obtain ⟨i0, h0, hf, he, hS, hN⟩ := hs.find k
  have hi : i0 < xs.length := by
    by_cases e : i0 = xs.length
    · exact absurd (hN e) hc
    · omega
  obtain ⟨v, hm, -, -⟩ := h
  have HA := Lib.hid (at_calls w r v xs most hm hl k i0 h0 hf he)
  have hpo := Aside0.mk (posOf_lt hi)
  clear h0 hf he hS hN hi hm hs hc
  go_enter Try.func29, Try.ntmps29
  go_wp2_with fail
  refine HA.out.mono ?_
  rintro e w1 ⟨rfl, rfl⟩
  rw [hpo.out]
  go_wp2_with fail
  go_returns
  exact ⟨rfl, rfl⟩

set_option maxHeartbeats 1000000 in
theorem rpush_full (w : World) (r : Nat) (xs : List Itm) (most : Int) (G : Nat → Prop) (h : IsRef κ w r xs most G) (hl : xs.length ≤ 1000000) (C : Int → Option Int) (hs : SortedOf C xs) (k p : Int) (hc : C k = none) (hn : most ≤ xs.length) :
    Calls Try.prog 29 #[.pointer (some ⟨r, 0, none⟩), .int .i64 k, .int .i64 p] w fun e w' => e = .returned (.int .i64 50) ∧ Below w.heap.size w w' := by
  obtain ⟨i0, h0, hf, he, hS, hN⟩ := hs.find k
  have hi : ¬ i0 < xs.length := fun e => by have := hS e; rw [hc] at this; cases this
  obtain ⟨v, hm, hg, hgl⟩ := h
  have HA := Lib.hid (at_calls w r v xs most hm hl k i0 h0 hf he)
  have hpo := Aside0.mk (posOf_ge hi)
  obtain ⟨a, cap, rfl⟩ := hm.val
  have c0 : w.cell? ⟨r, 0, none⟩ = some (.slice a xs.length cap) := (HeapM.blk_cell hm.head 0).trans rfl
  have c1 : w.cell? ⟨r, 1, none⟩ = some (.int .i64 most) := (HeapM.blk_cell hm.head 1).trans rfl
  have hlr : r < w.heap.size := HeapM.blk_lt hm.head
  have HB := Aside0.mk (Below.refl w.heap.size w)
  have hm' := Aside0.mk hm
  have hg' := Aside0.mk hg
  have hgl' := Aside0.mk hgl
  have hs' := Aside0.mk hs
  have hc' := Aside0.mk hc
  clear h0 hf he hS hN hi hm hs hc hg hgl
  have d1 : decide (most ≤ (xs.length : Int)) = true := decide_eq_true hn
  clear hn
  go_enter Try.func29, Try.ntmps29
  go_wp2_with fail
  refine HA.out.mono ?_
  rintro e w1 ⟨rfl, rfl⟩
  rw [hpo.out]
  go_wp2_with fail
  refine start_ (n := 10) (S := fun w' => w'.cell? ⟨r, 0, none⟩ = some (.slice a xs.length cap) ∧ w'.cell? ⟨r, 1, none⟩ = some (.int .i64 most)) (ds := []) #[false, false, false, false, false, false, false, false, false, false] (by kernel_rfl) rfl rfl ⟨c0, c1⟩ (fun hHeld => ?_)
  refine pure_ (i := 0) (N := some 14) (v := ?_) (a' := ?_) #[true, false, false, false, false, false, false, false, false, false] rfl rfl (by kernel_rfl) (fun _ _ _ h => h) (Or.inl ⟨by rfl, ?_⟩) ?_ ?_
  rotate_left
  · intro w'
    go_simp
    with_reducible rfl
  rotate_left
  · simp only [Act.put, List.setIfInBounds_toArray, List.set_cons_zero, List.set_cons_succ, i64_w, i32_w]
    rfl
  refine pure_ (i := 1) (N := some 15) (v := ?_) (a' := ?_) #[true, true, false, false, false, false, false, false, false, false] rfl rfl (by kernel_rfl) (fun _ _ _ h => h) (Or.inl ⟨by rfl, ?_⟩) ?_ ?_
  rotate_left
  · intro w'
    go_simp
    with_reducible rfl
  rotate_left
  · simp only [Act.put, List.setIfInBounds_toArray, List.set_cons_zero, List.set_cons_succ, i64_w, i32_w]
    rfl
  refine pure_ (i := 2) (N := some 16) (v := ?_) (a' := ?_) #[true, true, true, false, false, false, false, false, false, false] rfl rfl (by kernel_rfl) (fun _ _ _ h => h) (Or.inl ⟨by rfl, ?_⟩) ?_ ?_
  rotate_left
  · intro w'
    go_simp
    with_reducible rfl
  rotate_left
  · simp only [Act.put, List.setIfInBounds_toArray, List.set_cons_zero, List.set_cons_succ, i64_w, i32_w]
    rfl
  refine pure_ (i := 5) (N := some 19) (v := ?_) (a' := ?_) #[true, true, true, false, false, true, false, false, false, false] rfl rfl (by kernel_rfl) (fun _ _ _ h => h) (Or.inl ⟨by rfl, ?_⟩) ?_ ?_
  rotate_left
  · intro w'
    go_simp
    with_reducible rfl
  rotate_left
  · simp only [Act.put, List.setIfInBounds_toArray, List.set_cons_zero, List.set_cons_succ, i64_w, i32_w]
    rfl
  refine pure_ (i := 6) (N := some 20) (v := ?_) (a' := ?_) #[true, true, true, false, false, true, true, false, false, false] rfl rfl (by kernel_rfl) (fun _ _ _ h => h) (Or.inl ⟨by rfl, ?_⟩) ?_ ?_
  rotate_left
  · intro w'
    go_simp
    with_reducible rfl
  rotate_left
  · simp only [Act.put, List.setIfInBounds_toArray, List.set_cons_zero, List.set_cons_succ, i64_w, i32_w]
    rfl
  refine pure_ (i := 7) (N := some 21) (v := ?_) (a' := ?_) #[true, true, true, false, false, true, true, true, false, false] rfl rfl (by kernel_rfl) (fun _ _ _ h => h) (Or.inl ⟨by rfl, ?_⟩) ?_ ?_
  rotate_left
  · intro w'
    go_simp
    with_reducible rfl
  rotate_left
  · simp only [Act.put, List.setIfInBounds_toArray, List.set_cons_zero, List.set_cons_succ, i64_w, i32_w]
    rfl
  refine take_ (i := 3) (N := some 17) (v := ?_) (a' := ?_) #[true, true, true, true, false, true, true, true, false, false] rfl rfl (by kernel_rfl) (fun _ _ _ h => h) (Or.inl ⟨by rfl, ?_⟩) hHeld ?_ ?_
  rotate_left
  · rintro w' ⟨s0, s1⟩
    go_simp
    with_reducible rfl
  rotate_left
  · simp only [Act.put, List.setIfInBounds_toArray, List.set_cons_zero, List.set_cons_succ, i64_w, i32_w]
    rfl
  refine pure_ (i := 4) (N := some 18) (v := ?_) (a' := ?_) #[true, true, true, true, true, true, true, true, false, false] rfl rfl (by kernel_rfl) (fun _ _ _ h => h) (Or.inl ⟨by rfl, ?_⟩) ?_ ?_
  rotate_left
  · intro w'
    go_simp
    with_reducible rfl
  rotate_left
  · simp only [Act.put, List.setIfInBounds_toArray, List.set_cons_zero, List.set_cons_succ, i64_w, i32_w]
    rfl
  refine take_ (i := 8) (N := some 22) (v := ?_) (a' := ?_) #[true, true, true, true, true, true, true, true, true, false] rfl rfl (by kernel_rfl) (fun _ _ _ h => h) (Or.inl ⟨by rfl, ?_⟩) hHeld ?_ ?_
  rotate_left
  · rintro w' ⟨s0, s1⟩
    go_simp
    with_reducible rfl
  rotate_left
  · simp only [Act.put, List.setIfInBounds_toArray, List.set_cons_zero, List.set_cons_succ, i64_w, i32_w]
    rfl
  refine pure_ (i := 9) (N := some 23) (v := ?_) (a' := ?_) #[true, true, true, true, true, true, true, true, true, true] rfl rfl (by kernel_rfl) (fun _ _ _ h => h) (Or.inl ⟨by rfl, ?_⟩) ?_ ?_
  rotate_left
  · intro w'
    go_simp
    with_reducible rfl
  rotate_left
  · simp only [Act.put, List.setIfInBounds_toArray, List.set_cons_zero, List.set_cons_succ, i64_w, i32_w]
    rfl
  refine done_ (by kernel_rfl) ?_

  go_wp2
  go_returns
  exact ⟨rfl, by apply below_drew1; exact HB.out⟩

set_option maxHeartbeats 4000000 in
theorem rpush_ok (w : World) (r : Nat) (xs : List Itm) (most : Int) (G : Nat → Prop) (h : IsRef κ w r xs most G) (hl : xs.length ≤ 1000000) (C : Int → Option Int) (hs : SortedOf C xs) (k p : Int) (hk : (Lit.int .i64 k).wf = true) (hc : C k = none) (hn : (xs.length : Int) < most) :
    Calls Try.prog 29 #[.pointer (some ⟨r, 0, none⟩), .int .i64 k, .int .i64 p] w fun e w' => ∃ xs', e = .returned (.int .i64 0) ∧ SortedOf (upd C k (some p)) xs' ∧ RPost κ w w' r xs' most G := by
  obtain ⟨c, hcl, hc1, hc2⟩ := hs.cut k hc
  have hins := Aside0.mk (hs.ins k p hc hk c hcl hc1 hc2)
  obtain ⟨i0, h0, hf, he, hS, hN⟩ := hs.find k
  have hi : ¬ i0 < xs.length := fun e => by have := hS e; rw [hc] at this; cases this
  obtain ⟨v, hm, hg, hgl⟩ := h
  have HA := Lib.hid (at_calls w r v xs most hm hl k i0 h0 hf he)
  have hpo := Aside0.mk (posOf_ge hi)
  obtain ⟨a, cap, rfl⟩ := hm.val
  have c0 : w.cell? ⟨r, 0, none⟩ = some (.slice a xs.length cap) := (HeapM.blk_cell hm.head 0).trans rfl
  have c1 : w.cell? ⟨r, 1, none⟩ = some (.int .i64 most) := (HeapM.blk_cell hm.head 1).trans rfl
  have hlr : r < w.heap.size := HeapM.blk_lt hm.head
  have HB := Aside0.mk (Below.refl w.heap.size w)
  have hm' := Aside0.mk hm
  have hg' := Aside0.mk hg
  have hgl' := Aside0.mk hgl
  have hs' := Aside0.mk hs
  have hc' := Aside0.mk hc
  clear h0 hf he hS hN hi hm hs hc hg hgl
  have d1 : decide (most ≤ (xs.length : Int)) = false := decide_eq_false (by omega)
  obtain ⟨inf, hi0, hi1, hi2, hi3⟩ := info_item
  have hinf := Aside0.mk (And.intro hi0 (And.intro hi1 (And.intro hi2 hi3)))
  have hc1' := Aside0.mk hc1
  have hc2' := Aside0.mk hc2
  clear hn hi0 hi1 hi2 hi3 hc1 hc2 hk
  go_enter Try.func29, Try.ntmps29
  go_wp2_with fail
  refine HA.out.mono ?_
  rintro e w1 ⟨rfl, rfl⟩
  rw [hpo.out]
  go_wp2_with fail
  refine start_ (n := 10) (S := fun w' => w'.cell? ⟨r, 0, none⟩ = some (.slice a xs.length cap) ∧ w'.cell? ⟨r, 1, none⟩ = some (.int .i64 most)) (ds := []) #[false, false, false, false, false, false, false, false, false, false] (by kernel_rfl) rfl rfl ⟨c0, c1⟩ (fun hHeld => ?_)
  refine pure_ (i := 0) (N := some 14) (v := ?_) (a' := ?_) #[true, false, false, false, false, false, false, false, false, false] rfl rfl (by kernel_rfl) (fun _ _ _ h => h) (Or.inl ⟨by rfl, ?_⟩) ?_ ?_
  rotate_left
  · intro w'
    go_simp
    with_reducible rfl
  rotate_left
  · simp only [Act.put, List.setIfInBounds_toArray, List.set_cons_zero, List.set_cons_succ, i64_w, i32_w]
    rfl
  refine pure_ (i := 1) (N := some 15) (v := ?_) (a' := ?_) #[true, true, false, false, false, false, false, false, false, false] rfl rfl (by kernel_rfl) (fun _ _ _ h => h) (Or.inl ⟨by rfl, ?_⟩) ?_ ?_
  rotate_left
  · intro w'
    go_simp
    with_reducible rfl
  rotate_left
  · simp only [Act.put, List.setIfInBounds_toArray, List.set_cons_zero, List.set_cons_succ, i64_w, i32_w]
    rfl
  refine pure_ (i := 2) (N := some 16) (v := ?_) (a' := ?_) #[true, true, true, false, false, false, false, false, false, false] rfl rfl (by kernel_rfl) (fun _ _ _ h => h) (Or.inl ⟨by rfl, ?_⟩) ?_ ?_
  rotate_left
  · intro w'
    go_simp
    with_reducible rfl
  rotate_left
  · simp only [Act.put, List.setIfInBounds_toArray, List.set_cons_zero, List.set_cons_succ, i64_w, i32_w]
    rfl
  refine pure_ (i := 5) (N := some 19) (v := ?_) (a' := ?_) #[true, true, true, false, false, true, false, false, false, false] rfl rfl (by kernel_rfl) (fun _ _ _ h => h) (Or.inl ⟨by rfl, ?_⟩) ?_ ?_
  rotate_left
  · intro w'
    go_simp
    with_reducible rfl
  rotate_left
  · simp only [Act.put, List.setIfInBounds_toArray, List.set_cons_zero, List.set_cons_succ, i64_w, i32_w]
    rfl
  refine pure_ (i := 6) (N := some 20) (v := ?_) (a' := ?_) #[true, true, true, false, false, true, true, false, false, false] rfl rfl (by kernel_rfl) (fun _ _ _ h => h) (Or.inl ⟨by rfl, ?_⟩) ?_ ?_
  rotate_left
  · intro w'
    go_simp
    with_reducible rfl
  rotate_left
  · simp only [Act.put, List.setIfInBounds_toArray, List.set_cons_zero, List.set_cons_succ, i64_w, i32_w]
    rfl
  refine pure_ (i := 7) (N := some 21) (v := ?_) (a' := ?_) #[true, true, true, false, false, true, true, true, false, false] rfl rfl (by kernel_rfl) (fun _ _ _ h => h) (Or.inl ⟨by rfl, ?_⟩) ?_ ?_
  rotate_left
  · intro w'
    go_simp
    with_reducible rfl
  rotate_left
  · simp only [Act.put, List.setIfInBounds_toArray, List.set_cons_zero, List.set_cons_succ, i64_w, i32_w]
    rfl
  refine take_ (i := 3) (N := some 17) (v := ?_) (a' := ?_) #[true, true, true, true, false, true, true, true, false, false] rfl rfl (by kernel_rfl) (fun _ _ _ h => h) (Or.inl ⟨by rfl, ?_⟩) hHeld ?_ ?_
  rotate_left
  · rintro w' ⟨s0, s1⟩
    go_simp
    with_reducible rfl
  rotate_left
  · simp only [Act.put, List.setIfInBounds_toArray, List.set_cons_zero, List.set_cons_succ, i64_w, i32_w]
    rfl
  refine pure_ (i := 4) (N := some 18) (v := ?_) (a' := ?_) #[true, true, true, true, true, true, true, true, false, false] rfl rfl (by kernel_rfl) (fun _ _ _ h => h) (Or.inl ⟨by rfl, ?_⟩) ?_ ?_
  rotate_left
  · intro w'
    go_simp
    with_reducible rfl
  rotate_left
  · simp only [Act.put, List.setIfInBounds_toArray, List.set_cons_zero, List.set_cons_succ, i64_w, i32_w]
    rfl
  refine take_ (i := 8) (N := some 22) (v := ?_) (a' := ?_) #[true, true, true, true, true, true, true, true, true, false] rfl rfl (by kernel_rfl) (fun _ _ _ h => h) (Or.inl ⟨by rfl, ?_⟩) hHeld ?_ ?_
  rotate_left
  · rintro w' ⟨s0, s1⟩
    go_simp
    with_reducible rfl
  rotate_left
  · simp only [Act.put, List.setIfInBounds_toArray, List.set_cons_zero, List.set_cons_succ, i64_w, i32_w]
    rfl
  refine pure_ (i := 9) (N := some 23) (v := ?_) (a' := ?_) #[true, true, true, true, true, true, true, true, true, true] rfl rfl (by kernel_rfl) (fun _ _ _ h => h) (Or.inl ⟨by rfl, ?_⟩) ?_ ?_
  rotate_left
  · intro w'
    go_simp
    with_reducible rfl
  rotate_left
  · simp only [Act.put, List.setIfInBounds_toArray, List.set_cons_zero, List.set_cons_succ, i64_w, i32_w]
    rfl
  refine done_ (by kernel_rfl) ?_

  clear hHeld
  go_wp2_with fail
  go_loopw [7, 8, 9] (fun vo vd vi wr => ∃ (i : Nat) (d : Bool), vi = .int .i64 i ∧ vd = .bool d ∧ i ≤ xs.length ∧ Aside0 (d = true → c < i) ∧ Aside0 (d = false → i ≤ c) ∧ Aside0 (Row wr w.heap.size vo (insL xs c k p i)) ∧ Aside0 (Below w.heap.size w wr)) (fun _ _ vi _ => xs.length - (intOf vi).toNat)
  case atStart => exact ⟨0, false, rfl, rfl, by omega, ⟨fun e => by cases e⟩, ⟨fun _ => by omega⟩, ⟨by unfold insL; rw [if_pos (by omega)]; simp [Row, cellsL]; exact World.ownsRow_nil _ _ _ _⟩, ⟨by apply below_drew1; exact HB.out⟩⟩
  case round =>
    obtain ⟨i, d, rfl, rfl, hin, hd1, hd2, HR, HK⟩ := hrel
    have cr := (HK.out.cell (p := ⟨r, 0, none⟩) hlr).trans c0
    by_cases hlt : i < xs.length
    · have hw1 : wrap64 ((i : Int) + 1) = i + 1 := by unfold wrap64; omega
      obtain ⟨b, cap2, e, hb, hbr, -, q0, q1⟩ := hm'.out.item i hlt
      injection e with e1 e2 e3
      subst e1; subst e3
      have q0' := (HK.out.cell (p := ⟨b, i * 2, none⟩) hb).trans q0
      have q1' := (HK.out.cell (p := ⟨b, i * 2 + 1, none⟩) hb).trans q1
      obtain ⟨x, hx⟩ : ∃ x, (it xs i).1 = x := ⟨_, rfl⟩
      obtain ⟨y, hy⟩ : ∃ x, (it xs i).2 = x := ⟨_, rfl⟩
      rw [hx] at q0'
      rw [hy] at q1'
      have hlt' := Aside0.mk hlt
      obtain ⟨L, hL⟩ : ∃ L, insL xs c k p i = L := ⟨_, rfl⟩
      have hL' := Aside0.mk hL
      rw [hL] at HR
      have hLl : L.length ≤ 1000001 := by rw [← hL]; have := insL_length xs c k p i; omega
      have hit : Aside0 (it xs i = (x, y)) := ⟨Prod.ext hx hy⟩
      have hx' := Aside0.mk hx
      clear e2 q0 q1 hx hy hL
      cases d with
      | true =>
        have hci := hd1.out rfl
        have hLn := Aside0.mk (insL_gt xs c k p i hci hlt'.out)
        have hci' := Aside0.mk hci
        clear hci
        have hown : (wr.alloc (.cells #[.int .i64 x, .int .i64 y] 63)).ownsRow w.heap.size 63 2 _ L.length (cellsL L) := HR.out.below (by apply below_alloc; exact Below.refl _ _)
        have hnews := World.news_of_block (HeapM.blk_new wr (.cells #[.int .i64 x, .int .i64 y] 63 (0, 0)))
        have hgx : (wr.alloc (.cells #[.int .i64 x, .int .i64 y] 63)).heap.size = wr.heap.size + 1 := by simp
        have hwB : w.heap.size ≤ (wr.alloc (.cells #[.int .i64 x, .int .i64 y] 63)).heap.size := by rw [hgx]; have := HK.out.size; omega
        have hLm : L.length + 1 ≤ maxLen := by unfold maxLen; omega
        have hLb : (L.length + 1) * 16 ≤ 140737488355328 := by omega
        obtain ⟨hi0, hi1, hi2, hi3⟩ := hinf.out
        have hown' := Lib.hid hown
        have hnews' := Lib.hid hnews
        have hgx' := Lib.hid hgx
        have hi0' := Lib.hid hi0
        have hi1' := Lib.hid hi1
        have hi2' := Lib.hid hi2
        have hi3' := Lib.hid hi3
        have BA : Below w.heap.size w (wr.alloc (.cells #[.int .i64 x, .int .i64 y] 63)) := by apply below_alloc; exact HK.out
        have BA' := Aside0.mk BA
        clear hown hnews hgx hi0 hi1 hi2 hi3 BA
        go_wp2_with (first | (at_builtin; go_loud (refine wpList_append_lies _ rfl _ _ 29 rfl w.heap.size 63 inf (.agg #[.int .i64 0, .int .i64 0]) 2 16 Try.underlying29 hi0'.out hi1'.out hi2'.out hi3'.out rfl (by decide) _ L.length (cellsL L) rfl hown'.out ⟨wr.heap.size, 0, none⟩ 1 1 [.int .i64 x, .int .i64 y] rfl rfl hnews'.out ?c1 (by decide) hLm hLb hwB (wr.heap.size + 1) hgx'.out ?_)))
        case c1 => first | rfl | exact ⟨rfl, rfl⟩ | (simp [Value.oneCell']; done)
        intro g2a cap2a w2a hown2 hgr2 hat2 hlt2
        obtain ⟨R2, B2⟩ := row_app BA'.out hown'.out hown2 hgr2
        have R2a := Aside0.mk R2
        have B2a := Aside0.mk B2
        clear hown2 hgr2 hat2 hlt2 R2 B2 hown' hnews' hgx' hi0' hi1' hi2' hi3' hwB hLm hLb BA'
        go_wp2_with fail
        refine ⟨⟨i + 1, true, by first | rfl | (push_cast; rfl), rfl, by have := hlt'.out; omega, ⟨fun _ => by have := hci'.out; omega⟩, ⟨fun e => by cases e⟩, ⟨by rw [hLn.out, hL'.out, hit.out]; exact R2a.out⟩, B2a⟩, ?_⟩
        simp only [intOf]
        have := hlt'.out
        omega
      | false =>
        have hci := hd2.out rfl
        by_cases hic : i < c
        · have hLn := Aside0.mk (insL_lt xs c k p i hic hlt'.out)
          have hxk : decide (k < x) = false := decide_eq_false (by have := hc1'.out i hic; rw [hx'.out] at this; omega)
          have hic' := Aside0.mk hic
          clear hci hic
          have hown : (wr.alloc (.cells #[.int .i64 x, .int .i64 y] 63)).ownsRow w.heap.size 63 2 _ L.length (cellsL L) := HR.out.below (by apply below_alloc; exact Below.refl _ _)
          have hnews := World.news_of_block (HeapM.blk_new wr (.cells #[.int .i64 x, .int .i64 y] 63 (0, 0)))
          have hgx : (wr.alloc (.cells #[.int .i64 x, .int .i64 y] 63)).heap.size = wr.heap.size + 1 := by simp
          have hwB : w.heap.size ≤ (wr.alloc (.cells #[.int .i64 x, .int .i64 y] 63)).heap.size := by rw [hgx]; have := HK.out.size; omega
          have hLm : L.length + 1 ≤ maxLen := by unfold maxLen; omega
          have hLb : (L.length + 1) * 16 ≤ 140737488355328 := by omega
          obtain ⟨hi0, hi1, hi2, hi3⟩ := hinf.out
          have hown' := Lib.hid hown
          have hnews' := Lib.hid hnews
          have hgx' := Lib.hid hgx
          have hi0' := Lib.hid hi0
          have hi1' := Lib.hid hi1
          have hi2' := Lib.hid hi2
          have hi3' := Lib.hid hi3
          have BA : Below w.heap.size w (wr.alloc (.cells #[.int .i64 x, .int .i64 y] 63)) := by apply below_alloc; exact HK.out
          have BA' := Aside0.mk BA
          clear hown hnews hgx hi0 hi1 hi2 hi3 BA
          go_wp2_with (first | (at_builtin; go_loud (refine wpList_append_lies _ rfl _ _ 29 rfl w.heap.size 63 inf (.agg #[.int .i64 0, .int .i64 0]) 2 16 Try.underlying29 hi0'.out hi1'.out hi2'.out hi3'.out rfl (by decide) _ L.length (cellsL L) rfl hown'.out ⟨wr.heap.size, 0, none⟩ 1 1 [.int .i64 x, .int .i64 y] rfl rfl hnews'.out ?c1 (by decide) hLm hLb hwB (wr.heap.size + 1) hgx'.out ?_)))
          case c1 => first | rfl | exact ⟨rfl, rfl⟩ | (simp [Value.oneCell']; done)
          intro g2a cap2a w2a hown2 hgr2 hat2 hlt2
          obtain ⟨R2, B2⟩ := row_app BA'.out hown'.out hown2 hgr2
          have R2a := Aside0.mk R2
          have B2a := Aside0.mk B2
          clear hown2 hgr2 hat2 hlt2 R2 B2 hown' hnews' hgx' hi0' hi1' hi2' hi3' hwB hLm hLb BA'
          go_wp2_with fail
          refine ⟨⟨i + 1, false, by first | rfl | (push_cast; rfl), rfl, by have := hlt'.out; omega, ⟨fun e => by cases e⟩, ⟨fun _ => by have := hic'.out; omega⟩, ⟨by rw [hLn.out, hL'.out, hit.out]; exact R2a.out⟩, B2a⟩, ?_⟩
          simp only [intOf]
          have := hlt'.out
          omega
        · have hie : Aside0 (i = c) := ⟨by omega⟩
          have hLn : Aside0 (insL xs c k p (i + 1) = (L ++ [(k, p)]) ++ [(x, y)]) := ⟨by
            have h1 := insL_eq xs c k p (by omega)
            have h2 := hL'.out
            have h3 := hit.out
            rw [hie.out] at h2 h3 ⊢
            rw [h1, h2, h3]⟩
          have hxk : decide (k < x) = true := decide_eq_true (by have := hc2'.out i (by omega) hlt'.out; rw [hx'.out] at this; omega)
          clear hci hic
          have hown : (wr.alloc (.cells #[.int .i64 k, .int .i64 p] 63)).ownsRow w.heap.size 63 2 _ L.length (cellsL L) := HR.out.below (by apply below_alloc; exact Below.refl _ _)
          have hnews := World.news_of_block (HeapM.blk_new wr (.cells #[.int .i64 k, .int .i64 p] 63 (0, 0)))
          have hgx : (wr.alloc (.cells #[.int .i64 k, .int .i64 p] 63)).heap.size = wr.heap.size + 1 := by simp
          have hwB : w.heap.size ≤ (wr.alloc (.cells #[.int .i64 k, .int .i64 p] 63)).heap.size := by rw [hgx]; have := HK.out.size; omega
          have hLm : L.length + 1 ≤ maxLen := by unfold maxLen; omega
          have hLb : (L.length + 1) * 16 ≤ 140737488355328 := by omega
          obtain ⟨hi0, hi1, hi2, hi3⟩ := hinf.out
          have hown' := Lib.hid hown
          have hnews' := Lib.hid hnews
          have hgx' := Lib.hid hgx
          have hi0' := Lib.hid hi0
          have hi1' := Lib.hid hi1
          have hi2' := Lib.hid hi2
          have hi3' := Lib.hid hi3
          have BA : Below w.heap.size w (wr.alloc (.cells #[.int .i64 k, .int .i64 p] 63)) := by apply below_alloc; exact HK.out
          have BA' := Aside0.mk BA
          clear hown hnews hgx hi0 hi1 hi2 hi3 BA
          go_wp2_with (first | (at_builtin; go_loud (refine wpList_append_lies _ rfl _ _ 29 rfl w.heap.size 63 inf (.agg #[.int .i64 0, .int .i64 0]) 2 16 Try.underlying29 hi0'.out hi1'.out hi2'.out hi3'.out rfl (by decide) _ L.length (cellsL L) rfl hown'.out ⟨wr.heap.size, 0, none⟩ 1 1 [.int .i64 k, .int .i64 p] rfl rfl hnews'.out ?c1 (by decide) hLm hLb hwB (wr.heap.size + 1) hgx'.out ?_)))
          case c1 => first | rfl | exact ⟨rfl, rfl⟩ | (simp [Value.oneCell']; done)
          intro g2a cap2a w2a hown2 hgr2 hat2 hlt2
          obtain ⟨R2, B2⟩ := row_app BA'.out hown'.out hown2 hgr2
          have R2a := Aside0.mk R2
          have B2a := Aside0.mk B2
          clear hown2 hgr2 hat2 hlt2 R2 B2 hown' hnews' hgx' hi0' hi1' hi2' hi3' hwB hLm hLb BA'
          have q0a := (B2a.out.cell (p := ⟨b, i * 2, none⟩) hb).trans (hm'.out.item_cells i hlt'.out b cap rfl).1
          have q1a := (B2a.out.cell (p := ⟨b, i * 2 + 1, none⟩) hb).trans (hm'.out.item_cells i hlt'.out b cap rfl).2
          rw [hit.out] at q0a q1a
          have cra := (B2a.out.cell (p := ⟨r, 0, none⟩) hlr).trans c0
          have hLe : (L ++ [(k, p)]).length = L.length + 1 := by simp
          obtain ⟨L2, hL2⟩ : ∃ L2, L ++ [(k, p)] = L2 := ⟨_, rfl⟩
          have hL2' := Aside0.mk hL2
          rw [hL2] at hLe R2a
          have hL2l : L2.length ≤ 1000002 := by omega
          clear hL2 hLe q0' q1' cr
          have hown : (w2a.alloc (.cells #[.int .i64 x, .int .i64 y] 63)).ownsRow w.heap.size 63 2 _ L2.length (cellsL L2) := R2a.out.below (by apply below_alloc; exact Below.refl _ _)
          have hnews := World.news_of_block (HeapM.blk_new w2a (.cells #[.int .i64 x, .int .i64 y] 63 (0, 0)))
          have hgx : (w2a.alloc (.cells #[.int .i64 x, .int .i64 y] 63)).heap.size = w2a.heap.size + 1 := by simp
          have hwB : w.heap.size ≤ (w2a.alloc (.cells #[.int .i64 x, .int .i64 y] 63)).heap.size := by rw [hgx]; have := B2a.out.size; omega
          have hLm : L2.length + 1 ≤ maxLen := by unfold maxLen; omega
          have hLb : (L2.length + 1) * 16 ≤ 140737488355328 := by omega
          obtain ⟨hi0, hi1, hi2, hi3⟩ := hinf.out
          have hown' := Lib.hid hown
          have hnews' := Lib.hid hnews
          have hgx' := Lib.hid hgx
          have hi0' := Lib.hid hi0
          have hi1' := Lib.hid hi1
          have hi2' := Lib.hid hi2
          have hi3' := Lib.hid hi3
          have BA : Below w.heap.size w (w2a.alloc (.cells #[.int .i64 x, .int .i64 y] 63)) := by apply below_alloc; exact B2a.out
          have BA' := Aside0.mk BA
          clear hown hnews hgx hi0 hi1 hi2 hi3 BA
          go_wp2_with (first | (at_builtin; go_loud (refine wpList_append_lies _ rfl _ _ 29 rfl w.heap.size 63 inf (.agg #[.int .i64 0, .int .i64 0]) 2 16 Try.underlying29 hi0'.out hi1'.out hi2'.out hi3'.out rfl (by decide) _ L2.length (cellsL L2) rfl hown'.out ⟨w2a.heap.size, 0, none⟩ 1 1 [.int .i64 x, .int .i64 y] rfl rfl hnews'.out ?c1 (by decide) hLm hLb hwB (w2a.heap.size + 1) hgx'.out ?_)))
          case c1 => first | rfl | exact ⟨rfl, rfl⟩ | (simp [Value.oneCell']; done)
          intro g2b cap2b w2b hown2 hgr2 hat2 hlt2
          obtain ⟨R2, B2⟩ := row_app BA'.out hown'.out hown2 hgr2
          have R2b := Aside0.mk R2
          have B2b := Aside0.mk B2
          clear hown2 hgr2 hat2 hlt2 R2 B2 hown' hnews' hgx' hi0' hi1' hi2' hi3' hwB hLm hLb BA'
          go_wp2_with fail
          refine ⟨⟨i + 1, true, by first | rfl | (push_cast; rfl), rfl, by have := hlt'.out; omega, ⟨fun _ => by have := hie.out; omega⟩, ⟨fun e => by cases e⟩, ⟨by rw [hLn.out, hL2'.out]; exact R2b.out⟩, B2b⟩, ?_⟩
          simp only [intOf]
          have := hlt'.out
          omega
    · obtain rfl : i = xs.length := by omega
      obtain ⟨va, vc, rfl⟩ := HR.out.val
      have fz : wr.frozen? ⟨r, 0, none⟩ = false := HeapM.blk_free ((HK.out.block r hlr).trans hm'.out.head) 0
      cases d with
      | true =>
        have hins2 : Aside0 (SortedOf (upd C k (some p)) (insL xs c k p xs.length)) := ⟨by rw [insL_end xs c k p (hd1.out rfl)]; exact hins.out⟩
        obtain ⟨L, hL⟩ : ∃ L, insL xs c k p xs.length = L := ⟨_, rfl⟩
        rw [hL] at HR hins2 ⊢
        clear hL
        go_wp2_with fail
        go_returns
        have hp9 := ref_stored hm'.out (hg'.out r (.inl rfl)) HK.out HR.out hgl'.out
        exact ⟨rfl, L, hins2.out, hp9⟩
      | false =>
        have hce : c = xs.length := by have := hd2.out rfl; omega
        have hLl : (insL xs c k p xs.length).length ≤ 1000001 := by have := insL_length xs c k p xs.length; omega
        obtain ⟨L, hL⟩ : ∃ L, insL xs c k p xs.length = L := ⟨_, rfl⟩
        rw [hL] at HR hLl ⊢
        have hLz : Aside0 (L ++ [(k, p)] = xs.take c ++ (k, p) :: xs.drop c) := ⟨by rw [← hL, hce]; exact insL_last xs k p⟩
        clear hce hL
        have hown : (wr.alloc (.cells #[.int .i64 k, .int .i64 p] 63)).ownsRow w.heap.size 63 2 _ L.length (cellsL L) := HR.out.below (by apply below_alloc; exact Below.refl _ _)
        have hnews := World.news_of_block (HeapM.blk_new wr (.cells #[.int .i64 k, .int .i64 p] 63 (0, 0)))
        have hgx : (wr.alloc (.cells #[.int .i64 k, .int .i64 p] 63)).heap.size = wr.heap.size + 1 := by simp
        have hwB : w.heap.size ≤ (wr.alloc (.cells #[.int .i64 k, .int .i64 p] 63)).heap.size := by rw [hgx]; have := HK.out.size; omega
        have hLm : L.length + 1 ≤ maxLen := by unfold maxLen; omega
        have hLb : (L.length + 1) * 16 ≤ 140737488355328 := by omega
        obtain ⟨hi0, hi1, hi2, hi3⟩ := hinf.out
        have hown' := Lib.hid hown
        have hnews' := Lib.hid hnews
        have hgx' := Lib.hid hgx
        have hi0' := Lib.hid hi0
        have hi1' := Lib.hid hi1
        have hi2' := Lib.hid hi2
        have hi3' := Lib.hid hi3
        have BA : Below w.heap.size w (wr.alloc (.cells #[.int .i64 k, .int .i64 p] 63)) := by apply below_alloc; exact HK.out
        have BA' := Aside0.mk BA
        clear hown hnews hgx hi0 hi1 hi2 hi3 BA
        go_wp2_with (first | (at_builtin; go_loud (refine wpList_append_lies _ rfl _ _ 29 rfl w.heap.size 63 inf (.agg #[.int .i64 0, .int .i64 0]) 2 16 Try.underlying29 hi0'.out hi1'.out hi2'.out hi3'.out rfl (by decide) _ L.length (cellsL L) rfl hown'.out ⟨wr.heap.size, 0, none⟩ 1 1 [.int .i64 k, .int .i64 p] rfl rfl hnews'.out ?c1 (by decide) hLm hLb hwB (wr.heap.size + 1) hgx'.out ?_)))
        case c1 => first | rfl | exact ⟨rfl, rfl⟩ | (simp [Value.oneCell']; done)
        intro g2a cap2a w2a hown2 hgr2 hat2 hlt2
        obtain ⟨R2, B2⟩ := row_app BA'.out hown'.out hown2 hgr2
        have R2a := Aside0.mk R2
        have B2a := Aside0.mk B2
        clear hown2 hgr2 hat2 hlt2 R2 B2 hown' hnews' hgx' hi0' hi1' hi2' hi3' hwB hLm hLb BA'
        have fz2 : w2a.frozen? ⟨r, 0, none⟩ = false := HeapM.blk_free ((B2a.out.block r hlr).trans hm'.out.head) 0
        have cra := (B2a.out.cell (p := ⟨r, 0, none⟩) hlr).trans c0
        go_wp2_with fail
        go_returns
        have hp9 := ref_stored hm'.out (hg'.out r (.inl rfl)) B2a.out R2a.out hgl'.out
        rw [hLz.out] at hp9
        first | exact ⟨_, rfl, hins.out, hp9⟩ | (refine ⟨?_, _, hins.out, ?_⟩; · rfl; · exact hp9)
end Go.Proofs.Ytclekakhgaggdaa.HeapC
