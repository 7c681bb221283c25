/- What QueueKeeps wants: the union of both, merged rows, Ints. -/
import Derived.Test.YtclekakhgaggdaaQT
namespace Go.Proofs.Ytclekakhgaggdaa.HeapC
open Go.RowKit Go.Proofs.Ytclekakhgaggdaa.HeapT Go.Proofs.Ytclekakhgaggdaa.HeapM Go.Proofs.Ytclekakhgaggdaa.QueueM Go.Proofs.YtclekakhgaggdaaW.PrintWords Go.Proofs.YtclekakhgaggdaaW.PrintLast Go.Proofs.YtclekakhgaggdaaW.PrintMore
set_option linter.unusedVariables false
set_option linter.unusedSimpArgs false
/-- All that is held, waiting or dirty. -/
def Un (C : Int → Option Int) (S f : Int → Bool) : Prop := ∀ x, ((C x).isSome || S x) = f x
theorem Un.want {C C' : Int → Option Int} {S S' f : Int → Bool} {room : Int} {n n' : Nat} {k m r : Int} (u1 : Un C S f) (h : WantTo C S n room k m r C' S' n') : Un C' S' (sadd f k true) := by
  rcases h with ⟨old, e, e1, e2, e3, e4⟩ | ⟨e, e0, e1, e2, e3, e4⟩ | ⟨e, e0, e1, e2, e3, e4⟩
  · rw [e2, e3]
    intro x
    unfold upd sadd
    by_cases h : x = k
    · rw [if_pos h, if_pos h]; rfl
    · rw [if_neg h, if_neg h]; exact u1 x
  · rw [e2, e3]
    intro x
    unfold upd sadd
    by_cases h : x = k
    · rw [if_pos h, if_pos h, if_pos h]; rfl
    · rw [if_neg h, if_neg h, if_neg h]; exact u1 x
  · rw [e2, e3]
    intro x
    unfold sadd
    by_cases h : x = k
    · rw [if_pos h, if_pos h, h, e]; rfl
    · rw [if_neg h, if_neg h]; exact u1 x
theorem Un.drop {C : Int → Option Int} {S f : Int → Bool} (u1 : Un C S f) (k : Int) : Un (upd C k none) (sadd S k false) (sadd f k false) := by
  intro x
  unfold upd sadd
  by_cases h : x = k
  · rw [if_pos h, if_pos h, if_pos h]; rfl
  · rw [if_neg h, if_neg h, if_neg h]; exact u1 x
theorem Un.next {C C' : Int → Option Int} {S S' f : Int → Bool} {room t : Int} {n n' : Nat} {k p : Int} {b : Bool} (u1 : Un C S f) (sc : ∀ x, S x = true → C x = none) (h : NextTo C S n room t k p b C' S' n') : (b = true → f k = true) ∧ Un C' S' (if b then sadd f k false else f) := by
  obtain ⟨ht, ys, m, hs, hn⟩ := h
  rcases ht with ⟨_, _, _, rfl⟩ | ⟨h0, hm, rfl⟩
  · simp only [Bool.false_eq_true, if_false] at hs
    refine ⟨(fun e => by cases e), fun x => ?_⟩
    show _ = f x
    rw [hs.cont x, hs.dirt x]
    by_cases hx : x ∈ ys.take m
    · have hS : S x = true := (hs.set.mem x).1 (List.mem_of_mem_take hx)
      rw [if_pos hx, ← u1 x, hS]
      simp
    · rw [if_neg hx, decide_eq_false hx, ← u1 x]
      simp
  · have hck := hm.1
    have hfk : f k = true := by rw [← u1 k, hck]; rfl
    have hsk : S k = false := by
      cases e : S k with
      | false => rfl
      | true => have := sc k e; rw [hck] at this; cases this
    simp only [if_true] at hs
    refine ⟨fun _ => hfk, fun x => ?_⟩
    show _ = sadd f k false x
    rw [hs.cont x, hs.dirt x]
    by_cases hx : x ∈ ys.take m
    · have hS : S x = true := (hs.set.mem x).1 (List.mem_of_mem_take hx)
      have hne : x ≠ k := fun e => by rw [e, hsk] at hS; cases hS
      rw [if_pos hx]
      unfold sadd
      rw [if_neg hne, ← u1 x, hS]
      simp
    · rw [if_neg hx, decide_eq_false hx]
      unfold upd sadd
      by_cases e : x = k
      · subst e; simp [hsk]
      · simp only [if_neg e, Bool.not_false, Bool.and_true]; exact u1 x
/-- Two rising rows, merged so far. -/
structure Mg (ks ys G : List Int) (a b : Nat) : Prop where
  srt : G.Pairwise (· < ·)
  mem : ∀ x, x ∈ G ↔ x ∈ ks.take a ∨ x ∈ ys.take b
  low : ∀ x ∈ G, (∀ u ∈ ks.drop a, x < u) ∧ ∀ v ∈ ys.drop b, x < v
theorem Mg.start (ks ys : List Int) : Mg ks ys [] 0 0 := ⟨List.Pairwise.nil, fun x => by simp, fun x h => by cases h⟩
theorem Mg.swap {ks ys G : List Int} {a b : Nat} (h : Mg ks ys G a b) : Mg ys ks G b a := ⟨h.srt, fun x => (h.mem x).trans Or.comm, fun x hx => ⟨(h.low x hx).2, (h.low x hx).1⟩⟩
theorem Mg.left {ks ys G : List Int} {a b : Nat} (h : Mg ks ys G a b) (hk : ks.Pairwise (· < ·)) (hy : ys.Pairwise (· < ·)) (ha : a < ks.length) (hb : b < ys.length → ks.getD a 0 < ys.getD b 0) : Mg ks ys (G ++ [ks.getD a 0]) (a + 1) b := by
  have e : ks.drop a = ks.getD a 0 :: ks.drop (a + 1) := by
    rw [List.getD_eq_getElem?_getD, List.getElem?_eq_getElem ha]
    exact List.drop_eq_getElem_cons ha
  obtain ⟨x, hx⟩ : ∃ x, ks.getD a 0 = x := ⟨_, rfl⟩
  have hpk : (ks.drop a).Pairwise (· < ·) := hk.sublist (List.drop_sublist _ _)
  have ht : ks.take (a + 1) = ks.take a ++ [x] := by rw [← hx]; exact take_one ks a ha
  rw [hx] at e hb ⊢
  rw [e, List.pairwise_cons] at hpk
  have hv : ∀ v ∈ ys.drop b, x < v := by
    intro v hv
    rcases Nat.lt_or_ge b ys.length with hl | hl
    · have e2 : ys.drop b = ys.getD b 0 :: ys.drop (b + 1) := by
        rw [List.getD_eq_getElem?_getD, List.getElem?_eq_getElem hl]
        exact List.drop_eq_getElem_cons hl
      have hpy : (ys.drop b).Pairwise (· < ·) := hy.sublist (List.drop_sublist _ _)
      have h1 := hb hl
      rw [e2] at hv hpy
      rw [List.pairwise_cons] at hpy
      rcases List.mem_cons.1 hv with h2 | h2
      · rw [h2]; exact h1
      · have := hpy.1 v h2; omega
    · rw [List.drop_eq_nil_of_le hl] at hv; cases hv
  refine ⟨?_, fun z => ?_, fun z hz => ?_⟩
  · rw [List.pairwise_append]
    refine ⟨h.srt, List.pairwise_singleton _ _, fun z hz u hu => ?_⟩
    rw [List.mem_singleton] at hu
    rw [hu]
    exact (h.low z hz).1 x (by rw [e]; exact List.mem_cons_self)
  · rw [ht, List.mem_append, List.mem_append, List.mem_singleton, h.mem z]
    constructor
    · rintro ((h1 | h1) | h1)
      · exact .inl (.inl h1)
      · exact .inr h1
      · exact .inl (.inr h1)
    · rintro ((h1 | h1) | h1)
      · exact .inl (.inl h1)
      · exact .inr h1
      · exact .inl (.inr h1)
  · rcases List.mem_append.1 hz with h1 | h1
    · exact ⟨fun u hu => (h.low z h1).1 u (by rw [e]; exact List.mem_cons_of_mem _ hu), (h.low z h1).2⟩
    · rw [List.mem_singleton] at h1
      rw [h1]
      exact ⟨hpk.1, hv⟩
theorem Mg.done {ks ys G : List Int} {a b : Nat} {A B f : Int → Bool} (h : Mg ks ys G a b) (ha : ks.length ≤ a) (hb : ys.length ≤ b) (hk : SetOf A ks) (hy : SetOf B ys) (hf : ∀ x, (A x || B x) = f x) : SetOf f G := by
  refine ⟨h.srt, fun x => ?_⟩
  rw [h.mem x, List.take_of_length_le ha, List.take_of_length_le hb, hk.mem x, hy.mem x, ← hf x, Bool.or_eq_true]
/-- The numbers below k of which f is true. -/
def upTo (f : Int → Bool) (k : Nat) : List Int := ((List.range k).filter (fun (j : Nat) => f (j : Int))).map Int.ofNat
theorem upTo_succ (f : Int → Bool) (k : Nat) : upTo f (k + 1) = if f k then upTo f k ++ [(k : Int)] else upTo f k := by
  unfold upTo
  rw [List.range_succ, List.filter_append, List.map_append]
  cases h : f (k : Int) <;> simp [h]
theorem upTo_set {f : Int → Bool} {k : Nat} (hs : ∀ x, f x = true → 0 ≤ x ∧ x < k) : SetOf f (upTo f k) := by
  refine ⟨?_, fun x => ?_⟩
  · refine List.pairwise_map.2 ?_
    refine (List.Pairwise.filter _ List.pairwise_lt_range).imp (fun e => ?_)
    exact Int.ofNat_lt.2 e
  · unfold upTo
    rw [List.mem_map]
    constructor
    · rintro ⟨j, hj, rfl⟩
      exact (List.mem_filter.1 hj).2
    · intro hx
      have := hs x hx
      have e : ((x.toNat : Nat) : Int) = x := by omega
      exact ⟨x.toNat, List.mem_filter.2 ⟨List.mem_range.2 (by omega), by rw [e]; exact hx⟩, e⟩
theorem upTo_len (f : Int → Bool) (k : Nat) : (upTo f k).length ≤ k := by
  unfold upTo
  rw [List.length_map]
  have := List.length_filter_le (fun (j : Nat) => f (j : Int)) (List.range k)
  simpa using this
set_option maxHeartbeats 2000000 in
set_option maxRecDepth 20000 in
/-- Two rows of the same numbers are told the same. -/
theorem ints_calls {D1 D2 : Nat → Prop} (v1 v2 : Value) (xs : List Int) (w : World) (h1 : Nums w D1 v1 xs) (h2 : Nums w D2 v2 xs) (hl : xs.length ≤ 1000000) :
    Calls Try.prog 18 #[v1, v2] w fun e w' => e = .returned (.bool true) ∧ Below w.heap.size w w' := by
  obtain ⟨a1, c1, rfl, m1, g1⟩ := h1
  obtain ⟨a2, c2, rfl, m2, g2⟩ := h2
  obtain ⟨len, hlen⟩ : ∃ l, l = xs.length := ⟨_, rfl⟩
  have G1 := Aside0.mk g1
  have G2 := Aside0.mk g2
  have HL := Aside0.mk hlen
  rw [← hlen] at hl ⊢
  clear m1 m2 g1 g2 hlen
  have BB := Aside0.mk (Below.refl w.heap.size w)
  go_enter Try.func18, Try.ntmps18
  go_wp2_with fail
  go_loopw [5] (fun vi wr => ∃ (i : Nat), vi = .int .i64 i ∧ i ≤ len ∧ Aside0 (Below w.heap.size w wr)) (fun vi _ => len - (intOf vi).toNat)
  case atStart => exact ⟨0, rfl, by omega, BB⟩
  case round =>
    clear BB
    obtain ⟨i, rfl, hil, B⟩ := hrel
    by_cases hlt : i < len
    · have hw1 : wrap64 ((i : Int) + 1) = i + 1 := by unfold wrap64; omega
      obtain ⟨b1, e1, -, q1, k1⟩ := G1.out i (by have := HL.out; omega)
      obtain ⟨b2, e2, -, q2, k2⟩ := G2.out i (by have := HL.out; omega)
      subst e1
      subst e2
      obtain ⟨x, hx⟩ : ∃ x, xs.getD i 0 = x := ⟨_, rfl⟩
      rw [hx] at k1 k2
      have d1 := (B.out.cell (p := ⟨b1, i, none⟩) q1).trans k1
      have d2 := (B.out.cell (p := ⟨b2, i, none⟩) q2).trans k2
      clear k1 k2 q1 q2 hx
      go_wp2_with fail
      refine start_ (n := 9) (S := fun w' => w'.cell? ⟨b1, i, none⟩ = some (.int .i64 x) ∧ w'.cell? ⟨b2, i, none⟩ = some (.int .i64 x) ∧ Below w.heap.size w w') (ds := []) #[false, false, false, false, false, false, false, false, false] (by kernel_rfl) rfl rfl ⟨d1, d2, (by apply below_drew1; exact B.out)⟩ (fun hHeld => ?_)
      refine pure_ (i := 0) (N := some 17) (v := ?_) (a' := ?_) #[true, false, false, false, false, false, false, false, false] rfl rfl (by kernel_rfl) (fun _ _ _ h => h) (Or.inl ⟨by rfl, ?_⟩) ?_ ?_
      rotate_left
      · intro w'
        go_simp
        with_reducible rfl
      rotate_left
      · simp only [Act.put, List.setIfInBounds_toArray, List.set_cons_zero, List.set_cons_succ, i64_w, i32_w]
        rfl
      refine pure_ (i := 1) (N := some 18) (v := ?_) (a' := ?_) #[true, true, false, false, false, false, false, false, false] rfl rfl (by kernel_rfl) (fun _ _ _ h => h) (Or.inl ⟨by rfl, ?_⟩) ?_ ?_
      rotate_left
      · intro w'
        go_simp
        with_reducible rfl
      rotate_left
      · simp only [Act.put, List.setIfInBounds_toArray, List.set_cons_zero, List.set_cons_succ, i64_w, i32_w]
        rfl
      refine pure_ (i := 2) (N := some 19) (v := ?_) (a' := ?_) #[true, true, true, false, false, false, false, false, false] rfl rfl (by kernel_rfl) (fun _ _ _ h => h) (Or.inl ⟨by rfl, ?_⟩) ?_ ?_
      rotate_left
      · intro w'
        go_simp
        with_reducible rfl
      rotate_left
      · simp only [Act.put, List.setIfInBounds_toArray, List.set_cons_zero, List.set_cons_succ, i64_w, i32_w]
        rfl
      refine pure_ (i := 4) (N := some 21) (v := ?_) (a' := ?_) #[true, true, true, false, true, false, false, false, false] rfl rfl (by kernel_rfl) (fun _ _ _ h => h) (Or.inl ⟨by rfl, ?_⟩) ?_ ?_
      rotate_left
      · intro w'
        go_simp
        with_reducible rfl
      rotate_left
      · simp only [Act.put, List.setIfInBounds_toArray, List.set_cons_zero, List.set_cons_succ, i64_w, i32_w]
        rfl
      refine pure_ (i := 5) (N := some 22) (v := ?_) (a' := ?_) #[true, true, true, false, true, true, false, false, false] rfl rfl (by kernel_rfl) (fun _ _ _ h => h) (Or.inl ⟨by rfl, ?_⟩) ?_ ?_
      rotate_left
      · intro w'
        go_simp
        with_reducible rfl
      rotate_left
      · simp only [Act.put, List.setIfInBounds_toArray, List.set_cons_zero, List.set_cons_succ, i64_w, i32_w]
        rfl
      refine pure_ (i := 6) (N := some 23) (v := ?_) (a' := ?_) #[true, true, true, false, true, true, true, false, false] rfl rfl (by kernel_rfl) (fun _ _ _ h => h) (Or.inl ⟨by rfl, ?_⟩) ?_ ?_
      rotate_left
      · intro w'
        go_simp
        with_reducible rfl
      rotate_left
      · simp only [Act.put, List.setIfInBounds_toArray, List.set_cons_zero, List.set_cons_succ, i64_w, i32_w]
        rfl
      refine take_ (i := 3) (N := some 20) (v := ?_) (a' := ?_) #[true, true, true, true, true, true, true, false, false] rfl rfl (by kernel_rfl) (fun _ _ _ h => h) (Or.inl ⟨by rfl, ?_⟩) hHeld ?_ ?_
      rotate_left
      · rintro w' ⟨s0, s1, s2⟩
        go_simp
        with_reducible rfl
      rotate_left
      · simp only [Act.put, List.setIfInBounds_toArray, List.set_cons_zero, List.set_cons_succ, i64_w, i32_w]
        rfl
      refine take_ (i := 7) (N := some 24) (v := ?_) (a' := ?_) #[true, true, true, true, true, true, true, true, false] rfl rfl (by kernel_rfl) (fun _ _ _ h => h) (Or.inl ⟨by rfl, ?_⟩) hHeld ?_ ?_
      rotate_left
      · rintro w' ⟨s0, s1, s2⟩
        go_simp
        with_reducible rfl
      rotate_left
      · simp only [Act.put, List.setIfInBounds_toArray, List.set_cons_zero, List.set_cons_succ, i64_w, i32_w]
        rfl
      refine pure_ (i := 8) (N := some 25) (v := ?_) (a' := ?_) #[true, true, true, true, true, true, true, true, true] rfl rfl (by kernel_rfl) (fun _ _ _ h => h) (Or.inl ⟨by rfl, ?_⟩) ?_ ?_
      rotate_left
      · intro w'
        go_simp
        with_reducible rfl
      rotate_left
      · simp only [Act.put, List.setIfInBounds_toArray, List.set_cons_zero, List.set_cons_succ, i64_w, i32_w]
        rfl
      refine done_ (by kernel_rfl) ?_

      have R := Aside0.mk hHeld.2.2
      clear hHeld d1 d2
      go_wp2_with fail
      go_roundw
      case rel => exact ⟨i + 1, by go_num, by omega, by first | exact R | exact B⟩
      case measure => simp [intOf]; omega
    · go_wp2_with fail
      go_ret
      exact ⟨rfl, B.out⟩
end Go.Proofs.Ytclekakhgaggdaa.HeapC
