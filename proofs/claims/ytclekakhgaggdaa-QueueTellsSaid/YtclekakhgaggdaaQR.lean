/- The document's heap: a sorted list of items behind a pointer. -/
import Derived.Test.YtclekakhgaggdaaQQ
namespace Go.Proofs.Ytclekakhgaggdaa.HeapC
open Go.RowKit Go.Proofs.Ytclekakhgaggdaa.HeapT Go.Proofs.Ytclekakhgaggdaa.HeapM Go.Proofs.YtclekakhgaggdaaW.PrintWords Go.Proofs.YtclekakhgaggdaaW.PrintLast Go.Proofs.YtclekakhgaggdaaW.PrintMore
set_option linter.unusedVariables false
set_option maxRecDepth 20000
set_option linter.unusedSimpArgs false

/-- The document's heap lies at r: its items in v's row. -/
structure RMem (κ : TypeId × List Value) (w : World) (r : Nat) (v : Value) (xs : List Itm) (most : Int) : Prop where
  head : w.heap[r]? = some (.cells (v :: .int .i64 most :: κ.2).toArray κ.1 (0, 0))
  row : w.ownsRow 0 63 2 v xs.length (cellsL xs)
  vr : v.ownBlock ≠ some r
variable {κ : TypeId × List Value}
theorem RMem.at {w : World} {r : Nat} {v : Value} {xs : List Itm} {most : Int} (h : RMem κ w r v xs most) (hn : 0 < xs.length) :
    ∃ b cap cur, v = .slice (some ⟨b, 0, none⟩) xs.length cap ∧ w.heap[b]? = some (.cells cur 63 (0, 0)) ∧ b ≠ r ∧ xs.length ≤ cap ∧ cap ≤ maxLen ∧ cur.size = cap * 2 ∧ cur.toList.take (xs.length * 2) = cellsL xs := by
  obtain ⟨_, h1 | ⟨b, cap, cur, rfl, _, h2, h3, h4, h5, h6⟩⟩ := h.row
  · omega
  · exact ⟨b, cap, cur, rfl, h2, fun e => h.vr (by simp [Value.ownBlock, e]), h3, h4, h5, h6⟩
theorem RMem.val {w : World} {r : Nat} {v : Value} {xs : List Itm} {most : Int} (h : RMem κ w r v xs most) : ∃ a cap, v = .slice a xs.length cap := by
  rcases h.row.2 with ⟨h1, h2⟩ | ⟨b, cap, cur, h1, _⟩
  · exact ⟨none, 0, by rw [h1, h2]⟩
  · exact ⟨_, _, h1⟩
theorem RMem.keep {w w' : World} {r : Nat} {v : Value} {xs : List Itm} {most : Int} {S : Nat → Prop} (h : RMem κ w r v xs most) (c : Chg w w' S) (d : ∀ k, S k → k ≠ r ∧ v.ownBlock ≠ some k) : RMem κ w' r v xs most :=
  ⟨c.blk h.head (fun e => (d r e).1 rfl), row_keep c h.row (fun k e => (d k e).2), h.vr⟩
theorem RMem.below {w w' : World} {r : Nat} {v : Value} {xs : List Itm} {most : Int} (h : RMem κ w r v xs most) (b : Below w.heap.size w w') : RMem κ w' r v xs most :=
  h.keep (Chg.of_below b (fun _ => False)) (fun _ e => e.elim)
/-- What is read of an item. -/
theorem RMem.item {w : World} {r : Nat} {v : Value} {xs : List Itm} {most : Int} (h : RMem κ w r v xs most) (i : Nat) (hi : i < xs.length) :
    ∃ b cap, v = .slice (some ⟨b, 0, none⟩) xs.length cap ∧ b < w.heap.size ∧ b ≠ r ∧ xs.length ≤ cap ∧ w.cell? ⟨b, i * 2, none⟩ = some (.int .i64 (it xs i).1) ∧ w.cell? ⟨b, i * 2 + 1, none⟩ = some (.int .i64 (it xs i).2) := by
  obtain ⟨b, cap, cur, rfl, h1, h2, h3, h4, h5, h6⟩ := h.at (by omega)
  obtain ⟨q0, q1⟩ := cur_get h6 i hi
  exact ⟨b, cap, rfl, HeapM.blk_lt h1, h2, h3, (HeapM.blk_cell h1 _).trans q0, (HeapM.blk_cell h1 _).trans q1⟩

theorem RMem.item_cells {w : World} {r : Nat} {v : Value} {xs : List Itm} {most : Int} (h : RMem κ w r v xs most) (i : Nat) (hi : i < xs.length) (b cap : Nat) (hv : v = .slice (some ⟨b, 0, none⟩) xs.length cap) :
    w.cell? ⟨b, i * 2, none⟩ = some (.int .i64 (it xs i).1) ∧ w.cell? ⟨b, i * 2 + 1, none⟩ = some (.int .i64 (it xs i).2) := by
  obtain ⟨b2, cap2, e, -, -, -, q0, q1⟩ := h.item i hi
  rw [hv] at e
  injection e with e1 _ _
  injection e1 with e1
  injection e1 with e1
  subst e1
  exact ⟨q0, q1⟩
def posOf (i n : Nat) : Int := if i < n then (i : Int) else -1
theorem posOf_lt {i n : Nat} (h : i < n) : posOf i n = i := if_pos h
theorem posOf_ge {i n : Nat} (h : ¬ i < n) : posOf i n = -1 := if_neg h
set_option maxHeartbeats 1000000 in
theorem at_calls (w : World) (r : Nat) (v : Value) (xs : List Itm) (most : Int) (h : RMem κ w r v xs most) (hl : xs.length ≤ 1000000) (k : Int) (i0 : Nat) (h0 : i0 ≤ xs.length) (hf : ∀ j, j < i0 → (it xs j).1 ≠ k) (he : i0 < xs.length → (it xs i0).1 = k) :
    Calls Try.prog 43 #[.pointer (some ⟨r, 0, none⟩), .int .i64 k] w fun e w' => e = .returned (.int .i64 (posOf i0 xs.length)) ∧ w = w' := by
  have h' := Aside0.mk h
  obtain ⟨a, cap, rfl⟩ := h.val
  have c0 : w.cell? ⟨r, 0, none⟩ = some (.slice a xs.length cap) := (HeapM.blk_cell h.head 0).trans rfl
  have hf' := Aside0.mk hf
  have he' := Aside0.mk he
  clear h hf he
  go_enter Try.func43, Try.ntmps43
  go_wp2_with fail
  go_loopw [5] (fun vi wr => ∃ (i : Nat), vi = .int .i64 i ∧ i ≤ i0 ∧ w = wr) (fun vi _ => i0 - (intOf vi).toNat)
  case atStart => exact ⟨0, rfl, by omega, rfl⟩
  case round =>
    obtain ⟨i, rfl, hin, rfl⟩ := hrel
    by_cases hlt : i < xs.length
    · have hw1 : wrap64 ((i : Int) + 1) = i + 1 := by unfold wrap64; omega
      obtain ⟨b, cap2, e, hb, hbr, hc, q0, q1⟩ := h'.out.item i hlt
      injection e with e1 e2 e3
      subst e1; subst e3
      obtain ⟨x, hx⟩ : ∃ x, (it xs i).1 = x := ⟨_, rfl⟩
      rw [hx] at q0
      have hx' := Aside0.mk hx
      clear q1 hx e2
      by_cases hi : i = i0
      · have hxk : (x == k) = true := beq_iff_eq.2 (by rw [← hx'.out, hi]; exact he'.out (by omega))
        have hlt' := Aside0.mk hlt
        have hi' := Aside0.mk hi
        clear hi
        go_wp2_with fail
        go_returns
        exact ⟨by unfold posOf; rw [if_pos (by have := hi'.out; have := hlt'.out; omega), hi'.out]; rfl, rfl⟩
      · have hxk : (x == k) = false := beq_eq_false_iff_ne.2 (by rw [← hx'.out]; exact hf'.out i (by omega))
        have hi' := Aside0.mk hi
        clear hi
        go_wp2_with fail
        refine ⟨⟨i + 1, by first | rfl | (push_cast; rfl), by have := hi'.out; omega, by first | rfl | trivial⟩, ?_⟩
        simp only [intOf]
        have := hi'.out
        omega
    · obtain rfl : i = xs.length := by omega
      have hi : i0 = xs.length := by omega
      have hi' := Aside0.mk hi
      clear hi
      go_wp2_with fail
      go_returns
      exact ⟨by unfold posOf; rw [if_neg (by have := hi'.out; omega)]; rfl, rfl⟩

/-- The document's heap, and the blocks that are its own. -/
def IsRef (κ : TypeId × List Value) (w : World) (r : Nat) (xs : List Itm) (most : Int) (G : Nat → Prop) : Prop :=
  ∃ v, RMem κ w r v xs most ∧ (∀ k, (k = r ∨ v.ownBlock = some k) → G k) ∧ ∀ k, G k → k < w.heap.size
theorem IsRef.lt {w : World} {r : Nat} {xs : List Itm} {most : Int} {G : Nat → Prop} (h : IsRef κ w r xs most G) : ∀ k, G k → k < w.heap.size := by
  obtain ⟨v, h1, h2, h3⟩ := h; exact h3
theorem IsRef.keep {w w' : World} {r : Nat} {xs : List Itm} {most : Int} {G S : Nat → Prop} (h : IsRef κ w r xs most G) (c : Chg w w' S) (d : ∀ k, S k → ¬ G k) : IsRef κ w' r xs most G := by
  obtain ⟨v, h1, h2, h3⟩ := h
  exact ⟨v, h1.keep c (fun k e => ⟨fun x => d k e (h2 k (.inl x)), fun x => d k e (h2 k (.inr x))⟩), h2, fun k e => Nat.lt_of_lt_of_le (h3 k e) c.size⟩
theorem IsRef.below {w w' : World} {r : Nat} {xs : List Itm} {most : Int} {G : Nat → Prop} (h : IsRef κ w r xs most G) (b : Below w.heap.size w w') : IsRef κ w' r xs most G := h.keep (Chg.of_below b (fun _ => False)) (fun _ e => e.elim)
def RPost (κ : TypeId × List Value) (w w' : World) (r : Nat) (xs : List Itm) (most : Int) (G : Nat → Prop) : Prop :=
  ∃ G', IsRef κ w' r xs most G' ∧ Chg w w' G ∧ ∀ k, G' k → G k ∨ (w.heap.size ≤ k ∧ k < w'.heap.size)

/-- A row of items that was made since B. -/
def Row (w : World) (B : Nat) (v : Value) (xs : List Itm) : Prop := w.ownsRow B 63 2 v xs.length (cellsL xs)

set_option maxHeartbeats 1000000 in
theorem rprio_calls (w : World) (r : Nat) (xs : List Itm) (most : Int) (G : Nat → Prop) (h : IsRef κ w r xs most G) (hl : xs.length ≤ 1000000) (C : Int → Option Int) (hs : SortedOf C xs) (k : Int) :
    Calls Try.prog 27 #[.pointer (some ⟨r, 0, none⟩), .int .i64 k] w fun e w' => e = .returned (.tuple #[.int .i64 ((C k).getD 0), .bool (C k).isSome]) ∧ w = w' := by
  obtain ⟨i0, h0, hf, he, hS, hN⟩ := hs.find k
  obtain ⟨v, hm, -, -⟩ := h
  have HA := Lib.hid (at_calls w r v xs most hm hl k i0 h0 hf he)
  obtain ⟨a, cap, rfl⟩ := hm.val
  have c0 : w.cell? ⟨r, 0, none⟩ = some (.slice a xs.length cap) := (HeapM.blk_cell hm.head 0).trans rfl
  have hm' := Aside0.mk hm
  by_cases hi : i0 < xs.length
  · have hC := hS hi
    obtain ⟨b, cap2, e, hb, hbr, hc, q0, q1⟩ := hm.item i0 hi
    injection e with e1 e2 e3
    subst e1; subst e3
    obtain ⟨y, hy⟩ : ∃ x, (it xs i0).2 = x := ⟨_, rfl⟩
    rw [hy] at q1 hC
    have hpo := Aside0.mk (posOf_lt hi)
    rw [hC]
    clear q0 hy e2 hf he hS hN hC h0 hm hs
    go_enter Try.func27, Try.ntmps27
    go_wp2_with fail
    refine HA.out.mono ?_
    rintro e w1 ⟨rfl, rfl⟩
    rw [hpo.out]
    go_wp2_with fail
    go_returns
    exact ⟨rfl, rfl⟩
  · have hpo := Aside0.mk (posOf_ge hi)
    rw [hN (by omega)]
    clear hf he hS hN h0 hm hs
    go_enter Try.func27, Try.ntmps27
    go_wp2_with fail
    refine HA.out.mono ?_
    rintro e w1 ⟨rfl, rfl⟩
    rw [hpo.out]
    go_wp2_with fail
    go_returns
    exact ⟨rfl, rfl⟩

theorem RMem.setPrio {w : World} {r b cap : Nat} {xs : List Itm} {most : Int} (h : RMem κ w r (.slice (some ⟨b, 0, none⟩) xs.length cap) xs most) (i : Nat) (hi : i < xs.length) (p : Int) :
    RMem κ (w.setCell ⟨b, i * 2 + 1, none⟩ (.int .i64 p)) r (.slice (some ⟨b, 0, none⟩) xs.length cap) (xs.set i ((it xs i).1, p)) most := by
  obtain ⟨r', cap', cur, e, hr, hrg, hlc, hcap, hsz, htk⟩ := h.at (by omega)
  injection e with e1 _ e2
  injection e1 with e1
  injection e1 with e1
  subst e1; subst e2
  refine ⟨HeapM.blk_set_other h.head _ _ (Ne.symm hrg), ?_, h.vr⟩
  refine ⟨by rw [cellsL_length], .inr ⟨b, cap, _, by rw [List.length_set], Nat.zero_le _, HeapM.blk_set_same hr _ _ (by omega), by rw [List.length_set]; exact hlc, hcap, by simp [hsz], ?_⟩⟩
  rw [List.length_set, cellsL_set _ _ _ hi, ← htk]
  simp only [Array.toList_setIfInBounds]
  rw [List.take_set]
  congr 1
  have q := (cur_get htk i hi).1
  have hq : i * 2 < cur.size := by omega
  have : cur.toList[i * 2]? = some (Value.int .i64 (it xs i).1) := by simpa using q
  apply List.ext_getElem?
  intro j
  rw [List.getElem?_set]
  split
  · rename_i e; subst e
    split
    · rw [List.getElem?_take, if_pos (by omega)]; exact this
    · rename_i e2; exact absurd (by rw [List.length_take]; simp; omega) e2
  · rfl

set_option maxHeartbeats 1000000 in
theorem rchange_calls (w : World) (r : Nat) (xs : List Itm) (most : Int) (G : Nat → Prop) (h : IsRef κ w r xs most G) (hl : xs.length ≤ 1000000) (C : Int → Option Int) (hs : SortedOf C xs) (k p : Int) :
    Calls Try.prog 28 #[.pointer (some ⟨r, 0, none⟩), .int .i64 k, .int .i64 p] w fun e w' => ∃ xs', e = .returned (.bool (C k).isSome) ∧ SortedOf (chg C k p) xs' ∧ RPost κ w w' r xs' most G := by
  obtain ⟨i0, h0, hf, he, hS, hN⟩ := hs.find k
  have hh := Aside0.mk h
  obtain ⟨v, hm, hg, hgl⟩ := h
  have HA := Lib.hid (at_calls w r v xs most hm hl k i0 h0 hf he)
  obtain ⟨a, cap, rfl⟩ := hm.val
  have c0 : w.cell? ⟨r, 0, none⟩ = some (.slice a xs.length cap) := (HeapM.blk_cell hm.head 0).trans rfl
  have hm' := Aside0.mk hm
  have hs' := Aside0.mk hs
  have hg' := Aside0.mk hg
  have hgl' := Aside0.mk hgl
  by_cases hi : i0 < xs.length
  · have hC := hS hi
    have hek := Aside0.mk (he hi)
    obtain ⟨b, cap2, e, hb, hbr, hc, q0, q1⟩ := hm.item i0 hi
    injection e with e1 e2 e3
    subst e1; subst e3
    obtain ⟨y, hy⟩ : ∃ x, (it xs i0).2 = x := ⟨_, rfl⟩
    obtain ⟨x, hx⟩ : ∃ x, (it xs i0).1 = x := ⟨_, rfl⟩
    rw [hy] at q1 hC
    rw [hx] at q0
    have hpo := Aside0.mk (posOf_lt hi)
    obtain ⟨b', cap', cur, e, hbb, hbr', hlc, hcap, hsz, htk⟩ := hm.at (by omega)
    injection e with e1 _ e3
    injection e1 with e1
    injection e1 with e1
    subst e1; subst e3
    have fz : w.frozen? ⟨b, i0 * 2 + 1, none⟩ = false := HeapM.blk_free hbb _
    have hbb' := Aside0.mk hbb
    have hsz' := Aside0.mk hsz
    have htk' := Aside0.mk htk
    rw [hC]
    have hxk : x = k := hx.symm.trans hek.out
    have hxk' := Aside0.mk hxk
    clear hy hx e2 hf he hS hN hC h0 hm hs hg hgl hbb hsz htk hxk
    go_enter Try.func28, Try.ntmps28
    go_wp2_with fail
    refine HA.out.mono ?_
    rintro e w1 ⟨rfl, rfl⟩
    rw [hpo.out]
    go_wp2_with fail
    go_returns
    have hm9 := hm'.out.setPrio i0 hi p
    rw [hek.out] at hm9
    exact ⟨xs.set i0 (k, p), rfl, hs'.out.turn k p i0 hi hek.out, G, ⟨_, hm9, hg'.out, fun q e => by have := hgl'.out q e; simpa [World.setCell] using this⟩, (Chg.refl _ _).setCell (.inl (hg'.out b (.inr rfl))) _, fun q e => .inl e⟩
  · have hpo := Aside0.mk (posOf_ge hi)
    have hC := hN (by omega)
    have hC' := Aside0.mk hC
    rw [hC]
    clear hf he hS hN h0 hm hs hg hgl hC
    go_enter Try.func28, Try.ntmps28
    go_wp2_with fail
    refine HA.out.mono ?_
    rintro e w1 ⟨rfl, rfl⟩
    rw [hpo.out]
    go_wp2_with fail
    go_returns
    exact ⟨xs, rfl, by rw [chg_none hC'.out]; exact hs'.out, G, hh.out, Chg.refl _ _, fun k e => .inl e⟩

/-- One thing more at the end of a row that is our own. -/
theorem row_app {w0 w1 w2 : World} {v : Value} {xs : List Itm} {k p : Int} {g cap : Nat} (hb : Below w0.heap.size w0 w1) (hv : Row w1 w0.heap.size v xs)
    (ho : w2.ownsRow w0.heap.size 63 2 (.slice (some ⟨g, 0, none⟩) (xs.length + 1) cap) (xs.length + 1) (cellsL xs ++ [.int .i64 k, .int .i64 p])) (hg : w1.grownBy w2 v.ownBlock) :
    Row w2 w0.heap.size (.slice (some ⟨g, 0, none⟩) (xs.length + 1) cap) (xs ++ [(k, p)]) ∧ Below w0.heap.size w0 w2 := by
  refine ⟨?_, ?_⟩
  · unfold Row
    have e1 : (xs ++ [(k, p)]).length = xs.length + 1 := by simp
    have e2 : cellsL (xs ++ [(k, p)]) = cellsL xs ++ [.int .i64 k, .int .i64 p] := cellsL_append _ _
    rw [e1, e2]; exact ho
  · exact ((Chg.of_below hb (fun q => w0.heap.size ≤ q)).grown hg (fun q e => .inl (hv.lt q e).1)).below (fun q e => e)
theorem Row.below {w1 w2 : World} {B : Nat} {v : Value} {xs : List Itm} (h : Row w1 B v xs) (b : Below w1.heap.size w1 w2) : Row w2 B v xs := row_keep (Chg.of_below b (fun _ => False)) h (fun _ e => e.elim)

theorem Row.val {w : World} {B : Nat} {v : Value} {xs : List Itm} (h : Row w B v xs) : ∃ a cap, v = .slice a xs.length cap := by
  rcases h.2 with ⟨h1, h2⟩ | ⟨b, cap, cur, h1, _⟩
  · exact ⟨none, 0, by rw [h1, h2]⟩
  · exact ⟨_, _, h1⟩
theorem row_zero {w : World} {B e size n : Nat} {v : Value} {xs : List Value} (h : w.ownsRow B e size v n xs) : w.ownsRow 0 e size v n xs := by
  obtain ⟨h1, h2 | ⟨r, cap, cur, rfl, h3, h4, h5⟩⟩ := h
  · exact ⟨h1, .inl h2⟩
  · exact ⟨h1, .inr ⟨r, cap, cur, rfl, Nat.zero_le _, h4, h5⟩⟩
theorem rtake_one (xs : List Itm) (i : Nat) (h : i < xs.length) : xs.take (i + 1) = xs.take i ++ [it xs i] := by
  rw [List.take_add_one, List.getElem?_eq_getElem h, it_get h]; rfl
theorem erase_here (xs : List Itm) (i : Nat) (h : i < xs.length) : (xs.take (i + 1)).eraseIdx i = (xs.take i).eraseIdx i := by
  have hl : (xs.take i).length = i := by rw [List.length_take]; omega
  rw [rtake_one xs i h, List.eraseIdx_append_of_length_le (by omega), hl, Nat.sub_self, List.eraseIdx_of_length_le (l := xs.take i) (by omega)]
  simp
theorem erase_other (xs : List Itm) (i i0 : Nat) (h : i < xs.length) (hn : i ≠ i0) : (xs.take (i + 1)).eraseIdx i0 = (xs.take i).eraseIdx i0 ++ [it xs i] := by
  have hl : (xs.take i).length = i := by rw [List.length_take]; omega
  rw [rtake_one xs i h]
  by_cases hlt : i0 < i
  · rw [List.eraseIdx_append_of_lt_length (by omega)]
  · rw [List.eraseIdx_of_length_le (by simp [hl]; omega), List.eraseIdx_of_length_le (l := xs.take i) (by omega)]
/-- The list is another one now. -/
theorem ref_stored {w w1 : World} {r : Nat} {v v' : Value} {xs ys : List Itm} {most : Int} {G : Nat → Prop} (hh : RMem κ w r v xs most) (hg : G r) (hb : Below w.heap.size w w1) (hr : Row w1 w.heap.size v' ys) (hgl : ∀ k, G k → k < w.heap.size) :
    RPost κ w (w1.setCell ⟨r, 0, none⟩ v') r ys most G := by
  have hrl := HeapM.blk_lt hh.head
  have hne : v'.ownBlock ≠ some r := fun e => by have := (hr.lt r e).1; omega
  refine ⟨fun k => k = r ∨ v'.ownBlock = some k, ⟨v', ⟨by have h := HeapM.blk_set_same ((hb.block r hrl).trans hh.head) 0 v' (by simp); rw [show (v :: .int .i64 most :: κ.2).toArray.setIfInBounds 0 v' = (v' :: .int .i64 most :: κ.2).toArray by simp] at h; exact h, ?_, hne⟩, fun k e => e, ?_⟩, ((Chg.of_below hb G).setCell (.inl hg) _), ?_⟩
  · exact row_keep ((Chg.refl w1 (fun q => q = r)).setCell (.inl rfl) _) (row_zero hr) (fun q e => by subst e; exact hne)
  · rintro k (rfl | e)
    · have := hb.size; simp [World.setCell]; omega
    · have := (hr.lt k e).2; simpa [World.setCell] using this
  · rintro k (rfl | e)
    · exact .inl hg
    · exact .inr ⟨(hr.lt k e).1, by have := (hr.lt k e).2; simpa [World.setCell] using this⟩


set_option maxHeartbeats 2000000 in
theorem rremove_calls (w : World) (r : Nat) (xs : List Itm) (most : Int) (G : Nat → Prop) (h : IsRef κ w r xs most G) (hl : xs.length ≤ 1000000) (C : Int → Option Int) (hs : SortedOf C xs) (k : Int) :
    Calls Try.prog 35 #[.pointer (some ⟨r, 0, none⟩), .int .i64 k] w fun e w' => ∃ xs', e = .returned (.bool (C k).isSome) ∧ SortedOf (upd C k none) xs' ∧ RPost κ w w' r xs' most G := by
  obtain ⟨i0, h0, hf, he, hS, hN⟩ := hs.find k
  have hdel := Aside0.mk (hs.del k i0 h0 hf he)
  have hCs : (C k).isSome = decide (0 ≤ posOf i0 xs.length) := by
    by_cases hi : i0 < xs.length
    · rw [hS hi, posOf_lt hi]; simp
    · rw [hN (by omega), posOf_ge hi]; rfl
  have hh := Aside0.mk h
  obtain ⟨v, hm, hg, hgl⟩ := h
  have HA := Lib.hid (at_calls w r v xs most hm hl k i0 h0 hf he)
  obtain ⟨a, cap, rfl⟩ := hm.val
  have c0 : w.cell? ⟨r, 0, none⟩ = some (.slice a xs.length cap) := (HeapM.blk_cell hm.head 0).trans rfl
  have hm' := Aside0.mk hm
  have hg' := Aside0.mk hg
  have hgl' := Aside0.mk hgl
  obtain ⟨pi, hpi⟩ : ∃ q, posOf i0 xs.length = q := ⟨_, rfl⟩
  have hpi' := Aside0.mk hpi
  rw [hpi] at HA hCs
  rw [hCs]
  have HB := Aside0.mk (Below.refl w.heap.size w)
  have hlr : r < w.heap.size := HeapM.blk_lt hm.head
  obtain ⟨inf, hi0, hi1, hi2, hi3⟩ := info_item
  have hinf := Aside0.mk (And.intro hi0 (And.intro hi1 (And.intro hi2 hi3)))
  have hpd : ∀ i : Nat, i < xs.length → ((i : Int) = pi ↔ i = i0) := fun i hi => by
    rw [← hpi]; unfold posOf; split <;> omega
  have hpd' := Aside0.mk hpd
  clear h0 hf he hS hN hm hg hgl hpi hs hCs hi0 hi1 hi2 hi3 hpd
  go_enter Try.func35, Try.ntmps35
  go_wp2_with fail
  refine HA.out.mono ?_
  rintro e w1 ⟨rfl, rfl⟩
  go_wp2_with fail
  go_loopw [6, 7] (fun vo vi wr => ∃ (i : Nat), vi = .int .i64 i ∧ i ≤ xs.length ∧ Aside0 (Row wr w.heap.size vo ((xs.take i).eraseIdx i0)) ∧ Aside0 (Below w.heap.size w wr)) (fun _ vi _ => xs.length - (intOf vi).toNat)
  case atStart => exact ⟨0, rfl, by omega, ⟨by simp [Row, cellsL]; exact World.ownsRow_nil _ _ _ _⟩, HB⟩
  case round =>
    obtain ⟨i, rfl, hin, HR, HK⟩ := hrel
    have cr := (HK.out.cell (p := ⟨r, 0, none⟩) hlr).trans c0
    by_cases hlt : i < xs.length
    · have hw1 : wrap64 ((i : Int) + 1) = i + 1 := by unfold wrap64; omega
      have hlt' := Aside0.mk hlt
      by_cases hi : i = i0
      · have hpp : ((i : Int) == pi) = true := beq_iff_eq.2 ((hpd'.out i hlt).2 hi)
        have hi' := Aside0.mk hi
        clear hi
        go_wp2_with fail
        refine ⟨⟨i + 1, by first | rfl | (push_cast; rfl), by have := hlt'.out; omega, ⟨?_⟩, HK⟩, ?_⟩
        · have e : (xs.take (i + 1)).eraseIdx i0 = (xs.take i).eraseIdx i0 := by
            rw [← hi'.out]; exact erase_here xs i hlt'.out
          rw [e]; exact HR.out
        · simp only [intOf]
          have := hlt'.out
          omega
      · have hpp : ((i : Int) == pi) = false := beq_eq_false_iff_ne.2 (fun e => hi ((hpd'.out i hlt).1 e))
        obtain ⟨b, cap2, e, hb, hbr, hc, q0, q1⟩ := hm'.out.item i hlt
        injection e with e1 e2 e3
        subst e1; subst e3
        have d0 := (HK.out.cell (p := ⟨b, i * 2, none⟩) hb).trans q0
        have d1 := (HK.out.cell (p := ⟨b, i * 2 + 1, none⟩) hb).trans q1
        obtain ⟨x, hx⟩ : ∃ x, (it xs i).1 = x := ⟨_, rfl⟩
        obtain ⟨y, hy⟩ : ∃ x, (it xs i).2 = x := ⟨_, rfl⟩
        rw [hx] at d0
        rw [hy] at d1
        obtain ⟨L, hL⟩ : ∃ L, (xs.take i).eraseIdx i0 = L := ⟨_, rfl⟩
        have hL' := Aside0.mk hL
        rw [hL] at HR
        have hLl : L.length ≤ 1000000 := by rw [← hL, List.length_eraseIdx, List.length_take]; split <;> omega
        have hx' := Aside0.mk hx
        have hy' := Aside0.mk hy
        have hni' := Aside0.mk hi
        clear e2 q0 q1 hx hy hL hi
        have hown : (wr.alloc (.cells #[.int .i64 x, .int .i64 y] 63)).ownsRow w.heap.size 63 2 _ L.length (cellsL L) := HR.out.below (by apply below_alloc; exact Below.refl _ _)
        have hnews := World.news_of_block (HeapM.blk_new wr (.cells #[.int .i64 x, .int .i64 y] 63 (0, 0)))
        have hgx : (wr.alloc (.cells #[.int .i64 x, .int .i64 y] 63)).heap.size = wr.heap.size + 1 := by simp
        have hwB : w.heap.size ≤ (wr.alloc (.cells #[.int .i64 x, .int .i64 y] 63)).heap.size := by rw [hgx]; have := HK.out.size; omega
        have hLm : L.length + 1 ≤ maxLen := by unfold maxLen; omega
        have hLb : (L.length + 1) * 16 ≤ 140737488355328 := by omega
        obtain ⟨hi0, hi1, hi2, hi3⟩ := hinf.out
        have hown' := Lib.hid hown
        have hnews' := Lib.hid hnews
        have hgx' := Lib.hid hgx
        have hi0' := Lib.hid hi0
        have hi1' := Lib.hid hi1
        have hi2' := Lib.hid hi2
        have hi3' := Lib.hid hi3
        have BA : Below w.heap.size w (wr.alloc (.cells #[.int .i64 x, .int .i64 y] 63)) := by apply below_alloc; exact HK.out
        have BA' := Aside0.mk BA
        clear hown hnews hgx hi0 hi1 hi2 hi3 BA
        go_wp2_with (first | (at_builtin; go_loud (refine wpList_append_lies _ rfl _ _ 29 rfl w.heap.size 63 inf (.agg #[.int .i64 0, .int .i64 0]) 2 16 Try.underlying29 hi0'.out hi1'.out hi2'.out hi3'.out rfl (by decide) _ L.length (cellsL L) rfl hown'.out ⟨wr.heap.size, 0, none⟩ 1 1 [.int .i64 x, .int .i64 y] rfl rfl hnews'.out ?c1 (by decide) hLm hLb hwB (wr.heap.size + 1) hgx'.out ?_)))
        case c1 => first | rfl | exact ⟨rfl, rfl⟩
        intro g2 cap2 w2 hown2 hgr2 hat2 hlt2
        obtain ⟨R2, B2⟩ := row_app BA'.out hown'.out hown2 hgr2
        have R2' := Aside0.mk R2
        have B2' := Aside0.mk B2
        clear hown2 hgr2 hat2 hlt2 R2 B2 hown' hnews' hgx' hi0' hi1' hi2' hi3' hwB hLm hLb
        go_wp2_with fail
        refine ⟨⟨i + 1, by first | rfl | (push_cast; rfl), by have := hlt'.out; omega, ⟨?_⟩, B2'⟩, ?_⟩
        · have e : (xs.take (i + 1)).eraseIdx i0 = L ++ [(x, y)] := by
            rw [erase_other xs i i0 hlt'.out hni'.out, hL'.out, ← hx'.out, ← hy'.out]
          rw [e]; exact R2'.out
        · simp only [intOf]
          have := hlt'.out
          omega
    · obtain rfl : i = xs.length := by omega
      obtain ⟨va, vc, rfl⟩ := HR.out.val
      have fz : wr.frozen? ⟨r, 0, none⟩ = false := HeapM.blk_free ((HK.out.block r hlr).trans hm'.out.head) 0
      go_wp2_with fail
      go_returns
      have hp9 := ref_stored hm'.out (hg'.out r (.inl rfl)) HK.out HR.out hgl'.out
      rw [List.take_length] at hp9
      exact ⟨_, rfl, hdel.out, hp9⟩

set_option maxHeartbeats 1000000 in
theorem rnew_ok (most : Int) (w : World) (h0 : 1 ≤ most) (h1 : most ≤ 1000) :
    Calls Try.prog 23 #[.int .i64 most] w fun e w' => e = .returned (.tuple #[.agg #[.slice none 0 0, .int .i64 most], .bool true]) ∧ Below w.heap.size w w' := by
  have HB := Aside0.mk (Below.refl w.heap.size w)
  have d1 : decide (most < 1) = false := decide_eq_false (by omega)
  have d2 : decide ((1000 : Int) < most) = false := decide_eq_false (by omega)
  go_enter Try.func23, Try.ntmps23
  go_wp2
  go_returns
  exact ⟨rfl, by repeat (with_reducible first | exact HB.out | apply below_alloc | apply pw_below_drewN | apply below_drew1 | refine below_set ?_ (by simp))⟩
set_option maxHeartbeats 1000000 in
theorem rnew_no (most : Int) (w : World) (h0 : most < 1 ∨ 1000 < most) :
    Calls Try.prog 23 #[.int .i64 most] w fun e w' => e = .returned (.tuple #[.agg #[.slice none 0 0, .int .i64 0], .bool false]) ∧ Below w.heap.size w w' := by
  have HB := Aside0.mk (Below.refl w.heap.size w)
  by_cases h1 : most < 1
  · have d1 : decide (most < 1) = true := decide_eq_true (by omega)
    clear h0
    go_enter Try.func23, Try.ntmps23
    go_wp2
    go_returns
    exact ⟨rfl, by repeat (with_reducible first | exact HB.out | apply below_alloc | apply pw_below_drewN | apply below_drew1 | refine below_set ?_ (by simp))⟩
  · have d1 : decide (most < 1) = false := decide_eq_false (by omega)
    have d2 : decide ((1000 : Int) < most) = true := decide_eq_true (by omega)
    clear h0 h1
    go_enter Try.func23, Try.ntmps23
    go_wp2
    go_returns
    exact ⟨rfl, by repeat (with_reducible first | exact HB.out | apply below_alloc | apply pw_below_drewN | apply below_drew1 | refine below_set ?_ (by simp))⟩
end Go.Proofs.Ytclekakhgaggdaa.HeapC
