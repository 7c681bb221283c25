/- What each of the heap's methods does, told of what is in it (the second part). -/
import Derived.Test.YtclekakhgaggdaaHeapF
import Derived.Deep.AppendLies
namespace Go.Proofs.Ytclekakhgaggdaa.HeapC
open Go.RowKit Go.Proofs.Ytclekakhgaggdaa.HeapT Go.Proofs.Ytclekakhgaggdaa.HeapM Go.Proofs.YtclekakhgaggdaaW.PrintWords Go.Proofs.YtclekakhgaggdaaW.PrintLast Go.Proofs.YtclekakhgaggdaaW.PrintMore
set_option linter.unusedVariables false
set_option linter.unusedSimpArgs false

/-- The most urgent one of what C holds. -/
def Most (C : Int → Option Int) (k p : Int) : Prop := C k = some p ∧ ∀ k' p', C k' = some p' → ¬ Ahead (k', p') (k, p)

set_option maxHeartbeats 400000 in
theorem top_none (w : World) (g : Nat) (C : Int → Option Int) (most : Int) (N : Nat) (F : Nat → Prop) (h : IsHeap w g C most 0 N F) :
    Calls Try.prog 44 #[.pointer (some ⟨g, 0, none⟩)] w fun e w' => e = .returned (.tuple #[.agg #[.int .i64 0, .int .i64 0], .bool false]) ∧ Below w.heap.size w w' := by
  have HB := Aside0.mk (Below.refl w.heap.size w)
  have HL := Lib.hid (fun (w2 : World) (hb : Below w.heap.size w w2) => len_calls w2 g C most 0 N F (h.below hb))
  clear h
  go_enter Try.func44, Try.ntmps44
  go_wp2_with (first | (go_at_call 56; refine (HL.out _ (by repeat (with_reducible first | exact HB.out | apply below_alloc))).mono ?_; rintro e w' ⟨rfl, rfl⟩))
  go_returns
  exact ⟨rfl, by repeat (with_reducible first | exact HB.out | apply below_alloc | apply pw_below_drewN | apply below_drew1 | refine below_set ?_ (by omega))⟩

set_option maxHeartbeats 400000 in
theorem top_some (w : World) (g : Nat) (C : Int → Option Int) (most : Int) (n N : Nat) (F : Nat → Prop) (h : IsHeap w g C most n N F) (hn : 0 < n) :
    ∃ k p, Most C k p ∧ (Lit.int .i64 k).wf = true ∧ Calls Try.prog 44 #[.pointer (some ⟨g, 0, none⟩)] w fun e w' => e = .returned (.tuple #[.agg #[.int .i64 k, .int .i64 p], .bool true]) ∧ Below w.heap.size w w' := by
  obtain ⟨⟨mb, v, xs, M, hm, hp, hh, rfl, rfl, hw, hf⟩, hl⟩ := id h
  obtain ⟨r, cap, cur, rfl, hr, hrg, hrm, hlc, hcap, hsz, htk⟩ := hm.at hn
  refine ⟨(it xs 0).1, (it xs 0).2, ⟨(cont_some hp).2 ⟨0, hn, rfl⟩, fun k' p' e => ?_⟩, hw 0 hn, ?_⟩
  · obtain ⟨i, hi, e2⟩ := (cont_some hp).1 e
    have := top_most hh i i (Nat.le_refl _) hi
    rw [e2] at this; exact this
  · obtain ⟨q0, q1⟩ := cur_get htk 0 hn
    obtain ⟨a0, hx0⟩ : ∃ x, x = (it xs 0).1 := ⟨_, rfl⟩
    obtain ⟨a1, hx1⟩ : ∃ x, x = (it xs 0).2 := ⟨_, rfl⟩
    rw [← hx0, ← hx1]
    have h0 : w.cell? ⟨g, 0, none⟩ = some (.slice (some ⟨r, 0, none⟩) xs.length cap) := (HeapM.blk_cell hm.head 0).trans rfl
    have c0 : w.cell? ⟨r, 0, none⟩ = some (.int .i64 a0) := by rw [hx0]; exact (HeapM.blk_cell hr _).trans q0
    have c1 : w.cell? ⟨r, 1, none⟩ = some (.int .i64 a1) := by rw [hx1]; exact (HeapM.blk_cell hr _).trans q1
    have lg : g < w.heap.size := HeapM.blk_lt hm.head
    have lr : r < w.heap.size := HeapM.blk_lt hr
    have ag : ∀ (o : Obj) (off : Nat), (w.alloc o).cell? ⟨g, off, none⟩ = w.cell? ⟨g, off, none⟩ := fun o off => World.cell?_alloc_lt _ _ _ lg
    have ar : ∀ (o : Obj) (off : Nat), (w.alloc o).cell? ⟨r, off, none⟩ = w.cell? ⟨r, off, none⟩ := fun o off => World.cell?_alloc_lt _ _ _ lr
    have e1 : ((xs.length : Int) == 0) = false := beq_eq_false_iff_ne.2 (by omega)
    have HB := Aside0.mk (Below.refl w.heap.size w)
    have HL := Lib.hid (fun (w2 : World) (hb : Below w.heap.size w w2) => len_calls w2 g _ most _ N F (h.below hb))
    clear hm hp hh hw hf hl hr htk hsz q0 q1 hx0 hx1 h
    go_enter Try.func44, Try.ntmps44
    go_wp2_with (first | (go_at_call 56; refine (HL.out _ (by repeat (with_reducible first | exact HB.out | apply below_alloc))).mono ?_; rintro e w' ⟨rfl, rfl⟩))
    go_returns
    exact ⟨rfl, by repeat (with_reducible first | exact HB.out | apply below_alloc | apply pw_below_drewN | apply below_drew1 | refine below_set ?_ (by omega))⟩

set_option maxHeartbeats 400000 in
theorem new_calls (most : Int) (w : World) (h0 : 1 ≤ most) (h1 : most ≤ 1000) :
    Calls Try.prog 22 #[.int .i64 most] w fun e w' => ∃ g F, e = .returned (.pointer (some ⟨g, 0, none⟩)) ∧ IsHeap w' g (fun _ => none) most 0 0 F ∧ Below w.heap.size w w' ∧ ∀ k, F k → w.heap.size ≤ k := by
  have hmk := @run_makeMap Try.prog
  have HB := Aside0.mk (Below.refl w.heap.size w)
  have d1 : decide (most < 1) = false := decide_eq_false (by omega)
  have d2 : decide ((1000 : Int) < most) = false := decide_eq_false (by omega)
  go_enter Try.func22, Try.ntmps22
  go_wp2
  go_returns
  refine ⟨w.heap.size + 1, fun k => k = w.heap.size ∨ k = w.heap.size + 1, rfl, ⟨⟨w.heap.size, .slice none 0 0, [], fun _ => none, ⟨?_, World.ownsRow_nil _ _ _ _, ?_, by omega, by simp [Value.ownBlock], by simp [Value.ownBlock]⟩, ?_, ?_, rfl, rfl, ?_, ?_⟩, ?_⟩, ?_, ?_⟩
  · have e : w.heap.size + 1 = (w.alloc (.map #[] 0)).heap.size := by simp
    rw [e]; exact HeapM.blk_new _ _
  · exact (IMap.made Try.prog 3 3 w).congr (Below.heap_alloc _ _ _ (by simp))
  · intro k i; simp
  · intro j _ hj; simp at hj
  · intro q hq; simp at hq
  · rintro k (e | e | e)
    · exact .inr e
    · simp [Value.ownBlock] at e
    · exact .inl e
  · rintro k (e | e) <;> simp <;> omega
  · repeat (with_reducible first | exact HB.out | apply below_alloc)
  · rintro k (e | e) <;> omega

theorem HMem.setPrio {w : World} {g mb r cap : Nat} {xs : List Itm} {M : Int → Option Nat} {most : Int} {N : Nat} (h : HMem w g mb (.slice (some ⟨r, 0, none⟩) xs.length cap) xs M most N) (i : Nat) (hi : i < xs.length) (p : Int) :
    HMem (w.setCell ⟨r, i * 2 + 1, none⟩ (.int .i64 p)) g mb (.slice (some ⟨r, 0, none⟩) xs.length cap) (xs.set i ((it xs i).1, p)) M most N := by
  obtain ⟨r', cap', cur, e, hr, hrg, hrm, hlc, hcap, hsz, htk⟩ := h.at (by omega)
  injection e with e1 _ e2
  injection e1 with e1
  injection e1 with e1
  subst e1; subst e2
  refine ⟨HeapM.blk_set_other h.head _ _ (Ne.symm hrg), ?_, ?_, h.gm, h.vg, h.vm⟩
  · refine ⟨by rw [cellsL_length], .inr ⟨r, cap, _, by rw [List.length_set], Nat.zero_le _, HeapM.blk_set_same hr _ _ (by omega), by rw [List.length_set]; exact hlc, hcap, by simp [hsz], ?_⟩⟩
    rw [List.length_set, cellsL_set _ _ _ hi, ← htk]
    simp only [Array.toList_setIfInBounds]
    rw [List.take_set]
    congr 1
    have q := (cur_get htk i hi).1
    have hq : i * 2 < cur.size := by omega
    have : cur.toList[i * 2]? = some (Value.int .i64 (it xs i).1) := by simpa using q
    apply List.ext_getElem?
    intro j
    rw [List.getElem?_set]
    split
    · rename_i e; subst e
      split
      · rw [List.getElem?_take, if_pos (by omega)]; exact this
      · rename_i e2; exact absurd (by rw [List.length_take]; simp; omega) e2
    · rfl
  · obtain ⟨o, ho⟩ := IMap.blk h.map
    exact h.map.congr ((HeapM.blk_set_other ho _ _ (Ne.symm hrm)).trans ho.symm)

theorem HPost.mk {w w' : World} {g mb : Nat} {v : Value} {xs' : List Itm} {M' : Int → Option Nat} {most : Int} {N' N2 n : Nat} {F : Nat → Prop} {C : Int → Option Int}
    (hf : ∀ k, (k = g ∨ OwnB v mb k) → F k) (hl : ∀ k, F k → k < w.heap.size) (m : HMem w' g mb v xs' M' most N') (c : Chg w w' (OwnB v mb)) (hp : Places M' xs') (hh : Heaped xs') (hc : Cont M' xs' = C) (hn : xs'.length = n)
    (hw : ∀ q, q < xs'.length → (Lit.int .i64 (it xs' q).1).wf = true) (hN : N' ≤ N2) : HPost w w' g C most n N2 F := by
  refine ⟨F, ⟨⟨mb, v, xs', M', ⟨m.head, m.row, m.map.mono hN, m.gm, m.vg, m.vm⟩, hp, hh, hc, hn, hw, hf⟩, fun k e => Nat.lt_of_lt_of_le (hl k e) c.size⟩, c.mono (fun k e => .inl (hf k (.inr e))), fun k e => .inl e⟩

set_option maxHeartbeats 1000000 in
theorem change_none (w : World) (g : Nat) (C : Int → Option Int) (most : Int) (n N : Nat) (F : Nat → Prop) (h : IsHeap w g C most n N F) (k p : Int) (hk : (Lit.int .i64 k).wf = true) (hc : C k = none) :
    Calls Try.prog 25 #[.pointer (some ⟨g, 0, none⟩), .int .i64 k, .int .i64 p] w fun e w' => e = .returned (.bool false) ∧ w = w' := by
  obtain ⟨⟨mb, v, xs, M, hm, hp, hh, rfl, rfl, hw, hf⟩, hl⟩ := h
  have hpl := place_calls w g mb v xs M most N hm k hk
  rw [cont_none.1 hc] at hpl
  have HP := Lib.hid hpl
  clear hm hp hh hw hf hl hpl hc
  go_enter Try.func25, Try.ntmps25
  go_wp2_with (first | (go_at_call 39; refine HP.out.mono ?_; rintro e w' ⟨c, rfl, -, rfl⟩))
  go_ret
  exact ⟨rfl, rfl⟩

set_option maxHeartbeats 2000000 in
theorem change_some (w : World) (g : Nat) (C : Int → Option Int) (most : Int) (n N : Nat) (F : Nat → Prop) (h : IsHeap w g C most n N F) (hN : N < 3000000000000000000) (hn : n ≤ 1000000) (k p : Int) (hk : (Lit.int .i64 k).wf = true) (hc : C k ≠ none) :
    Calls Try.prog 25 #[.pointer (some ⟨g, 0, none⟩), .int .i64 k, .int .i64 p] w fun e w' => e = .returned (.bool true) ∧ HPost w w' g (upd C k (some p)) most n (N + 4000000) F := by
  obtain ⟨⟨mb, v, xs, M, hm, hp, hh, rfl, rfl, hw, hf⟩, hl⟩ := h
  have hpl := place_calls w g mb v xs M most N hm k hk
  cases hM : M k with
  | none => exact absurd (cont_none.2 hM) hc
  | some i =>
    obtain ⟨hi, hik⟩ := (hp k i).1 hM
    obtain ⟨r, cap, cur, rfl, hr, hrg, hrm, hlc, hcap, hsz, htk⟩ := hm.at (by omega)
    have hlen : xs.length ≤ 9223372036854775807 := by omega
    obtain ⟨q0, q1⟩ := cur_get htk i hi
    have h0 : w.cell? ⟨g, 0, none⟩ = some (.slice (some ⟨r, 0, none⟩) xs.length cap) := (HeapM.blk_cell hm.head 0).trans rfl
    have c1 : w.cell? ⟨r, i * 2 + 1, none⟩ = some (.int .i64 (it xs i).2) := (HeapM.blk_cell hr _).trans q1
    have f1 : w.frozen? ⟨r, i * 2 + 1, none⟩ = false := HeapM.blk_free hr _
    rw [hM] at hpl
    have HP := Lib.hid hpl
    have m1 := Aside0.mk (hm.setPrio i hi p)
    have p1 := Aside0.mk (places_set hp i hi p)
    have x1 := Aside0.mk (set_exc hh i ((it xs i).1, p) hi)
    have ct := Aside0.mk (cont_set hp i hi p)
    have wf1 : Aside0 (∀ q, q < (xs.set i ((it xs i).1, p)).length → (Lit.int .i64 (it (xs.set i ((it xs i).1, p)) q).1).wf = true) := ⟨fun q hq => by
      rw [List.length_set] at hq
      rw [it_set _ _ _ _ hi]
      split
      · exact hw i hi
      · exact hw q hq⟩
    have hl1 : Aside0 ((xs.set i ((it xs i).1, p)).length = xs.length) := ⟨List.length_set⟩
    have hf' := Aside0.mk hf
    have hl' := Aside0.mk hl
    have hik' := Aside0.mk hik
    have hM' := Aside0.mk hM
    clear hm hp hh hw hf hl hpl hM q0 q1 hr htk hsz hc hik
    go_enter Try.func25, Try.ntmps25
    go_wp2_with fail
    refine HP.out.mono ?_
    rintro e w' ⟨c, rfl, hci, rfl⟩
    obtain rfl := hci i rfl
    clear hci HP
    go_wp2_with fail
    refine (up_calls _ g mb _ _ M most N m1.out (by omega) i (by omega) (by rw [hl1.out]; omega) (by rw [hl1.out]; exact hn) wf1.out p1.out (by rw [Int.toNat_natCast]; exact x1.out)).mono ?_
    rintro e w2 ⟨rfl, xs2, M2, N2, T2, hN2, D2⟩
    rw [Int.toNat_natCast] at D2
    have hc2 : Cont M2 xs2 k = some p := by rw [T2.co, ct.out, hik'.out]; exact upd_same _ _ _
    obtain ⟨j2, hj2, hj2k⟩ := (cont_some T2.pl).1 hc2
    have hM2 : M2 k = some j2 := (T2.pl k j2).2 ⟨hj2, by rw [hj2k]⟩
    have hD2 : DownI xs2 j2 := by
      rcases D2 with ⟨e1, e2, e3⟩ | e
      · rw [e2, hM'.out] at hM2; obtain rfl := Option.some.inj hM2
        rw [e1]; exact e3
      · exact heaped_downI e _
    have hl2 : xs2.length = xs.length := T2.len.trans hl1.out
    have lk := T2.mem.map.look1 (tm := 73) Try.underlying73 Try.underlying3 Try.underlying3 (zero3 w2) k hk j2 hM2
    have g1 : w2.cell? ⟨g, 1, none⟩ = some (.map (some mb)) := (HeapM.blk_cell T2.mem.head 1).trans rfl
    have T2' := Aside0.mk T2
    have hD2' := Aside0.mk hD2
    have hl2' := Aside0.mk hl2
    clear T2 D2 hD2 hc2 hj2k hM2 h0 c1 f1 hl2
    go_wp2_with fail
    refine (down_calls _ g mb _ _ M2 most N2 T2'.out.mem (by omega) j2 (by omega) (by omega) (by rw [hl2'.out]; exact hn) T2'.out.wf T2'.out.pl (by rw [Int.toNat_natCast]; exact hD2'.out)).mono ?_
    rintro e w3 ⟨rfl, xs3, M3, N3, T3, hN3, H3⟩
    have P : HPost w w3 g (upd (Cont M xs) k (some p)) most xs.length (N + 4000000) F := by
      refine HPost.mk hf'.out hl'.out T3.mem ?_ T3.pl H3 ?_ (T3.len.trans hl2'.out) T3.wf (by omega)
      · exact (((Chg.refl w _).setCell (.inl (.inl rfl)) _).trans T2'.out.chg (fun _ e => .inl e)).trans T3.chg (fun _ e => .inl e)
      · rw [T3.co, T2'.out.co, ct.out, hik'.out]
    have P' := Aside0.mk P
    clear T3 H3 P
    go_wp2
    go_ret
    exact ⟨rfl, P'.out⟩
end Go.Proofs.Ytclekakhgaggdaa.HeapC
