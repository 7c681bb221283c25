/- What each of the heap's methods does, told of what is in it. -/
import Derived.Test.YtclekakhgaggdaaHeapE
namespace Go.Proofs.Ytclekakhgaggdaa.HeapC
open Go.RowKit Go.Proofs.Ytclekakhgaggdaa.HeapT Go.Proofs.Ytclekakhgaggdaa.HeapM Go.Proofs.YtclekakhgaggdaaW.PrintWords Go.Proofs.YtclekakhgaggdaaW.PrintLast Go.Proofs.YtclekakhgaggdaaW.PrintMore
set_option linter.unusedVariables false
set_option linter.unusedSimpArgs false

theorem zero3 (w : World) : (zeroValue 3).run Try.prog w = .ok (.int .i64 0) w := by kernel_rfl

/-- A heap lies at g that holds C, n items, in blocks of F. -/
structure IsHeap (w : World) (g : Nat) (C : Int → Option Int) (most : Int) (n N : Nat) (F : Nat → Prop) : Prop where
  ex : ∃ mb v xs M, HMem w g mb v xs M most N ∧ Places M xs ∧ Heaped xs ∧ Cont M xs = C ∧ xs.length = n ∧ (∀ q, q < xs.length → (Lit.int .i64 (it xs q).1).wf = true) ∧ ∀ k, (k = g ∨ OwnB v mb k) → F k
  lt : ∀ k, F k → k < w.heap.size

theorem IsHeap.keep {w w' : World} {g : Nat} {C : Int → Option Int} {most : Int} {n N : Nat} {F S : Nat → Prop} (h : IsHeap w g C most n N F) (c : Chg w w' S) (d : ∀ k, S k → ¬ F k) : IsHeap w' g C most n N F := by
  obtain ⟨⟨mb, v, xs, M, h1, h2, h3, h4, h5, h6, h7⟩, h8⟩ := h
  refine ⟨⟨mb, v, xs, M, h1.keep c (fun k e => ⟨?_, ?_, ?_⟩), h2, h3, h4, h5, h6, h7⟩, fun k e => Nat.lt_of_lt_of_le (h8 k e) c.size⟩
  · rintro rfl; exact d _ e (h7 _ (.inl rfl))
  · rintro rfl; exact d _ e (h7 _ (.inr (.inr rfl)))
  · intro f; exact d _ e (h7 _ (.inr (.inl f)))
theorem IsHeap.below {w w' : World} {g : Nat} {C : Int → Option Int} {most : Int} {n N : Nat} {F : Nat → Prop} (h : IsHeap w g C most n N F) (b : Below w.heap.size w w') : IsHeap w' g C most n N F :=
  h.keep (Chg.of_below b (fun _ => False)) (fun _ e => e.elim)

/-- What a method leaves: the heap, with other things in it; all else as it was. -/
def HPost (w w' : World) (g : Nat) (C : Int → Option Int) (most : Int) (n N : Nat) (F : Nat → Prop) : Prop :=
  ∃ F', IsHeap w' g C most n N F' ∧ Chg w w' F ∧ ∀ k, F' k → F k ∨ (w.heap.size ≤ k ∧ k < w'.heap.size)

set_option maxHeartbeats 400000 in
theorem place_calls (w : World) (g mb : Nat) (v : Value) (xs : List Itm) (M : Int → Option Nat) (most : Int) (N : Nat) (h : HMem w g mb v xs M most N) (k : Int) (hk : (Lit.int .i64 k).wf = true) :
    Calls Try.prog 39 #[.pointer (some ⟨g, 0, none⟩), .int .i64 k] w fun e w' => ∃ c : Int, e = .returned (.tuple #[.int .i64 c, .bool (M k).isSome]) ∧ (∀ i, M k = some i → c = (i : Int)) ∧ w = w' := by
  obtain ⟨c, hl, hc⟩ := h.map.look (tm := 73) Try.underlying73 Try.underlying3 Try.underlying3 (zero3 w) k hk
  have h1 : w.cell? ⟨g, 1, none⟩ = some (.map (some mb)) := (HeapM.blk_cell h.head 1).trans rfl
  have hc' := Aside0.mk hc
  clear h hc
  go_enter Try.func39, Try.ntmps39
  go_wp2
  go_returns
  exact ⟨c, rfl, hc'.out, rfl⟩

set_option maxHeartbeats 400000 in
theorem len_calls (w : World) (g : Nat) (C : Int → Option Int) (most : Int) (n N : Nat) (F : Nat → Prop) (h : IsHeap w g C most n N F) :
    Calls Try.prog 56 #[.pointer (some ⟨g, 0, none⟩)] w fun e w' => e = .returned (.int .i64 n) ∧ w = w' := by
  obtain ⟨⟨mb, v, xs, M, hm, hp, hh, hc, rfl, hw, hf⟩, hl⟩ := h
  obtain ⟨a, cap, rfl⟩ := hm.val
  have h0 : w.cell? ⟨g, 0, none⟩ = some (.slice a xs.length cap) := (HeapM.blk_cell hm.head 0).trans rfl
  clear hm hp hh hw hf hl hc
  go_enter Try.func56, Try.ntmps56
  go_wp2
  go_ret
  exact ⟨rfl, rfl⟩

set_option maxHeartbeats 400000 in
theorem prio_calls (w : World) (g : Nat) (C : Int → Option Int) (most : Int) (n N : Nat) (F : Nat → Prop) (h : IsHeap w g C most n N F) (k : Int) (hk : (Lit.int .i64 k).wf = true) :
    Calls Try.prog 24 #[.pointer (some ⟨g, 0, none⟩), .int .i64 k] w fun e w' => e = .returned (.tuple #[.int .i64 ((C k).getD 0), .bool (C k).isSome]) ∧ w = w' := by
  obtain ⟨⟨mb, v, xs, M, hm, hp, hh, rfl, rfl, hw, hf⟩, hl⟩ := h
  have hpl := place_calls w g mb v xs M most N hm k hk
  cases hM : M k with
  | none =>
    have H := Lib.hid (show Cont M xs k = none by unfold Cont; rw [hM]; rfl)
    rw [hM] at hpl
    have HP := Lib.hid hpl
    clear hm hp hh hw hf hl hpl hM
    go_enter Try.func24, Try.ntmps24
    go_wp2_with (first | (go_at_call 39; refine HP.out.mono ?_; rintro e w' ⟨c, rfl, -, rfl⟩))
    go_returns
    exact ⟨by rw [H.out]; rfl, rfl⟩
  | some i =>
    obtain ⟨hi, _⟩ := (hp k i).1 hM
    obtain ⟨r, cap, cur, rfl, hr, hrg, hrm, hlc, hcap, hsz, htk⟩ := hm.at (by omega)
    have H := Lib.hid (show Cont M xs k = some (it xs i).2 by unfold Cont; rw [hM]; rfl)
    obtain ⟨q0, q1⟩ := cur_get htk i hi
    obtain ⟨p, hpp⟩ : ∃ p, p = (it xs i).2 := ⟨_, rfl⟩
    have h0 : w.cell? ⟨g, 0, none⟩ = some (.slice (some ⟨r, 0, none⟩) xs.length cap) := (HeapM.blk_cell hm.head 0).trans rfl
    have c1 : w.cell? ⟨r, i * 2 + 1, none⟩ = some (.int .i64 p) := by rw [hpp]; exact (HeapM.blk_cell hr _).trans q1
    have HPP := Lib.hid hpp
    rw [hM] at hpl
    have HP := Lib.hid hpl
    clear hm hp hh hw hf hl hpl hM q0 q1 hr htk hsz hpp
    go_enter Try.func24, Try.ntmps24
    go_wp2_with (first | (go_at_call 39; refine HP.out.mono ?_; rintro e w' ⟨c, rfl, hci, rfl⟩; (obtain rfl := hci i rfl); clear hci))
    go_returns
    exact ⟨by rw [H.out, ← HPP.out]; rfl, rfl⟩
end Go.Proofs.Ytclekakhgaggdaa.HeapC
