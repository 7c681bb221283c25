/- All. -/
import Derived.Test.YtclekakhgaggdaaHeapS
namespace Go.Proofs.Ytclekakhgaggdaa.HeapC
open Go.RowKit Go.Proofs.Ytclekakhgaggdaa.HeapT Go.Proofs.Ytclekakhgaggdaa.HeapM Go.Proofs.YtclekakhgaggdaaW.PrintWords Go.Proofs.YtclekakhgaggdaaW.PrintLast Go.Proofs.YtclekakhgaggdaaW.PrintMore Go.Shelf
set_option linter.unusedVariables false
set_option linter.unusedSimpArgs false

theorem sort_none (p : Option Addr) (cap : Nat) (fv : Value) (w : World) : Calls Try.prog 49 #[.slice p 0 cap, fv] w fun e w' => e = .returned (.tuple #[]) ∧ w' = w := by
  have h := AnyF.slices_SortFunc_none Try.sortIt p cap fv w
  change Calls Try.prog 49 _ _ _ at h
  exact h

set_option maxHeartbeats 2000000 in
theorem all_calls (w : World) (g : Nat) (C : Int → Option Int) (most : Int) (n N : Nat) (F : Nat → Prop) (h : IsHeap w g C most n N F) (hn : n ≤ 1000000) :
    Calls Try.prog 36 #[.pointer (some ⟨g, 0, none⟩)] w fun e w' => ∃ v ys, e = .returned v ∧ SortedOf C ys ∧ ys.length = n ∧ w'.ownsRow w.heap.size 63 2 v n (cellsL ys) ∧ Below w.heap.size w w' := by
  obtain ⟨⟨mb, v, xs, M, hm, hp, hh, rfl, rfl, hw, hf⟩, hl⟩ := h
  have hrow := hm.row
  obtain ⟨a, cap, rfl⟩ := hm.val
  have h0 : w.cell? ⟨g, 0, none⟩ = some (.slice a xs.length cap) := (HeapM.blk_cell hm.head 0).trans rfl
  rcases hrow.2 with ⟨hx, hv⟩ | ⟨r, cap', cur, hv, -, hr, hlc, hcap, hsz, htk⟩
  · have e0 : xs = [] := by
      cases xs with
      | nil => rfl
      | cons x r => first | (injection hx with _ h9 _; simp at h9) | (injection hv with _ h9 _; simp at h9) | simp at hv | simp at hx
    subst e0
    have ea : a = none ∧ cap = 0 := by
      first | (injection hx with e1 _ e3; exact ⟨e1, e3⟩) | (injection hv with e1 _ e3; exact ⟨e1, e3⟩)
    obtain ⟨rfl, rfl⟩ := ea
    have hs := Aside0.mk (sorted_of hp (List.Perm.refl []) (fun i j _ hj => absurd hj (by simp)) hw)
    clear hm hp hh hw hf hl hrow hx hv
    go_enter Try.func36, Try.ntmps36
    go_wp2_with (first | (go_at_call 48; refine (clone_nil _ _ _).mono ?_; rintro e w' ⟨rfl, rfl⟩) | (go_at_call 49; refine (sort_none _ _ _ _).mono ?_; rintro e w' ⟨rfl, rfl⟩))
    go_returns
    exact ⟨_, [], rfl, hs.out, rfl, World.ownsRow_nil _ _ _ _, Below.refl _ _⟩
  · injection hv with e1 _ e3
    subst e1; subst e3
    have HC := Lib.hid (clone_some r cap xs w hn (fun j u hj => by
      rw [HeapM.blk_cell hr j]
      have hj' : j < (cellsL xs).length := (List.getElem?_eq_some_iff.1 hj).1
      rw [← htk, List.getElem?_take_of_lt (by rw [cellsL_length] at hj'; exact hj'), Array.getElem?_toList] at hj
      exact hj))
    have hp' := Aside0.mk hp
    have hw' := Aside0.mk hw
    clear hm hp hh hw hf hl hrow hr htk hsz hcap hlc
    go_enter Try.func36, Try.ntmps36
    go_wp2_with fail
    refine HC.out.mono ?_
    rintro e w1 ⟨v1, rfl, hown, hnil, hb⟩
    rcases hown.2 with ⟨hx, hv⟩ | ⟨r1, cap1, cur1, rfl, hB1, hr1, hlc1, hcap1, hsz1, htk1⟩
    · exact absurd (by first | exact hx | exact hv) hnil
    · have HS := Lib.hid (sort_some r1 cap1 xs cur1 M w1 w.heap.size hB1 hr1 hlc1 hcap1 hsz1 htk1 hn hp'.out hw'.out)
      have hb' := Aside0.mk hb
      clear hown hnil hb hr1 htk1 hsz1 hcap1 hlc1
      go_wp2_with fail
      refine HS.out.mono ?_
      rintro e w2 ⟨rfl, ys, y1, y2, y3, y4⟩
      have P : Aside0 (SortedOf (Cont M xs) ys ∧ ys.length = xs.length ∧ w2.ownsRow w.heap.size 63 2 (.slice (some ⟨r1, 0, none⟩) xs.length cap1) xs.length (cellsL ys) ∧ Below w.heap.size w w2) :=
        ⟨y1, y2, y3, hb'.out.grown y4 (by have := hb'.out.size; omega) (by intro k hk; have := Option.some.inj hk; omega)⟩
      clear y1 y2 y3 y4
      go_wp2
      go_returns
      exact ⟨_, ys, rfl, P.out⟩
end Go.Proofs.Ytclekakhgaggdaa.HeapC
