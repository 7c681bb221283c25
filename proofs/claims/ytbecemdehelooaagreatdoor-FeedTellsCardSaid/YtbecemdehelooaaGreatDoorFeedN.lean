/- The language's own words; names. -/
import Derived.Test.YtbecemdehelooaaGreatDoorFeedX
import Derived.Lib.SlicesS
namespace Go.Proofs.YtbecemdehelooaaGreatDoor.FeedN
open Go.RowKit Go.Proofs.YtbecemdehelooaaGreatDoor.FrameS Go.Proofs.YtbecemdehelooaaGreatDoor.FeedG Go.Proofs.YtbecemdehelooaaGreatDoor.FeedX Go.Proofs.YtbecemdehelooaaGreatDoorW.PrintWords Go.Proofs.YtbecemdehelooaaGreatDoorW.PrintLast Go.Proofs.YtbecemdehelooaaGreatDoorW.PrintMore
set_option linter.unusedVariables false
set_option linter.unusedSimpArgs false
def words : List ByteArray := [⟨#[108, 111, 119, 101, 115, 116]⟩, ⟨#[115, 101, 99, 111, 110, 100]⟩, ⟨#[102, 114, 111, 109]⟩, ⟨#[108, 101, 115, 115]⟩, ⟨#[99, 117, 116]⟩, ⟨#[109, 105, 110]⟩, ⟨#[109, 97, 120]⟩, ⟨#[101, 108, 115, 101]⟩, ⟨#[105, 102]⟩, ⟨#[109, 111, 114, 101]⟩, ⟨#[97, 98, 111, 118, 101]⟩]
def lettersB : ByteArray := ⟨#[97, 98, 99, 100, 101, 102, 103, 104, 105, 106, 107, 108, 109, 110, 111, 112, 113, 114, 115, 116, 117, 118, 119, 120, 121, 122]⟩
def lowB : ByteArray := ⟨#[97, 98, 99, 100, 101, 102, 103, 104, 105, 106, 107, 108, 109, 110, 111, 112, 113, 114, 115, 116, 117, 118, 119, 120, 121, 122, 48, 49, 50, 51, 52, 53, 54, 55, 56, 57]⟩
theorem new_cell (w : World) (cs : Array Value) (t : TypeId) (j : Nat) : (w.alloc (.cells cs t)).cell? ⟨w.heap.size, j, none⟩ = cs[j]? := by
  simp [World.cell?, World.alloc, -World.alloc_eq]
def wordCells : Array Value := (words.map Value.string).toArray
/-- May it be a name? -/
def nameB (s : ByteArray) : Bool := !(tl s).isEmpty && decide (s.size ≤ 12) && inB (tl lettersB) ((tl s).headD 0) && decide (runL (tl lowB) (tl s) = s.size) && !Lib.containsS words s
set_option maxHeartbeats 1000000 in
set_option maxRecDepth 100000 in
theorem word_calls (s : ByteArray) (w : World) : Calls Tryz.prog 51 #[.string s] w fun e w' => e = .returned (.bool (Lib.containsS words s)) ∧ Below w.heap.size w w' := by
  have hr := Aside0.mk (show Lib.containsS (words.take 11) s = Lib.containsS words s from rfl)
  obtain ⟨B, hB⟩ : ∃ B, B = w.heap.size := ⟨_, rfl⟩
  go_enter Tryz.func51, Tryz.ntmps51
  go_wp2_with fail
  change Calls _ _ _ (w.alloc (.cells wordCells 9)) _
  refine (Tryz.slices_Contains_string w.heap.size 0 11 11 words s _ (by decide) (by decide) (fun j hj => ?_)).mono ?_
  · rw [Nat.zero_add, new_cell]
    unfold wordCells
    rw [List.getElem?_toArray, List.getElem?_map, List.getElem?_eq_getElem hj, List.getD_eq_getElem?_getD, List.getElem?_eq_getElem hj]
    rfl
  · rintro e w' ⟨rfl, rfl⟩
    rw [hr.out]
    go_wp2_with fail
    go_ret
    exact ⟨rfl, below_alloc (Below.refl _ _) _⟩
set_option maxHeartbeats 1000000 in
set_option maxRecDepth 100000 in
theorem name_calls (s : ByteArray) (w : World) : Calls Tryz.prog 35 #[.string s] w fun e w' => e = .returned (.bool (nameB s)) ∧ Below w.heap.size w w' := by
  have hl := tl_length s
  by_cases h0 : tl s = []
  · have hs : s = ⟨#[]⟩ := tl_inj h0
    have hr := Aside0.mk (show nameB s = false by unfold nameB; rw [h0]; rfl)
    subst hs
    go_enter Tryz.func35, Tryz.ntmps35
    go_wp2_with fail
    go_ret
    exact ⟨by rw [hr.out]; rfl, Below.refl _ _⟩
  obtain ⟨c, l, hc⟩ : ∃ c l, tl s = c :: l := by
    cases h : tl s with
    | nil => exact absurd h h0
    | cons c l => exact ⟨c, l, rfl⟩
  have hp : 0 < s.size := by rw [← hl, hc]; simp
  have dne : s.toList.isEmpty = false := by rw [toList_data]; show (tl s).isEmpty = false; rw [hc]; rfl
  by_cases h12 : s.size ≤ 12
  · have d12 : decide ((s.size : Int) ≤ 12) = true := decide_eq_true (by omega)
    have hsc : ∀ h : 0 < s.size, s[0]'h = c := fun h => by
      have : (tl s)[0]'(by rw [hc]; simp) = c := by simp [hc]
      exact this
    have hn : Aside0 (nameB s = (inB (tl lettersB) c && decide (runL (tl lowB) (tl s) = s.size) && !Lib.containsS words s)) := ⟨by unfold nameB; rw [hc, decide_eq_true h12]; simp⟩
    have H12 := Aside0.mk h12
    clear hl h0 hc h12
    cases hin : inB (tl lettersB) c with
    | false =>
      have hr := Aside0.mk (show nameB s = false by rw [hn.out, hin]; rfl)
      have hin' := Aside0.mk hin
      clear hin
      go_enter Tryz.func35, Tryz.ntmps35
      go_wp2_with fail
      refine (in_calls c lettersB _).mono ?_
      rintro e w' ⟨rfl, rfl⟩
      rw [hin'.out]
      go_wp2_with fail
      go_ret
      exact ⟨by rw [hr.out]; rfl, Below.refl _ _⟩
    | true =>
      have hin' := Aside0.mk hin
      clear hin
      go_enter Tryz.func35, Tryz.ntmps35
      go_wp2_with fail
      refine (in_calls c lettersB _).mono ?_
      rintro e w' ⟨rfl, rfl⟩
      rw [hin'.out]
      go_wp2_with fail
      refine (run_calls s lowB _ (by have := H12.out; omega)).mono ?_
      rintro e w' ⟨rfl, rfl⟩
      by_cases hr1 : runL (tl lowB) (tl s) = s.size
      · have dr : (((runL (tl lowB) (tl s) : Nat) : Int) == (s.size : Int)) = true := beq_iff_eq.2 (by omega)
        have hr := Aside0.mk (show nameB s = !Lib.containsS words s by rw [hn.out, hin'.out, decide_eq_true hr1]; rfl)
        clear hr1
        go_wp2_with fail
        refine (word_calls s _).mono ?_
        rintro e w' ⟨rfl, hb⟩
        go_wp2_with fail
        go_ret
        exact ⟨by rw [hr.out]; rfl, hb⟩
      · have dr : (((runL (tl lowB) (tl s) : Nat) : Int) == (s.size : Int)) = false := beq_eq_false_iff_ne.2 (by omega)
        have hr := Aside0.mk (show nameB s = false by rw [hn.out, decide_eq_false hr1]; simp)
        clear hr1
        go_wp2_with fail
        go_ret
        exact ⟨by rw [hr.out]; rfl, Below.refl _ _⟩
  · have d12 : decide ((s.size : Int) ≤ 12) = false := decide_eq_false (by omega)
    have hr := Aside0.mk (show nameB s = false by unfold nameB; rw [decide_eq_false h12]; simp)
    clear hl h0 hc h12
    go_enter Tryz.func35, Tryz.ntmps35
    go_wp2_with fail
    go_ret
    exact ⟨by rw [hr.out]; rfl, Below.refl _ _⟩
end Go.Proofs.YtbecemdehelooaaGreatDoor.FeedN
