/- A price's field. -/
import Derived.Test.YtbecemdehelooaaGreatDoorFeedP
namespace Go.Proofs.YtbecemdehelooaaGreatDoor.FeedQ
open Go.RowKit Go.Proofs.YtbecemdehelooaaGreatDoor.FrameS Go.Proofs.YtbecemdehelooaaGreatDoor.FeedG Go.Proofs.YtbecemdehelooaaGreatDoor.FeedD Go.Proofs.YtbecemdehelooaaGreatDoor.FeedT Go.Proofs.YtbecemdehelooaaGreatDoor.FeedP Go.Proofs.YtbecemdehelooaaGreatDoorW.PrintWords Go.Proofs.YtbecemdehelooaaGreatDoorW.PrintLast Go.Proofs.YtbecemdehelooaaGreatDoorW.PrintMore
set_option linter.unusedVariables false
set_option linter.unusedSimpArgs false
def goneL : List UInt8 := [103, 111, 110, 101]
/-- What a price's field tells; below 0: it is none. -/
def priceL (l : List UInt8) : Int := if l = goneL then 0 else if (parseL l).2 = 0 ∧ (parseL l).1 ≠ 0 then (parseL l).1 else -1
set_option maxHeartbeats 1000000 in
set_option maxRecDepth 100000 in
theorem price_calls (s : ByteArray) (w : World) (hG : G w) (hs : s.size ≤ 100000) :
    Calls Tryz.prog 23 #[.string s] w fun e w' => e = .returned (.int .i64 (priceL (tl s))) ∧ Below w.heap.size w w' := by
  have HG := Aside0.mk hG
  obtain ⟨a, ha⟩ : ∃ a, (parseL (tl s)).1 = a := ⟨_, rfl⟩
  obtain ⟨e0, he⟩ : ∃ a, (parseL (tl s)).2 = a := ⟨_, rfl⟩
  have hp : Aside0 (priceL (tl s) = if tl s = goneL then 0 else if e0 = 0 ∧ a ≠ 0 then a else -1) := ⟨by unfold priceL; rw [ha, he]⟩
  have HA := Aside0.mk ha
  have HE := Aside0.mk he
  clear hG ha he
  go_enter Tryz.func23, Tryz.ntmps23
  go_wp2_with fail
  refine (parse_calls s _ HG.out hs).mono ?_
  rintro e w1 ⟨rfl, b1⟩
  rw [HA.out, HE.out]
  have B1 := Aside0.mk b1
  clear b1
  by_cases hg : tl s = goneL
  · have hq : (s.toList == ([103, 111, 110, 101] : List UInt8)) = true := beq_iff_eq.2 (by rw [toList_data]; exact hg)
    have hr := Aside0.mk (show priceL (tl s) = 0 by rw [hp.out, if_pos hg])
    clear hg
    go_wp2_with fail
    go_ret
    exact ⟨by rw [hr.out]; rfl, B1.out⟩
  · have hq : (s.toList == ([103, 111, 110, 101] : List UInt8)) = false := beq_eq_false_iff_ne.2 (by rw [toList_data]; exact hg)
    by_cases h0 : e0 = 0
    · have d0 : (e0 != 0) = false := bne_eq_false_iff_eq.2 h0
      by_cases h1 : a = 0
      · have d1 : (a == 0) = true := beq_iff_eq.2 h1
        have hr := Aside0.mk (show priceL (tl s) = -1 by rw [hp.out, if_neg hg, if_neg (fun h => h.2 h1)])
        clear hg h0 h1
        go_wp2_with fail
        go_ret
        exact ⟨by rw [hr.out]; rfl, B1.out⟩
      · have d1 : (a == 0) = false := beq_eq_false_iff_ne.2 h1
        have hr := Aside0.mk (show priceL (tl s) = a by rw [hp.out, if_neg hg, if_pos ⟨h0, h1⟩])
        clear hg h0 h1
        go_wp2_with fail
        go_ret
        exact ⟨by rw [hr.out]; rfl, B1.out⟩
    · have d0 : (e0 != 0) = true := bne_iff_ne.2 h0
      have hr := Aside0.mk (show priceL (tl s) = -1 by rw [hp.out, if_neg hg, if_neg (fun h => h0 h.1)])
      clear hg h0
      go_wp2_with fail
      go_ret
      exact ⟨by rw [hr.out]; rfl, B1.out⟩
end Go.Proofs.YtbecemdehelooaaGreatDoor.FeedQ
