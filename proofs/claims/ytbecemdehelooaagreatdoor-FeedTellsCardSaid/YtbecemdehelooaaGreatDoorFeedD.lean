/- Counts, amounts and their texts. -/
import Derived.Test.YtbecemdehelooaaGreatDoorFeedG
import Derived.Lib.AtoiAllCases
namespace Go.Proofs.YtbecemdehelooaaGreatDoor.FeedD
open Go.RowKit Go.Proofs.YtbecemdehelooaaGreatDoor.FrameS Go.Proofs.YtbecemdehelooaaGreatDoor.FeedG Go.Proofs.YtbecemdehelooaaGreatDoorW.PrintWords Go.Proofs.YtbecemdehelooaaGreatDoorW.PrintLast Go.Proofs.YtbecemdehelooaaGreatDoorW.PrintMore
attribute [local go_sem] max2_int min2_int max_two min_two
set_option linter.unusedVariables false
set_option linter.unusedSimpArgs false
/-- The number of a text, from 0 to most; below 0: none. -/
def countL (l : List UInt8) (most : Int) : Int := match Lib.atoiAll l with
  | .ok n => if allB l = true ∧ n ≤ most ∧ Lib.itoa n = l then n else -1
  | _ => -1
theorem atoi_ok_bound {l : List UInt8} {n : Int} (h : Lib.atoiAll l = .ok n) : -9223372036854775808 ≤ n ∧ n ≤ 9223372036854775807 := Lib.atoiAll_bounds h
set_option maxHeartbeats 1000000 in
set_option maxRecDepth 100000 in
theorem count_calls (s : ByteArray) (most : Int) (w : World) (hG : G w) (hs : s.size ≤ 281474976710656) (hm : most ≤ 1000000000000) :
    Calls Tryz.prog 22 #[.string s, .int .i64 most] w fun e w' => e = .returned (.int .i64 (countL (tl s) most)) ∧ Below w.heap.size w w' := by
  have HG := Aside0.mk hG
  have hmin : decide ((1000000000000 : Int) < most) = false := decide_eq_false (by omega)
  clear hG
  by_cases hok : ∃ n, readW s = .ok n
  · obtain ⟨n, hn⟩ := hok
    have hb := atoi_ok_bound hn
    have HN := Aside0.mk hn
    have hc : Aside0 (countL (tl s) most = if allB (tl s) = true ∧ n ≤ most ∧ Lib.itoa n = tl s then n else -1) := ⟨by unfold countL; rw [show Lib.atoiAll (tl s) = .ok n from hn]⟩
    go_enter Tryz.func22, Tryz.ntmps22
    go_wp2_with fail
    refine (atoi_yes s n _ hs HN.out).mono ?_
    rintro e w1 ⟨rfl, b1⟩
    have B1 := Aside0.mk b1
    clear b1 hn
    go_wp2_with fail
    refine (all_calls s _).mono ?_
    rintro e w2 ⟨rfl, b2⟩
    have B2 := Aside0.mk (below_step B1.out b2)
    clear b2
    cases ha : allB (tl s) with
    | false =>
      have hr := Aside0.mk (show countL (tl s) most = -1 by rw [hc.out, ha, if_neg (by simp)])
      go_wp2_with fail
      go_ret
      exact ⟨by rw [hr.out]; rfl, B2.out⟩
    | true =>
      by_cases hle : n ≤ most
      · have d1 : decide (most < n) = false := decide_eq_false (by omega)
        go_wp2_with fail
        have HT := Aside0.mk (HG.out.below B2.out).tab
        refine (Tryz.strconv_Itoa n hb.1 hb.2 _ HT.out).mono ?_
        rintro e w3 ⟨rfl, k, os, rfl⟩
        have B3 := Aside0.mk (below_step B2.out (below_grown' _ k os))
        by_cases hi : Lib.itoa n = tl s
        · have hr := Aside0.mk (show countL (tl s) most = n by rw [hc.out, if_pos ⟨ha, hle, hi⟩])
          have hq : (⟨(Lib.itoa n).toArray⟩ : ByteArray) = s := tl_inj (by rw [hi]; simp [tl])
          rw [hq]
          go_wp2_with fail
          go_ret
          exact ⟨by rw [hr.out]; rfl, B3.out⟩
        · have hr := Aside0.mk (show countL (tl s) most = -1 by rw [hc.out, if_neg (fun h => hi h.2.2)])
          have hq : ((⟨(Lib.itoa n).toArray⟩ : ByteArray).toList == s.toList) = false := beq_eq_false_iff_ne.2 (fun h => hi (by rw [toList_data, toList_data] at h; exact h))
          obtain ⟨q, hqq⟩ : ∃ q, (⟨(Lib.itoa n).toArray⟩ : ByteArray) = q := ⟨_, rfl⟩
          rw [hqq] at hq ⊢
          clear hqq hi
          go_wp2_with fail
          go_ret
          exact ⟨by rw [hr.out]; rfl, B3.out⟩
      · have d1 : decide (most < n) = true := decide_eq_true (by omega)
        have hr := Aside0.mk (show countL (tl s) most = -1 by rw [hc.out, if_neg (fun h => hle h.2.1)])
        go_wp2_with fail
        go_ret
        exact ⟨by rw [hr.out]; rfl, B2.out⟩
  · have hno : ∀ n, readW s ≠ .ok n := fun n h => hok ⟨n, h⟩
    have HNO := Aside0.mk hno
    have hr := Aside0.mk (show countL (tl s) most = -1 by
      unfold countL
      have : ∀ n, Lib.atoiAll (tl s) ≠ .ok n := hno
      split
      · exact absurd (by assumption) (this _)
      · rfl)
    clear hok hno
    go_enter Tryz.func22, Tryz.ntmps22
    go_wp2_with fail
    refine (atoi_no s _ HG.out hs HNO.out).mono ?_
    rintro e w1 ⟨i, p, rfl, b1⟩
    have B1 := Aside0.mk b1
    clear b1
    go_wp2_with fail
    refine (all_calls s _).mono ?_
    rintro e w2 ⟨rfl, b2⟩
    have B2 := Aside0.mk (below_step B1.out b2)
    clear b2
    cases ha : allB (tl s) <;>
    · go_wp2_with fail
      go_ret
      exact ⟨by rw [hr.out]; rfl, B2.out⟩
end Go.Proofs.YtbecemdehelooaaGreatDoor.FeedD
