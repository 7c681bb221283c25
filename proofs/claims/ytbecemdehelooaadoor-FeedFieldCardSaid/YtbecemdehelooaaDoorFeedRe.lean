/- The document's lines: Right and Encode. -/
import Derived.Test.YtbecemdehelooaaDoorFeedRn
namespace Go.Proofs.YtbecemdehelooaaDoor.FeedRe
open Go.RowKit Go.Proofs.YtbecemdehelooaaDoor.FrameS Go.Proofs.YtbecemdehelooaaDoor.FrameP Go.Proofs.YtbecemdehelooaaDoor.FeedG Go.Proofs.YtbecemdehelooaaDoor.FeedD Go.Proofs.YtbecemdehelooaaDoor.FeedT Go.Proofs.YtbecemdehelooaaDoor.FeedP Go.Proofs.YtbecemdehelooaaDoor.FeedX Go.Proofs.YtbecemdehelooaaDoor.FeedN Go.Proofs.YtbecemdehelooaaDoor.FeedW Go.Proofs.YtbecemdehelooaaDoor.FeedE Go.Proofs.YtbecemdehelooaaDoor.FeedPl Go.Proofs.YtbecemdehelooaaDoor.FeedR Go.Proofs.YtbecemdehelooaaDoor.FeedRn Go.Proofs.YtbecemdehelooaaDoorW.PrintWords Go.Proofs.YtbecemdehelooaaDoorW.PrintLast Go.Proofs.YtbecemdehelooaaDoorW.PrintMore
set_option linter.unusedVariables false
set_option linter.unusedSimpArgs false
set_option maxHeartbeats 2000000 in
set_option maxRecDepth 20000 in
theorem refright_calls (so sk se : ByteArray) (n p : Int) (w : World) :
    Calls Tryd.prog 24 #[.agg #[.string so, .int .i64 n, .string sk, .string se, .int .i64 p]] w fun e w' => e = .returned (.bool (rightF so sk se n p)) ∧ Below w.heap.size w w' := by
  obtain ⟨B, hB⟩ : ∃ B, w.heap.size = B := ⟨_, rfl⟩
  obtain ⟨W, hW⟩ : ∃ W, w.alloc (Obj.cells #[Value.string so, Value.int IntKind.i64 n, Value.string sk, Value.string se, Value.int IntKind.i64 p] 24) = W := ⟨_, rfl⟩
  have h0 := Aside0.mk (show W.heap[B]? = some (.cells #[Value.string so, Value.int IntKind.i64 n, Value.string sk, Value.string se, Value.int IntKind.i64 p] 24 (0, 0)) by rw [← hW, ← hB]; exact blk_new w _)
  have BW := Aside0.mk (show Below w.heap.size w W by rw [← hW]; exact below_alloc (Below.refl _ _) _)
  have HB := Aside0.mk hB
  have HW := Aside0.mk hW
  have hR : rightF so sk se n p = (nameB so && !badSeq n && nameB sk && nameB se && !badPrice p) := rfl
  clear hB hW
  cases hA : nameB so with
  | false =>
    have HR := Aside0.mk (show rightF so sk se n p = false by rw [hR, hA]; rfl)
    have HA := Aside0.mk hA
    clear hA hR
    go_enter Tryd.func24, Tryd.ntmps24
    go_wp2_with fail
    rw [HB.out, HW.out]
    refine (refname_calls so _).mono ?_
    rintro e w1 ⟨rfl, b1⟩
    rw [HA.out]
    have D1 := Aside0.mk (blk_below h0.out b1)
    have B1 := Aside0.mk (below_step BW.out b1)
    clear b1
    have y0 : w1.cell? ⟨B, 0, none⟩ = some (.string so) := (blk_cell D1.out 0).trans rfl
    have y1 : w1.cell? ⟨B, 1, none⟩ = some (.int .i64 n) := (blk_cell D1.out 1).trans rfl
    have y2 : w1.cell? ⟨B, 2, none⟩ = some (.string sk) := (blk_cell D1.out 2).trans rfl
    have y3 : w1.cell? ⟨B, 3, none⟩ = some (.string se) := (blk_cell D1.out 3).trans rfl
    have y4 : w1.cell? ⟨B, 4, none⟩ = some (.int .i64 p) := (blk_cell D1.out 4).trans rfl
    go_wp2_with fail
    go_ret
    exact ⟨by rw [HR.out]; rfl, B1.out⟩
  | true =>
    have HA := Aside0.mk hA
    rw [hA, Bool.true_and] at hR
    cases hS : nameB sk with
    | false =>
      have HR := Aside0.mk (show rightF so sk se n p = false by rw [hR, hS, Bool.and_false]; rfl)
      have HSK := Aside0.mk hS
      clear hA hR hS
      go_enter Tryd.func24, Tryd.ntmps24
      go_wp2_with fail
      rw [HB.out, HW.out]
      refine (refname_calls so _).mono ?_
      rintro e w1 ⟨rfl, b1⟩
      rw [HA.out]
      have D1 := Aside0.mk (blk_below h0.out b1)
      have B1 := Aside0.mk (below_step BW.out b1)
      clear b1
      have y0 : w1.cell? ⟨B, 0, none⟩ = some (.string so) := (blk_cell D1.out 0).trans rfl
      have y1 : w1.cell? ⟨B, 1, none⟩ = some (.int .i64 n) := (blk_cell D1.out 1).trans rfl
      have y2 : w1.cell? ⟨B, 2, none⟩ = some (.string sk) := (blk_cell D1.out 2).trans rfl
      have y3 : w1.cell? ⟨B, 3, none⟩ = some (.string se) := (blk_cell D1.out 3).trans rfl
      have y4 : w1.cell? ⟨B, 4, none⟩ = some (.int .i64 p) := (blk_cell D1.out 4).trans rfl
      go_wp2_with fail
      refine (refname_calls sk _).mono ?_
      rintro e w2 ⟨rfl, b2⟩
      rw [HSK.out]
      have D2 := Aside0.mk (blk_below D1.out b2)
      have B2 := Aside0.mk (below_step B1.out b2)
      clear b2 y0 y1 y2 y3 y4
      have y0 : w2.cell? ⟨B, 0, none⟩ = some (.string so) := (blk_cell D2.out 0).trans rfl
      have y1 : w2.cell? ⟨B, 1, none⟩ = some (.int .i64 n) := (blk_cell D2.out 1).trans rfl
      have y2 : w2.cell? ⟨B, 2, none⟩ = some (.string sk) := (blk_cell D2.out 2).trans rfl
      have y3 : w2.cell? ⟨B, 3, none⟩ = some (.string se) := (blk_cell D2.out 3).trans rfl
      have y4 : w2.cell? ⟨B, 4, none⟩ = some (.int .i64 p) := (blk_cell D2.out 4).trans rfl
      go_wp2_with fail
      go_ret
      exact ⟨by rw [HR.out]; rfl, B2.out⟩
    | true =>
      have HSK := Aside0.mk hS
      rw [hS, Bool.and_true] at hR
      cases hE : nameB se with
      | false =>
        have HR := Aside0.mk (show rightF so sk se n p = false by rw [hR, hE, Bool.and_false]; rfl)
        have HSE := Aside0.mk hE
        clear hA hR hS hE
        go_enter Tryd.func24, Tryd.ntmps24
        go_wp2_with fail
        rw [HB.out, HW.out]
        refine (refname_calls so _).mono ?_
        rintro e w1 ⟨rfl, b1⟩
        rw [HA.out]
        have D1 := Aside0.mk (blk_below h0.out b1)
        have B1 := Aside0.mk (below_step BW.out b1)
        clear b1
        have y0 : w1.cell? ⟨B, 0, none⟩ = some (.string so) := (blk_cell D1.out 0).trans rfl
        have y1 : w1.cell? ⟨B, 1, none⟩ = some (.int .i64 n) := (blk_cell D1.out 1).trans rfl
        have y2 : w1.cell? ⟨B, 2, none⟩ = some (.string sk) := (blk_cell D1.out 2).trans rfl
        have y3 : w1.cell? ⟨B, 3, none⟩ = some (.string se) := (blk_cell D1.out 3).trans rfl
        have y4 : w1.cell? ⟨B, 4, none⟩ = some (.int .i64 p) := (blk_cell D1.out 4).trans rfl
        go_wp2_with fail
        refine (refname_calls sk _).mono ?_
        rintro e w2 ⟨rfl, b2⟩
        rw [HSK.out]
        have D2 := Aside0.mk (blk_below D1.out b2)
        have B2 := Aside0.mk (below_step B1.out b2)
        clear b2 y0 y1 y2 y3 y4
        have y0 : w2.cell? ⟨B, 0, none⟩ = some (.string so) := (blk_cell D2.out 0).trans rfl
        have y1 : w2.cell? ⟨B, 1, none⟩ = some (.int .i64 n) := (blk_cell D2.out 1).trans rfl
        have y2 : w2.cell? ⟨B, 2, none⟩ = some (.string sk) := (blk_cell D2.out 2).trans rfl
        have y3 : w2.cell? ⟨B, 3, none⟩ = some (.string se) := (blk_cell D2.out 3).trans rfl
        have y4 : w2.cell? ⟨B, 4, none⟩ = some (.int .i64 p) := (blk_cell D2.out 4).trans rfl
        go_wp2_with fail
        refine (refname_calls se _).mono ?_
        rintro e w3 ⟨rfl, b3⟩
        rw [HSE.out]
        have B3 := Aside0.mk (below_step B2.out b3)
        have D3 := blk_below D2.out b3
        clear b3 y0 y1 y2 y3 y4
        have y0 : w3.cell? ⟨B, 0, none⟩ = some (.string so) := (blk_cell D3 0).trans rfl
        have y1 : w3.cell? ⟨B, 1, none⟩ = some (.int .i64 n) := (blk_cell D3 1).trans rfl
        have y2 : w3.cell? ⟨B, 2, none⟩ = some (.string sk) := (blk_cell D3 2).trans rfl
        have y3 : w3.cell? ⟨B, 3, none⟩ = some (.string se) := (blk_cell D3 3).trans rfl
        have y4 : w3.cell? ⟨B, 4, none⟩ = some (.int .i64 p) := (blk_cell D3 4).trans rfl
        clear D3
        go_wp2_with fail
        go_ret
        exact ⟨by rw [HR.out]; rfl, B3.out⟩
      | true =>
        have HSE := Aside0.mk hE
        rw [hE, Bool.and_true] at hR
        unfold badSeq badPrice at hR
        by_cases n1 : n < 1
        · have HR := Aside0.mk (show rightF so sk se n p = false by rw [hR, decide_eq_true n1]; rfl)
          have d1 : decide (1 ≤ n) = false := decide_eq_false (by omega)
          clear hA hR hS hE n1
          go_enter Tryd.func24, Tryd.ntmps24
          go_wp2_with fail
          rw [HB.out, HW.out]
          refine (refname_calls so _).mono ?_
          rintro e w1 ⟨rfl, b1⟩
          rw [HA.out]
          have D1 := Aside0.mk (blk_below h0.out b1)
          have B1 := Aside0.mk (below_step BW.out b1)
          clear b1
          have y0 : w1.cell? ⟨B, 0, none⟩ = some (.string so) := (blk_cell D1.out 0).trans rfl
          have y1 : w1.cell? ⟨B, 1, none⟩ = some (.int .i64 n) := (blk_cell D1.out 1).trans rfl
          have y2 : w1.cell? ⟨B, 2, none⟩ = some (.string sk) := (blk_cell D1.out 2).trans rfl
          have y3 : w1.cell? ⟨B, 3, none⟩ = some (.string se) := (blk_cell D1.out 3).trans rfl
          have y4 : w1.cell? ⟨B, 4, none⟩ = some (.int .i64 p) := (blk_cell D1.out 4).trans rfl
          go_wp2_with fail
          refine (refname_calls sk _).mono ?_
          rintro e w2 ⟨rfl, b2⟩
          rw [HSK.out]
          have D2 := Aside0.mk (blk_below D1.out b2)
          have B2 := Aside0.mk (below_step B1.out b2)
          clear b2 y0 y1 y2 y3 y4
          have y0 : w2.cell? ⟨B, 0, none⟩ = some (.string so) := (blk_cell D2.out 0).trans rfl
          have y1 : w2.cell? ⟨B, 1, none⟩ = some (.int .i64 n) := (blk_cell D2.out 1).trans rfl
          have y2 : w2.cell? ⟨B, 2, none⟩ = some (.string sk) := (blk_cell D2.out 2).trans rfl
          have y3 : w2.cell? ⟨B, 3, none⟩ = some (.string se) := (blk_cell D2.out 3).trans rfl
          have y4 : w2.cell? ⟨B, 4, none⟩ = some (.int .i64 p) := (blk_cell D2.out 4).trans rfl
          go_wp2_with fail
          refine (refname_calls se _).mono ?_
          rintro e w3 ⟨rfl, b3⟩
          rw [HSE.out]
          have B3 := Aside0.mk (below_step B2.out b3)
          have D3 := blk_below D2.out b3
          clear b3 y0 y1 y2 y3 y4
          have y0 : w3.cell? ⟨B, 0, none⟩ = some (.string so) := (blk_cell D3 0).trans rfl
          have y1 : w3.cell? ⟨B, 1, none⟩ = some (.int .i64 n) := (blk_cell D3 1).trans rfl
          have y2 : w3.cell? ⟨B, 2, none⟩ = some (.string sk) := (blk_cell D3 2).trans rfl
          have y3 : w3.cell? ⟨B, 3, none⟩ = some (.string se) := (blk_cell D3 3).trans rfl
          have y4 : w3.cell? ⟨B, 4, none⟩ = some (.int .i64 p) := (blk_cell D3 4).trans rfl
          clear D3
          go_wp2_with fail
          go_ret
          exact ⟨by rw [HR.out]; rfl, B3.out⟩
        · have d1 : decide (1 ≤ n) = true := decide_eq_true (by omega)
          by_cases n2 : 1000000000000 < n
          · have HR := Aside0.mk (show rightF so sk se n p = false by rw [hR, decide_eq_true n2, Bool.or_true]; rfl)
            have d2 : decide (n ≤ 1000000000000) = false := decide_eq_false (by omega)
            clear hA hR hS hE n1 n2
            go_enter Tryd.func24, Tryd.ntmps24
            go_wp2_with fail
            rw [HB.out, HW.out]
            refine (refname_calls so _).mono ?_
            rintro e w1 ⟨rfl, b1⟩
            rw [HA.out]
            have D1 := Aside0.mk (blk_below h0.out b1)
            have B1 := Aside0.mk (below_step BW.out b1)
            clear b1
            have y0 : w1.cell? ⟨B, 0, none⟩ = some (.string so) := (blk_cell D1.out 0).trans rfl
            have y1 : w1.cell? ⟨B, 1, none⟩ = some (.int .i64 n) := (blk_cell D1.out 1).trans rfl
            have y2 : w1.cell? ⟨B, 2, none⟩ = some (.string sk) := (blk_cell D1.out 2).trans rfl
            have y3 : w1.cell? ⟨B, 3, none⟩ = some (.string se) := (blk_cell D1.out 3).trans rfl
            have y4 : w1.cell? ⟨B, 4, none⟩ = some (.int .i64 p) := (blk_cell D1.out 4).trans rfl
            go_wp2_with fail
            refine (refname_calls sk _).mono ?_
            rintro e w2 ⟨rfl, b2⟩
            rw [HSK.out]
            have D2 := Aside0.mk (blk_below D1.out b2)
            have B2 := Aside0.mk (below_step B1.out b2)
            clear b2 y0 y1 y2 y3 y4
            have y0 : w2.cell? ⟨B, 0, none⟩ = some (.string so) := (blk_cell D2.out 0).trans rfl
            have y1 : w2.cell? ⟨B, 1, none⟩ = some (.int .i64 n) := (blk_cell D2.out 1).trans rfl
            have y2 : w2.cell? ⟨B, 2, none⟩ = some (.string sk) := (blk_cell D2.out 2).trans rfl
            have y3 : w2.cell? ⟨B, 3, none⟩ = some (.string se) := (blk_cell D2.out 3).trans rfl
            have y4 : w2.cell? ⟨B, 4, none⟩ = some (.int .i64 p) := (blk_cell D2.out 4).trans rfl
            go_wp2_with fail
            refine (refname_calls se _).mono ?_
            rintro e w3 ⟨rfl, b3⟩
            rw [HSE.out]
            have B3 := Aside0.mk (below_step B2.out b3)
            have D3 := blk_below D2.out b3
            clear b3 y0 y1 y2 y3 y4
            have y0 : w3.cell? ⟨B, 0, none⟩ = some (.string so) := (blk_cell D3 0).trans rfl
            have y1 : w3.cell? ⟨B, 1, none⟩ = some (.int .i64 n) := (blk_cell D3 1).trans rfl
            have y2 : w3.cell? ⟨B, 2, none⟩ = some (.string sk) := (blk_cell D3 2).trans rfl
            have y3 : w3.cell? ⟨B, 3, none⟩ = some (.string se) := (blk_cell D3 3).trans rfl
            have y4 : w3.cell? ⟨B, 4, none⟩ = some (.int .i64 p) := (blk_cell D3 4).trans rfl
            clear D3
            go_wp2_with fail
            go_ret
            exact ⟨by rw [HR.out]; rfl, B3.out⟩
          · have d2 : decide (n ≤ 1000000000000) = true := decide_eq_true (by omega)
            by_cases p1 : p < 0
            · have HR := Aside0.mk (show rightF so sk se n p = false by rw [hR, decide_eq_true p1, Bool.true_or, Bool.not_true, Bool.and_false])
              have d3 : decide (0 ≤ p) = false := decide_eq_false (by omega)
              clear hA hR hS hE n1 n2 p1
              go_enter Tryd.func24, Tryd.ntmps24
              go_wp2_with fail
              rw [HB.out, HW.out]
              refine (refname_calls so _).mono ?_
              rintro e w1 ⟨rfl, b1⟩
              rw [HA.out]
              have D1 := Aside0.mk (blk_below h0.out b1)
              have B1 := Aside0.mk (below_step BW.out b1)
              clear b1
              have y0 : w1.cell? ⟨B, 0, none⟩ = some (.string so) := (blk_cell D1.out 0).trans rfl
              have y1 : w1.cell? ⟨B, 1, none⟩ = some (.int .i64 n) := (blk_cell D1.out 1).trans rfl
              have y2 : w1.cell? ⟨B, 2, none⟩ = some (.string sk) := (blk_cell D1.out 2).trans rfl
              have y3 : w1.cell? ⟨B, 3, none⟩ = some (.string se) := (blk_cell D1.out 3).trans rfl
              have y4 : w1.cell? ⟨B, 4, none⟩ = some (.int .i64 p) := (blk_cell D1.out 4).trans rfl
              go_wp2_with fail
              refine (refname_calls sk _).mono ?_
              rintro e w2 ⟨rfl, b2⟩
              rw [HSK.out]
              have D2 := Aside0.mk (blk_below D1.out b2)
              have B2 := Aside0.mk (below_step B1.out b2)
              clear b2 y0 y1 y2 y3 y4
              have y0 : w2.cell? ⟨B, 0, none⟩ = some (.string so) := (blk_cell D2.out 0).trans rfl
              have y1 : w2.cell? ⟨B, 1, none⟩ = some (.int .i64 n) := (blk_cell D2.out 1).trans rfl
              have y2 : w2.cell? ⟨B, 2, none⟩ = some (.string sk) := (blk_cell D2.out 2).trans rfl
              have y3 : w2.cell? ⟨B, 3, none⟩ = some (.string se) := (blk_cell D2.out 3).trans rfl
              have y4 : w2.cell? ⟨B, 4, none⟩ = some (.int .i64 p) := (blk_cell D2.out 4).trans rfl
              go_wp2_with fail
              refine (refname_calls se _).mono ?_
              rintro e w3 ⟨rfl, b3⟩
              rw [HSE.out]
              have B3 := Aside0.mk (below_step B2.out b3)
              have D3 := blk_below D2.out b3
              clear b3 y0 y1 y2 y3 y4
              have y0 : w3.cell? ⟨B, 0, none⟩ = some (.string so) := (blk_cell D3 0).trans rfl
              have y1 : w3.cell? ⟨B, 1, none⟩ = some (.int .i64 n) := (blk_cell D3 1).trans rfl
              have y2 : w3.cell? ⟨B, 2, none⟩ = some (.string sk) := (blk_cell D3 2).trans rfl
              have y3 : w3.cell? ⟨B, 3, none⟩ = some (.string se) := (blk_cell D3 3).trans rfl
              have y4 : w3.cell? ⟨B, 4, none⟩ = some (.int .i64 p) := (blk_cell D3 4).trans rfl
              clear D3
              go_wp2_with fail
              go_ret
              exact ⟨by rw [HR.out]; rfl, B3.out⟩
            · have d3 : decide (0 ≤ p) = true := decide_eq_true (by omega)
              have HR := Aside0.mk (show rightF so sk se n p = decide (p ≤ 1000000000000) by
                rw [hR, decide_eq_false n1, decide_eq_false n2, decide_eq_false p1, Bool.false_or, Bool.false_or, Bool.not_false, Bool.true_and]
                by_cases p2 : 1000000000000 < p
                · rw [decide_eq_true p2, decide_eq_false (by omega)]; rfl
                · rw [decide_eq_false p2, decide_eq_true (by omega)]; rfl)
              clear hA hR hS hE n1 n2 p1
              go_enter Tryd.func24, Tryd.ntmps24
              go_wp2_with fail
              rw [HB.out, HW.out]
              refine (refname_calls so _).mono ?_
              rintro e w1 ⟨rfl, b1⟩
              rw [HA.out]
              have D1 := Aside0.mk (blk_below h0.out b1)
              have B1 := Aside0.mk (below_step BW.out b1)
              clear b1
              have y0 : w1.cell? ⟨B, 0, none⟩ = some (.string so) := (blk_cell D1.out 0).trans rfl
              have y1 : w1.cell? ⟨B, 1, none⟩ = some (.int .i64 n) := (blk_cell D1.out 1).trans rfl
              have y2 : w1.cell? ⟨B, 2, none⟩ = some (.string sk) := (blk_cell D1.out 2).trans rfl
              have y3 : w1.cell? ⟨B, 3, none⟩ = some (.string se) := (blk_cell D1.out 3).trans rfl
              have y4 : w1.cell? ⟨B, 4, none⟩ = some (.int .i64 p) := (blk_cell D1.out 4).trans rfl
              go_wp2_with fail
              refine (refname_calls sk _).mono ?_
              rintro e w2 ⟨rfl, b2⟩
              rw [HSK.out]
              have D2 := Aside0.mk (blk_below D1.out b2)
              have B2 := Aside0.mk (below_step B1.out b2)
              clear b2 y0 y1 y2 y3 y4
              have y0 : w2.cell? ⟨B, 0, none⟩ = some (.string so) := (blk_cell D2.out 0).trans rfl
              have y1 : w2.cell? ⟨B, 1, none⟩ = some (.int .i64 n) := (blk_cell D2.out 1).trans rfl
              have y2 : w2.cell? ⟨B, 2, none⟩ = some (.string sk) := (blk_cell D2.out 2).trans rfl
              have y3 : w2.cell? ⟨B, 3, none⟩ = some (.string se) := (blk_cell D2.out 3).trans rfl
              have y4 : w2.cell? ⟨B, 4, none⟩ = some (.int .i64 p) := (blk_cell D2.out 4).trans rfl
              go_wp2_with fail
              refine (refname_calls se _).mono ?_
              rintro e w3 ⟨rfl, b3⟩
              rw [HSE.out]
              have B3 := Aside0.mk (below_step B2.out b3)
              have D3 := blk_below D2.out b3
              clear b3 y0 y1 y2 y3 y4
              have y0 : w3.cell? ⟨B, 0, none⟩ = some (.string so) := (blk_cell D3 0).trans rfl
              have y1 : w3.cell? ⟨B, 1, none⟩ = some (.int .i64 n) := (blk_cell D3 1).trans rfl
              have y2 : w3.cell? ⟨B, 2, none⟩ = some (.string sk) := (blk_cell D3 2).trans rfl
              have y3 : w3.cell? ⟨B, 3, none⟩ = some (.string se) := (blk_cell D3 3).trans rfl
              have y4 : w3.cell? ⟨B, 4, none⟩ = some (.int .i64 p) := (blk_cell D3 4).trans rfl
              clear D3
              go_wp2_with fail
              go_ret
              exact ⟨by rw [HR.out]; rfl, B3.out⟩
/-- A line's text, put together. -/
theorem line_bd (so sk se : ByteArray) (n p : Int) : (⟨(lineL so sk se n p).toArray⟩ : ByteArray) = so ++ (⟨#[32]⟩ : ByteArray) ++ bd (Lib.itoa n) ++ (⟨#[32]⟩ : ByteArray) ++ sk ++ (⟨#[32]⟩ : ByteArray) ++ se ++ (⟨#[32]⟩ : ByteArray) ++ priceT p := by
  apply tl_inj
  have a : ∀ x y : ByteArray, tl (x ++ y) = tl x ++ tl y := fun x y => by simp [tl, ByteArray.data_append]
  have m : ∀ l : List UInt8, tl (⟨l.toArray⟩ : ByteArray) = l := fun l => by simp [tl]
  rw [m]
  simp only [a, tl_bd]
  have e : tl (⟨#[32]⟩ : ByteArray) = [32] := rfl
  rw [e]
  unfold lineL lineT
  rw [List.map_cons, Lib.join_cons]
  simp only [List.map_cons, List.map_nil, Lib.joinTail, m, List.flatten_cons, List.flatten_nil]
  simp
set_option maxHeartbeats 4000000 in
set_option maxRecDepth 20000 in
theorem refencode_calls (so sk se : ByteArray) (n p : Int) (w : World) :
    Calls Tryd.prog 14 #[.agg #[.string so, .int .i64 n, .string sk, .string se, .int .i64 p]] w fun e w' =>
      e = (if rightF so sk se n p = true then .returned (.tuple #[.string ⟨(lineL so sk se n p).toArray⟩, .int .i64 0]) else .returned (.tuple #[.string ⟨#[]⟩, .int .i64 1])) ∧ Below w.heap.size w w' := by
  obtain ⟨B, hB⟩ : ∃ B, w.heap.size = B := ⟨_, rfl⟩
  obtain ⟨W, hW⟩ : ∃ W, w.alloc (Obj.cells #[Value.string so, Value.int IntKind.i64 n, Value.string sk, Value.string se, Value.int IntKind.i64 p] 24) = W := ⟨_, rfl⟩
  have h0 := Aside0.mk (show W.heap[B]? = some (.cells #[Value.string so, Value.int IntKind.i64 n, Value.string sk, Value.string se, Value.int IntKind.i64 p] 24 (0, 0)) by rw [← hW, ← hB]; exact blk_new w _)
  have BW := Aside0.mk (show Below w.heap.size w W by rw [← hW]; exact below_alloc (Below.refl _ _) _)
  have HB := Aside0.mk hB
  have HW := Aside0.mk hW
  clear hB hW
  cases hr : rightF so sk se n p with
  | false =>
    have HR := Aside0.mk hr
    clear hr
    go_enter Tryd.func14, Tryd.ntmps14
    go_wp2_with fail
    rw [HW.out]
    refine (refright_calls so sk se n p _).mono ?_
    rintro e w2 ⟨rfl, b2⟩
    rw [HR.out]
    have B2 := Aside0.mk (below_step BW.out b2)
    clear b2
    go_wp2_with fail
    go_ret2
    exact ⟨rfl, B2.out⟩
  | true =>
    have hsq : 1 ≤ n ∧ n ≤ 1000000000000 := by
      unfold rightF badSeq at hr
      simp at hr
      omega
    have hnm : nameB so = true ∧ nameB sk = true ∧ nameB se = true := by
      unfold rightF at hr
      simp only [Bool.and_eq_true] at hr
      exact ⟨hr.1.1.1.1, hr.1.1.2, hr.1.2⟩
    obtain ⟨u, rfl⟩ : ∃ u : Nat, n = (u : Int) := ⟨n.toNat, by omega⟩
    have HNU0 := fun w0 => number_calls u (by omega) w0
    have z0 := name_size hnm.1
    have z1 := name_size hnm.2.1
    have z2 := name_size hnm.2.2
    have zn : (bd (Lib.itoa (u : Int))).size ≤ 21 := by rw [Lib.itoa_nonneg]; exact digits_size u (by omega)
    have zp : (priceT p).size ≤ 30 := by
      have e := text_size p
      unfold priceT
      split
      · show (textL p).toArray.size ≤ 30
        rw [List.size_toArray]; exact e
      · decide
    have hL := line_bd so sk se (u : Int) p
    have HR := Aside0.mk hr
    obtain ⟨N, hN⟩ : ∃ N, bd (Lib.itoa (u : Int)) = N := ⟨_, rfl⟩
    rw [hN] at HNU0 zn hL
    have HNU := Aside0.mk HNU0
    have q1 : (9223372036854775807 < so.size + 1) = False := eq_false (by omega)
    have q2 : (9223372036854775807 < so.size + 1 + N.size) = False := eq_false (by omega)
    have q3 : (9223372036854775807 < so.size + 1 + N.size + 1) = False := eq_false (by omega)
    have q4 : (9223372036854775807 < so.size + 1 + N.size + 1 + sk.size) = False := eq_false (by omega)
    have q5 : (9223372036854775807 < so.size + 1 + N.size + 1 + sk.size + 1) = False := eq_false (by omega)
    have q6 : (9223372036854775807 < so.size + 1 + N.size + 1 + sk.size + 1 + se.size) = False := eq_false (by omega)
    have q7 : (9223372036854775807 < so.size + 1 + N.size + 1 + sk.size + 1 + se.size + 1) = False := eq_false (by omega)
    have ZZ := Aside0.mk (show so.size + 1 + N.size + 1 + sk.size + 1 + se.size + 1 ≤ 1000 by omega)
    clear HNU0 hr hsq hnm hN z0 z1 z2 zn
    by_cases hp : 0 < p
    · have e : priceT p = bd (textL p) := by unfold priceT; rw [if_pos hp]; rfl
      have HT := Aside0.mk (fun w0 => reftext_calls p w0)
      rw [← e] at HT
      obtain ⟨P, hP⟩ : ∃ P, priceT p = P := ⟨_, rfl⟩
      rw [hP] at hL HT zp
      have HL := Aside0.mk hL
      have dp : decide (0 < p) = true := decide_eq_true hp
      have q8 : (9223372036854775807 < so.size + 1 + N.size + 1 + sk.size + 1 + se.size + 1 + P.size) = False := eq_false (by have := ZZ.out; omega)
      clear hL e hP zp
      go_enter Tryd.func14, Tryd.ntmps14
      go_wp2_with fail
      rw [HW.out, HB.out]
      refine (refright_calls so sk se (u : Int) p _).mono ?_
      rintro e w2 ⟨rfl, b2⟩
      rw [HR.out]
      have D2 := Aside0.mk (blk_below h0.out b2)
      have B2 := Aside0.mk (below_step BW.out b2)
      have y4 : w2.cell? ⟨B, 4, none⟩ = some (.int .i64 p) := (blk_cell D2.out 4).trans rfl
      clear b2
      go_wp2_with fail
      refine (HT.out _).mono ?_
      rintro e w3 ⟨rfl, b3⟩
      have D3 := Aside0.mk (blk_below D2.out b3)
      have B3 := Aside0.mk (below_step B2.out b3)
      clear b3 y4 hp
      go_wp2_with fail
      refine start_ (n := 20) (S := fun w' => w'.cell? ⟨B, 0, none⟩ = some (.string so) ∧ w'.cell? ⟨B, 1, none⟩ = some (.int .i64 (u : Int)) ∧ w'.cell? ⟨B, 2, none⟩ = some (.string sk) ∧ w'.cell? ⟨B, 3, none⟩ = some (.string se) ∧ Below w.heap.size w w') (ds := []) #[false, false, false, false, false, false, false, false, false, false, false, false, false, false, false, false, false, false, false, false] (by kernel_rfl) rfl rfl ⟨(blk_cell D3.out 0).trans rfl, (blk_cell D3.out 1).trans rfl, (blk_cell D3.out 2).trans rfl, (blk_cell D3.out 3).trans rfl, (by apply below_drew1; exact B3.out)⟩ (fun hHeld => ?_)
      refine pure_ (i := 0) (N := some 16) (v := ?_) (a' := ?_) #[true, false, false, false, false, false, false, false, false, false, false, false, false, false, false, false, false, false, false, false] rfl rfl (by kernel_rfl) (fun _ _ _ h => h) (Or.inl ⟨by rfl, ?_⟩) ?_ ?_
      rotate_left
      · intro w'
        go_simp
        with_reducible rfl
      rotate_left
      · simp only [Act.put, List.setIfInBounds_toArray, List.set_cons_zero, List.set_cons_succ, i64_w, i32_w]
        rfl
      refine pure_ (i := 3) (N := some 19) (v := ?_) (a' := ?_) #[true, false, false, true, false, false, false, false, false, false, false, false, false, false, false, false, false, false, false, false] rfl rfl (by kernel_rfl) (fun _ _ _ h => h) (Or.inl ⟨by rfl, ?_⟩) ?_ ?_
      rotate_left
      · intro w'
        go_simp
        with_reducible rfl
      rotate_left
      · simp only [Act.put, List.setIfInBounds_toArray, List.set_cons_zero, List.set_cons_succ, i64_w, i32_w]
        rfl
      refine pure_ (i := 8) (N := some 24) (v := ?_) (a' := ?_) #[true, false, false, true, false, false, false, false, true, false, false, false, false, false, false, false, false, false, false, false] rfl rfl (by kernel_rfl) (fun _ _ _ h => h) (Or.inl ⟨by rfl, ?_⟩) ?_ ?_
      rotate_left
      · intro w'
        go_simp
        with_reducible rfl
      rotate_left
      · simp only [Act.put, List.setIfInBounds_toArray, List.set_cons_zero, List.set_cons_succ, i64_w, i32_w]
        rfl
      refine pure_ (i := 12) (N := some 28) (v := ?_) (a' := ?_) #[true, false, false, true, false, false, false, false, true, false, false, false, true, false, false, false, false, false, false, false] rfl rfl (by kernel_rfl) (fun _ _ _ h => h) (Or.inl ⟨by rfl, ?_⟩) ?_ ?_
      rotate_left
      · intro w'
        go_simp
        with_reducible rfl
      rotate_left
      · simp only [Act.put, List.setIfInBounds_toArray, List.set_cons_zero, List.set_cons_succ, i64_w, i32_w]
        rfl
      refine pure_ (i := 16) (N := some 32) (v := ?_) (a' := ?_) #[true, false, false, true, false, false, false, false, true, false, false, false, true, false, false, false, true, false, false, false] rfl rfl (by kernel_rfl) (fun _ _ _ h => h) (Or.inl ⟨by rfl, ?_⟩) ?_ ?_
      rotate_left
      · intro w'
        go_simp
        with_reducible rfl
      rotate_left
      · simp only [Act.put, List.setIfInBounds_toArray, List.set_cons_zero, List.set_cons_succ, i64_w, i32_w]
        rfl
      refine take_ (i := 1) (N := some 17) (v := ?_) (a' := ?_) #[true, true, false, true, false, false, false, false, true, false, false, false, true, false, false, false, true, false, false, false] rfl rfl (by kernel_rfl) (fun _ _ _ h => h) (Or.inl ⟨by rfl, ?_⟩) hHeld ?_ ?_
      rotate_left
      · rintro w' ⟨s0, s1, s2, s3, s4⟩
        go_simp
        with_reducible rfl
      rotate_left
      · simp only [Act.put, List.setIfInBounds_toArray, List.set_cons_zero, List.set_cons_succ, i64_w, i32_w]
        rfl
      refine pure_ (i := 2) (N := some 18) (v := ?_) (a' := ?_) #[true, true, true, true, false, false, false, false, true, false, false, false, true, false, false, false, true, false, false, false] rfl rfl (by kernel_rfl) (fun _ _ _ h => h) (Or.inl ⟨by rfl, ?_⟩) ?_ ?_
      rotate_left
      · intro w'
        go_simp
        with_reducible rfl
      rotate_left
      · simp only [Act.put, List.setIfInBounds_toArray, List.set_cons_zero, List.set_cons_succ, i64_w, i32_w]
        rfl
      refine take_ (i := 4) (N := some 20) (v := ?_) (a' := ?_) #[true, true, true, true, true, false, false, false, true, false, false, false, true, false, false, false, true, false, false, false] rfl rfl (by kernel_rfl) (fun _ _ _ h => h) (Or.inl ⟨by rfl, ?_⟩) hHeld ?_ ?_
      rotate_left
      · rintro w' ⟨s0, s1, s2, s3, s4⟩
        go_simp
        with_reducible rfl
      rotate_left
      · simp only [Act.put, List.setIfInBounds_toArray, List.set_cons_zero, List.set_cons_succ, i64_w, i32_w]
        rfl
      refine take_ (i := 9) (N := some 25) (v := ?_) (a' := ?_) #[true, true, true, true, true, false, false, false, true, true, false, false, true, false, false, false, true, false, false, false] rfl rfl (by kernel_rfl) (fun _ _ _ h => h) (Or.inl ⟨by rfl, ?_⟩) hHeld ?_ ?_
      rotate_left
      · rintro w' ⟨s0, s1, s2, s3, s4⟩
        go_simp
        with_reducible rfl
      rotate_left
      · simp only [Act.put, List.setIfInBounds_toArray, List.set_cons_zero, List.set_cons_succ, i64_w, i32_w]
        rfl
      refine take_ (i := 13) (N := some 29) (v := ?_) (a' := ?_) #[true, true, true, true, true, false, false, false, true, true, false, false, true, true, false, false, true, false, false, false] rfl rfl (by kernel_rfl) (fun _ _ _ h => h) (Or.inl ⟨by rfl, ?_⟩) hHeld ?_ ?_
      rotate_left
      · rintro w' ⟨s0, s1, s2, s3, s4⟩
        go_simp
        with_reducible rfl
      rotate_left
      · simp only [Act.put, List.setIfInBounds_toArray, List.set_cons_zero, List.set_cons_succ, i64_w, i32_w]
        rfl
      refine one_ (i := 5) (N := some 21) #[true, true, true, true, true, true, false, false, true, true, false, false, true, true, false, false, true, false, false, false] rfl rfl (by kernel_rfl) (by decide) (fun K hK => ?_)
      refine goes_ Tryd.func26 (by kernel_rfl) rfl #[.int .i64 (u : Int)] (by rfl) rfl rfl (by simp only [List.map_toArray, List.map_cons, List.map_nil]; rfl) ?_
      with_reducible refine (HNU.out _).mono ?_
      rintro e w6 ⟨rfl, hb3⟩
      refine ⟨_, rfl, ?_⟩
      refine hK.out _ _ ⟨(hb3.cell (cell_lt hHeld.1)).trans hHeld.1, (hb3.cell (cell_lt hHeld.2.1)).trans hHeld.2.1, (hb3.cell (cell_lt hHeld.2.2.1)).trans hHeld.2.2.1, (hb3.cell (cell_lt hHeld.2.2.2.1)).trans hHeld.2.2.2.1, below_step hHeld.2.2.2.2 hb3⟩ (fun hHeld => ?_)
      clear hK K
      refine norm_ (a' := ?_) ?_ ?_
      rotate_left
      · show Act.put _ (some 21) _ = _
        simp only [Act.put, List.setIfInBounds_toArray, List.set_cons_zero, List.set_cons_succ, i64_w, i32_w]
        rfl
      refine pure_ (i := 6) (N := some 22) (v := ?_) (a' := ?_) #[true, true, true, true, true, true, true, false, true, true, false, false, true, true, false, false, true, false, false, false] rfl rfl (by kernel_rfl) (fun _ _ _ h => h) (Or.inl ⟨by rfl, ?_⟩) ?_ ?_
      rotate_left
      · intro w'
        go_simp
        with_reducible rfl
      rotate_left
      · simp only [Act.put, List.setIfInBounds_toArray, List.set_cons_zero, List.set_cons_succ, i64_w, i32_w]
        rfl
      refine pure_ (i := 7) (N := some 23) (v := ?_) (a' := ?_) #[true, true, true, true, true, true, true, true, true, true, false, false, true, true, false, false, true, false, false, false] rfl rfl (by kernel_rfl) (fun _ _ _ h => h) (Or.inl ⟨by rfl, ?_⟩) ?_ ?_
      rotate_left
      · intro w'
        go_simp
        with_reducible rfl
      rotate_left
      · simp only [Act.put, List.setIfInBounds_toArray, List.set_cons_zero, List.set_cons_succ, i64_w, i32_w]
        rfl
      refine pure_ (i := 10) (N := some 26) (v := ?_) (a' := ?_) #[true, true, true, true, true, true, true, true, true, true, true, false, true, true, false, false, true, false, false, false] rfl rfl (by kernel_rfl) (fun _ _ _ h => h) (Or.inl ⟨by rfl, ?_⟩) ?_ ?_
      rotate_left
      · intro w'
        go_simp
        with_reducible rfl
      rotate_left
      · simp only [Act.put, List.setIfInBounds_toArray, List.set_cons_zero, List.set_cons_succ, i64_w, i32_w]
        rfl
      refine pure_ (i := 11) (N := some 27) (v := ?_) (a' := ?_) #[true, true, true, true, true, true, true, true, true, true, true, true, true, true, false, false, true, false, false, false] rfl rfl (by kernel_rfl) (fun _ _ _ h => h) (Or.inl ⟨by rfl, ?_⟩) ?_ ?_
      rotate_left
      · intro w'
        go_simp
        with_reducible rfl
      rotate_left
      · simp only [Act.put, List.setIfInBounds_toArray, List.set_cons_zero, List.set_cons_succ, i64_w, i32_w]
        rfl
      refine pure_ (i := 14) (N := some 30) (v := ?_) (a' := ?_) #[true, true, true, true, true, true, true, true, true, true, true, true, true, true, true, false, true, false, false, false] rfl rfl (by kernel_rfl) (fun _ _ _ h => h) (Or.inl ⟨by rfl, ?_⟩) ?_ ?_
      rotate_left
      · intro w'
        go_simp
        with_reducible rfl
      rotate_left
      · simp only [Act.put, List.setIfInBounds_toArray, List.set_cons_zero, List.set_cons_succ, i64_w, i32_w]
        rfl
      refine pure_ (i := 15) (N := some 31) (v := ?_) (a' := ?_) #[true, true, true, true, true, true, true, true, true, true, true, true, true, true, true, true, true, false, false, false] rfl rfl (by kernel_rfl) (fun _ _ _ h => h) (Or.inl ⟨by rfl, ?_⟩) ?_ ?_
      rotate_left
      · intro w'
        go_simp
        with_reducible rfl
      rotate_left
      · simp only [Act.put, List.setIfInBounds_toArray, List.set_cons_zero, List.set_cons_succ, i64_w, i32_w]
        rfl
      refine pure_ (i := 17) (N := some 33) (v := ?_) (a' := ?_) #[true, true, true, true, true, true, true, true, true, true, true, true, true, true, true, true, true, true, false, false] rfl rfl (by kernel_rfl) (fun _ _ _ h => h) (Or.inl ⟨by rfl, ?_⟩) ?_ ?_
      rotate_left
      · intro w'
        go_simp
        with_reducible rfl
      rotate_left
      · simp only [Act.put, List.setIfInBounds_toArray, List.set_cons_zero, List.set_cons_succ, i64_w, i32_w]
        rfl
      refine pure_ (i := 18) (N := some 2) (v := ?_) (a' := ?_) #[true, true, true, true, true, true, true, true, true, true, true, true, true, true, true, true, true, true, true, false] rfl rfl (by kernel_rfl) (fun _ _ _ h => h) (Or.inl ⟨by rfl, ?_⟩) ?_ ?_
      rotate_left
      · intro w'
        go_simp
        with_reducible rfl
      rotate_left
      · simp only [Act.put, List.setIfInBounds_toArray, List.set_cons_zero, List.set_cons_succ, i64_w, i32_w]
        rfl
      refine pure_ (i := 19) (N := some 3) (v := ?_) (a' := ?_) #[true, true, true, true, true, true, true, true, true, true, true, true, true, true, true, true, true, true, true, true] rfl rfl (by kernel_rfl) (fun _ _ _ h => h) (Or.inl ⟨by rfl, ?_⟩) ?_ ?_
      rotate_left
      · intro w'
        go_simp
        with_reducible rfl
      rotate_left
      · simp only [Act.put, List.setIfInBounds_toArray, List.set_cons_zero, List.set_cons_succ, i64_w, i32_w]
        rfl
      refine done_ (by kernel_rfl) ?_

      have BZ := Aside0.mk hHeld.2.2.2.2
      clear hHeld
      go_wp2_with fail
      go_ret2
      exact ⟨by rw [HL.out]; rfl, BZ.out⟩
    · have e : priceT p = ⟨#[103, 111, 110, 101]⟩ := by unfold priceT; rw [if_neg hp]
      rw [e] at hL
      have HL := Aside0.mk hL
      have dp : decide (0 < p) = false := decide_eq_false hp
      have q8 : (9223372036854775807 < so.size + 1 + N.size + 1 + sk.size + 1 + se.size + 1 + 4) = False := eq_false (by have := ZZ.out; omega)
      clear hL e zp hp
      go_enter Tryd.func14, Tryd.ntmps14
      go_wp2_with fail
      rw [HW.out, HB.out]
      refine (refright_calls so sk se (u : Int) p _).mono ?_
      rintro e w2 ⟨rfl, b2⟩
      rw [HR.out]
      have D2 := Aside0.mk (blk_below h0.out b2)
      have B2 := Aside0.mk (below_step BW.out b2)
      have y4 : w2.cell? ⟨B, 4, none⟩ = some (.int .i64 p) := (blk_cell D2.out 4).trans rfl
      clear b2
      go_wp2_with fail
      refine start_ (n := 20) (S := fun w' => w'.cell? ⟨B, 0, none⟩ = some (.string so) ∧ w'.cell? ⟨B, 1, none⟩ = some (.int .i64 (u : Int)) ∧ w'.cell? ⟨B, 2, none⟩ = some (.string sk) ∧ w'.cell? ⟨B, 3, none⟩ = some (.string se) ∧ Below w.heap.size w w') (ds := []) #[false, false, false, false, false, false, false, false, false, false, false, false, false, false, false, false, false, false, false, false] (by kernel_rfl) rfl rfl ⟨(blk_cell D2.out 0).trans rfl, (blk_cell D2.out 1).trans rfl, (blk_cell D2.out 2).trans rfl, (blk_cell D2.out 3).trans rfl, (by apply below_drew1; exact B2.out)⟩ (fun hHeld => ?_)
      refine pure_ (i := 0) (N := some 16) (v := ?_) (a' := ?_) #[true, false, false, false, false, false, false, false, false, false, false, false, false, false, false, false, false, false, false, false] rfl rfl (by kernel_rfl) (fun _ _ _ h => h) (Or.inl ⟨by rfl, ?_⟩) ?_ ?_
      rotate_left
      · intro w'
        go_simp
        with_reducible rfl
      rotate_left
      · simp only [Act.put, List.setIfInBounds_toArray, List.set_cons_zero, List.set_cons_succ, i64_w, i32_w]
        rfl
      refine pure_ (i := 3) (N := some 19) (v := ?_) (a' := ?_) #[true, false, false, true, false, false, false, false, false, false, false, false, false, false, false, false, false, false, false, false] rfl rfl (by kernel_rfl) (fun _ _ _ h => h) (Or.inl ⟨by rfl, ?_⟩) ?_ ?_
      rotate_left
      · intro w'
        go_simp
        with_reducible rfl
      rotate_left
      · simp only [Act.put, List.setIfInBounds_toArray, List.set_cons_zero, List.set_cons_succ, i64_w, i32_w]
        rfl
      refine pure_ (i := 8) (N := some 24) (v := ?_) (a' := ?_) #[true, false, false, true, false, false, false, false, true, false, false, false, false, false, false, false, false, false, false, false] rfl rfl (by kernel_rfl) (fun _ _ _ h => h) (Or.inl ⟨by rfl, ?_⟩) ?_ ?_
      rotate_left
      · intro w'
        go_simp
        with_reducible rfl
      rotate_left
      · simp only [Act.put, List.setIfInBounds_toArray, List.set_cons_zero, List.set_cons_succ, i64_w, i32_w]
        rfl
      refine pure_ (i := 12) (N := some 28) (v := ?_) (a' := ?_) #[true, false, false, true, false, false, false, false, true, false, false, false, true, false, false, false, false, false, false, false] rfl rfl (by kernel_rfl) (fun _ _ _ h => h) (Or.inl ⟨by rfl, ?_⟩) ?_ ?_
      rotate_left
      · intro w'
        go_simp
        with_reducible rfl
      rotate_left
      · simp only [Act.put, List.setIfInBounds_toArray, List.set_cons_zero, List.set_cons_succ, i64_w, i32_w]
        rfl
      refine pure_ (i := 16) (N := some 32) (v := ?_) (a' := ?_) #[true, false, false, true, false, false, false, false, true, false, false, false, true, false, false, false, true, false, false, false] rfl rfl (by kernel_rfl) (fun _ _ _ h => h) (Or.inl ⟨by rfl, ?_⟩) ?_ ?_
      rotate_left
      · intro w'
        go_simp
        with_reducible rfl
      rotate_left
      · simp only [Act.put, List.setIfInBounds_toArray, List.set_cons_zero, List.set_cons_succ, i64_w, i32_w]
        rfl
      refine take_ (i := 1) (N := some 17) (v := ?_) (a' := ?_) #[true, true, false, true, false, false, false, false, true, false, false, false, true, false, false, false, true, false, false, false] rfl rfl (by kernel_rfl) (fun _ _ _ h => h) (Or.inl ⟨by rfl, ?_⟩) hHeld ?_ ?_
      rotate_left
      · rintro w' ⟨s0, s1, s2, s3, s4⟩
        go_simp
        with_reducible rfl
      rotate_left
      · simp only [Act.put, List.setIfInBounds_toArray, List.set_cons_zero, List.set_cons_succ, i64_w, i32_w]
        rfl
      refine pure_ (i := 2) (N := some 18) (v := ?_) (a' := ?_) #[true, true, true, true, false, false, false, false, true, false, false, false, true, false, false, false, true, false, false, false] rfl rfl (by kernel_rfl) (fun _ _ _ h => h) (Or.inl ⟨by rfl, ?_⟩) ?_ ?_
      rotate_left
      · intro w'
        go_simp
        with_reducible rfl
      rotate_left
      · simp only [Act.put, List.setIfInBounds_toArray, List.set_cons_zero, List.set_cons_succ, i64_w, i32_w]
        rfl
      refine take_ (i := 4) (N := some 20) (v := ?_) (a' := ?_) #[true, true, true, true, true, false, false, false, true, false, false, false, true, false, false, false, true, false, false, false] rfl rfl (by kernel_rfl) (fun _ _ _ h => h) (Or.inl ⟨by rfl, ?_⟩) hHeld ?_ ?_
      rotate_left
      · rintro w' ⟨s0, s1, s2, s3, s4⟩
        go_simp
        with_reducible rfl
      rotate_left
      · simp only [Act.put, List.setIfInBounds_toArray, List.set_cons_zero, List.set_cons_succ, i64_w, i32_w]
        rfl
      refine take_ (i := 9) (N := some 25) (v := ?_) (a' := ?_) #[true, true, true, true, true, false, false, false, true, true, false, false, true, false, false, false, true, false, false, false] rfl rfl (by kernel_rfl) (fun _ _ _ h => h) (Or.inl ⟨by rfl, ?_⟩) hHeld ?_ ?_
      rotate_left
      · rintro w' ⟨s0, s1, s2, s3, s4⟩
        go_simp
        with_reducible rfl
      rotate_left
      · simp only [Act.put, List.setIfInBounds_toArray, List.set_cons_zero, List.set_cons_succ, i64_w, i32_w]
        rfl
      refine take_ (i := 13) (N := some 29) (v := ?_) (a' := ?_) #[true, true, true, true, true, false, false, false, true, true, false, false, true, true, false, false, true, false, false, false] rfl rfl (by kernel_rfl) (fun _ _ _ h => h) (Or.inl ⟨by rfl, ?_⟩) hHeld ?_ ?_
      rotate_left
      · rintro w' ⟨s0, s1, s2, s3, s4⟩
        go_simp
        with_reducible rfl
      rotate_left
      · simp only [Act.put, List.setIfInBounds_toArray, List.set_cons_zero, List.set_cons_succ, i64_w, i32_w]
        rfl
      refine one_ (i := 5) (N := some 21) #[true, true, true, true, true, true, false, false, true, true, false, false, true, true, false, false, true, false, false, false] rfl rfl (by kernel_rfl) (by decide) (fun K hK => ?_)
      refine goes_ Tryd.func26 (by kernel_rfl) rfl #[.int .i64 (u : Int)] (by rfl) rfl rfl (by simp only [List.map_toArray, List.map_cons, List.map_nil]; rfl) ?_
      with_reducible refine (HNU.out _).mono ?_
      rintro e w6 ⟨rfl, hb3⟩
      refine ⟨_, rfl, ?_⟩
      refine hK.out _ _ ⟨(hb3.cell (cell_lt hHeld.1)).trans hHeld.1, (hb3.cell (cell_lt hHeld.2.1)).trans hHeld.2.1, (hb3.cell (cell_lt hHeld.2.2.1)).trans hHeld.2.2.1, (hb3.cell (cell_lt hHeld.2.2.2.1)).trans hHeld.2.2.2.1, below_step hHeld.2.2.2.2 hb3⟩ (fun hHeld => ?_)
      clear hK K
      refine norm_ (a' := ?_) ?_ ?_
      rotate_left
      · show Act.put _ (some 21) _ = _
        simp only [Act.put, List.setIfInBounds_toArray, List.set_cons_zero, List.set_cons_succ, i64_w, i32_w]
        rfl
      refine pure_ (i := 6) (N := some 22) (v := ?_) (a' := ?_) #[true, true, true, true, true, true, true, false, true, true, false, false, true, true, false, false, true, false, false, false] rfl rfl (by kernel_rfl) (fun _ _ _ h => h) (Or.inl ⟨by rfl, ?_⟩) ?_ ?_
      rotate_left
      · intro w'
        go_simp
        with_reducible rfl
      rotate_left
      · simp only [Act.put, List.setIfInBounds_toArray, List.set_cons_zero, List.set_cons_succ, i64_w, i32_w]
        rfl
      refine pure_ (i := 7) (N := some 23) (v := ?_) (a' := ?_) #[true, true, true, true, true, true, true, true, true, true, false, false, true, true, false, false, true, false, false, false] rfl rfl (by kernel_rfl) (fun _ _ _ h => h) (Or.inl ⟨by rfl, ?_⟩) ?_ ?_
      rotate_left
      · intro w'
        go_simp
        with_reducible rfl
      rotate_left
      · simp only [Act.put, List.setIfInBounds_toArray, List.set_cons_zero, List.set_cons_succ, i64_w, i32_w]
        rfl
      refine pure_ (i := 10) (N := some 26) (v := ?_) (a' := ?_) #[true, true, true, true, true, true, true, true, true, true, true, false, true, true, false, false, true, false, false, false] rfl rfl (by kernel_rfl) (fun _ _ _ h => h) (Or.inl ⟨by rfl, ?_⟩) ?_ ?_
      rotate_left
      · intro w'
        go_simp
        with_reducible rfl
      rotate_left
      · simp only [Act.put, List.setIfInBounds_toArray, List.set_cons_zero, List.set_cons_succ, i64_w, i32_w]
        rfl
      refine pure_ (i := 11) (N := some 27) (v := ?_) (a' := ?_) #[true, true, true, true, true, true, true, true, true, true, true, true, true, true, false, false, true, false, false, false] rfl rfl (by kernel_rfl) (fun _ _ _ h => h) (Or.inl ⟨by rfl, ?_⟩) ?_ ?_
      rotate_left
      · intro w'
        go_simp
        with_reducible rfl
      rotate_left
      · simp only [Act.put, List.setIfInBounds_toArray, List.set_cons_zero, List.set_cons_succ, i64_w, i32_w]
        rfl
      refine pure_ (i := 14) (N := some 30) (v := ?_) (a' := ?_) #[true, true, true, true, true, true, true, true, true, true, true, true, true, true, true, false, true, false, false, false] rfl rfl (by kernel_rfl) (fun _ _ _ h => h) (Or.inl ⟨by rfl, ?_⟩) ?_ ?_
      rotate_left
      · intro w'
        go_simp
        with_reducible rfl
      rotate_left
      · simp only [Act.put, List.setIfInBounds_toArray, List.set_cons_zero, List.set_cons_succ, i64_w, i32_w]
        rfl
      refine pure_ (i := 15) (N := some 31) (v := ?_) (a' := ?_) #[true, true, true, true, true, true, true, true, true, true, true, true, true, true, true, true, true, false, false, false] rfl rfl (by kernel_rfl) (fun _ _ _ h => h) (Or.inl ⟨by rfl, ?_⟩) ?_ ?_
      rotate_left
      · intro w'
        go_simp
        with_reducible rfl
      rotate_left
      · simp only [Act.put, List.setIfInBounds_toArray, List.set_cons_zero, List.set_cons_succ, i64_w, i32_w]
        rfl
      refine pure_ (i := 17) (N := some 33) (v := ?_) (a' := ?_) #[true, true, true, true, true, true, true, true, true, true, true, true, true, true, true, true, true, true, false, false] rfl rfl (by kernel_rfl) (fun _ _ _ h => h) (Or.inl ⟨by rfl, ?_⟩) ?_ ?_
      rotate_left
      · intro w'
        go_simp
        with_reducible rfl
      rotate_left
      · simp only [Act.put, List.setIfInBounds_toArray, List.set_cons_zero, List.set_cons_succ, i64_w, i32_w]
        rfl
      refine pure_ (i := 18) (N := some 2) (v := ?_) (a' := ?_) #[true, true, true, true, true, true, true, true, true, true, true, true, true, true, true, true, true, true, true, false] rfl rfl (by kernel_rfl) (fun _ _ _ h => h) (Or.inl ⟨by rfl, ?_⟩) ?_ ?_
      rotate_left
      · intro w'
        go_simp
        with_reducible rfl
      rotate_left
      · simp only [Act.put, List.setIfInBounds_toArray, List.set_cons_zero, List.set_cons_succ, i64_w, i32_w]
        rfl
      refine pure_ (i := 19) (N := some 3) (v := ?_) (a' := ?_) #[true, true, true, true, true, true, true, true, true, true, true, true, true, true, true, true, true, true, true, true] rfl rfl (by kernel_rfl) (fun _ _ _ h => h) (Or.inl ⟨by rfl, ?_⟩) ?_ ?_
      rotate_left
      · intro w'
        go_simp
        with_reducible rfl
      rotate_left
      · simp only [Act.put, List.setIfInBounds_toArray, List.set_cons_zero, List.set_cons_succ, i64_w, i32_w]
        rfl
      refine done_ (by kernel_rfl) ?_

      have BZ := Aside0.mk hHeld.2.2.2.2
      clear hHeld
      go_wp2_with fail
      go_ret2
      exact ⟨by rw [HL.out]; rfl, BZ.out⟩
end Go.Proofs.YtbecemdehelooaaDoor.FeedRe
