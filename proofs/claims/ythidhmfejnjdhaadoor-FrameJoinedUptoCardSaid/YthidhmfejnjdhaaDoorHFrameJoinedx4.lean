-- Written by a program of ours (hprint.py) for this claim, over the print of the kit.
import Derived.Test.YthidhmfejnjdhaaDoorHFrameJoinedx0
import Derived.Test.YthidhmfejnjdhaaDoorHFrameJoinedx1
import Derived.Test.YthidhmfejnjdhaaDoorHFrameJoinedx2
import Derived.Test.YthidhmfejnjdhaaDoorHFrameJoinedx3
namespace Go.Proofs.YthidhmfejnjdhaaDoor.HFrameJoined
open Go.RowKit Go.Proofs.YthidhmfejnjdhaaDoorW.PrintWords Go.Proofs.YthidhmfejnjdhaaDoorW.PrintLast Go.Proofs.YthidhmfejnjdhaaDoorW.PrintMore Go.Proofs.YthidhmfejnjdhaaDoor.FrameG
attribute [local go_sem] max2_int min2_int max_two min_two max_three min_three max_four min_four   -- for this text's walks alone
set_option linter.unusedVariables false
set_option linter.unusedSimpArgs false

/-! ### hagglerlaw04_FrameJoined: function 8 -/
noncomputable def hagglerlaw04_FrameJoined.f (k : Nat) (l0 : List (List Int)) (l1 : List ByteArray) (a2 : ByteArray) : Option (Bool) := (hagglerlaw04_awake.f).bind fun t154 => ((hagglerlaw04_Records.f k l0 l1).bind fun t155 => ((hagglerlaw04_frames.f k t155).bind fun bt158 => ((frame_Scan.f a2).bind fun bt160 => (if bt158.1.size + a2.size ≤ 9223372036854775807 then ((frame_Scan.f (bt158.1 ++ a2)).bind fun bt165 => (if t154 = true then (if bt158.2 = true then (if bt160.2.2 = bt165.2.2 then (if bt165.2.1 = (wrap64 ((bt158.1.size : Int) + bt160.2.1)) then (if (bt165.1.length : Int) = (wrap64 ((t155.length : Int) + (bt160.1.length : Int))) then (if 0 ≤ (mn (t155.length : Int) (bt165.1.length : Int)) then (if (mn (t155.length : Int) (bt165.1.length : Int)) ≤ (bt165.1.length : Int) then ((hagglerref04_Same.f k (bt165.1.take ((mn (t155.length : Int) (bt165.1.length : Int)) : Int).toNat) t155).bind fun t174 => (if t174 = true then ((hagglerref04_Same.f k (bt165.1.drop ((mn (t155.length : Int) (bt165.1.length : Int)) : Int).toNat) bt160.1).bind fun t179 => (some t179)) else (some false))) else (none)) else (none)) else (some false)) else (some false)) else (some false)) else (some false)) else (some false))) else (none)))))
theorem hagglerlaw04_FrameJoined.mono : ∀ a0 a1 a2 k, LeO (hagglerlaw04_FrameJoined.f k a0 a1 a2) (hagglerlaw04_FrameJoined.f (k + 1) a0 a1 a2) := by
  intro a0 a1 a2 k
  unfold hagglerlaw04_FrameJoined.f
  repeat' first
      | (with_reducible exact hagglerlaw04_Records.mono _ _ _)
      | (with_reducible exact hagglerlaw04_frames.mono _ _)
      | (with_reducible exact hagglerref04_Same.mono _ _ _)
      | (with_reducible exact LeO.refl _)
      | (with_reducible exact LeO.none _)
      | (with_reducible refine LeO.ite ?_ ?_)
      | (with_reducible refine LeO.bind ?_ (fun _ => ?_))
      | exact hagglerlaw04_Records.mono _ _ _
      | exact hagglerlaw04_frames.mono _ _
      | exact hagglerref04_Same.mono _ _ _
      | exact LeO.none _
      | refine LeO.ite ?_ ?_
      | refine LeO.bind ?_ (fun _ => ?_)
set_option maxHeartbeats 8000000 in
set_option maxRecDepth 100000 in
theorem hagglerlaw04_FrameJoined.calls (k : Nat) (A0 : Option Addr) (c0 : Nat) (l0 : List (List Int)) (A1 : Option Addr) (c1 : Nat) (l1 : List ByteArray) (a2 : ByteArray) (r : Bool) (w : World) (hr0 : Kd.C (Kd.slice 3 (Kd.int .i64)) w A0 l0.length l0) (hc0 : l0.length ≤ c0) (hr1 : Kd.C Kd.string w A1 l1.length l1) (hc1 : l1.length ≤ c1) (h : hagglerlaw04_FrameJoined.f k l0 l1 a2 = some r) (hr : Aside0 (r = true)) (hG : G w) :
    Calls Tryd.prog 8 #[.slice A0 l0.length c0, .slice A1 l1.length c1, .string a2] w fun e w' => e = .returned (.bool r) ∧ Below w.heap.size w w' := by
  have HG := Aside0.mk hG
  clear hG
  have HR0 := Aside0.mk hr0
  have HC0 := Aside0.mk hc0
  clear hr0 hc0
  have HR1 := Aside0.mk hr1
  have HC1 := Aside0.mk hc1
  clear hr1 hc1
  have HB := Aside0.mk (Below.refl w.heap.size w)
  have H : ((hagglerlaw04_awake.f).bind fun t154 => ((hagglerlaw04_Records.f k l0 l1).bind fun t155 => ((hagglerlaw04_frames.f k t155).bind fun bt158 => ((frame_Scan.f a2).bind fun bt160 => (if bt158.1.size + a2.size ≤ 9223372036854775807 then ((frame_Scan.f (bt158.1 ++ a2)).bind fun bt165 => (if t154 = true then (if bt158.2 = true then (if bt160.2.2 = bt165.2.2 then (if bt165.2.1 = (wrap64 ((bt158.1.size : Int) + bt160.2.1)) then (if (bt165.1.length : Int) = (wrap64 ((t155.length : Int) + (bt160.1.length : Int))) then (if 0 ≤ (mn (t155.length : Int) (bt165.1.length : Int)) then (if (mn (t155.length : Int) (bt165.1.length : Int)) ≤ (bt165.1.length : Int) then ((hagglerref04_Same.f k (bt165.1.take ((mn (t155.length : Int) (bt165.1.length : Int)) : Int).toNat) t155).bind fun t174 => (if t174 = true then ((hagglerref04_Same.f k (bt165.1.drop ((mn (t155.length : Int) (bt165.1.length : Int)) : Int).toNat) bt160.1).bind fun t179 => (some t179)) else (some false))) else (none)) else (none)) else (some false)) else (some false)) else (some false)) else (some false)) else (some false))) else (none)))))) = some r := h
  clear h
  replace H := Option.bind_eq_some_iff.mp H
  obtain ⟨t154, A40, H⟩ := H
  replace H : ((hagglerlaw04_Records.f k l0 l1).bind fun t155 => ((hagglerlaw04_frames.f k t155).bind fun bt158 => ((frame_Scan.f a2).bind fun bt160 => (if bt158.1.size + a2.size ≤ 9223372036854775807 then ((frame_Scan.f (bt158.1 ++ a2)).bind fun bt165 => (if t154 = true then (if bt158.2 = true then (if bt160.2.2 = bt165.2.2 then (if bt165.2.1 = (wrap64 ((bt158.1.size : Int) + bt160.2.1)) then (if (bt165.1.length : Int) = (wrap64 ((t155.length : Int) + (bt160.1.length : Int))) then (if 0 ≤ (mn (t155.length : Int) (bt165.1.length : Int)) then (if (mn (t155.length : Int) (bt165.1.length : Int)) ≤ (bt165.1.length : Int) then ((hagglerref04_Same.f k (bt165.1.take ((mn (t155.length : Int) (bt165.1.length : Int)) : Int).toNat) t155).bind fun t174 => (if t174 = true then ((hagglerref04_Same.f k (bt165.1.drop ((mn (t155.length : Int) (bt165.1.length : Int)) : Int).toNat) bt160.1).bind fun t179 => (some t179)) else (some false))) else (none)) else (none)) else (some false)) else (some false)) else (some false)) else (some false)) else (some false))) else (none))))) = some r := H
  have A4 := Aside0.mk A40
  clear A40
  replace H := Option.bind_eq_some_iff.mp H
  obtain ⟨t155, A50, H⟩ := H
  replace H : ((hagglerlaw04_frames.f k t155).bind fun bt158 => ((frame_Scan.f a2).bind fun bt160 => (if bt158.1.size + a2.size ≤ 9223372036854775807 then ((frame_Scan.f (bt158.1 ++ a2)).bind fun bt165 => (if t154 = true then (if bt158.2 = true then (if bt160.2.2 = bt165.2.2 then (if bt165.2.1 = (wrap64 ((bt158.1.size : Int) + bt160.2.1)) then (if (bt165.1.length : Int) = (wrap64 ((t155.length : Int) + (bt160.1.length : Int))) then (if 0 ≤ (mn (t155.length : Int) (bt165.1.length : Int)) then (if (mn (t155.length : Int) (bt165.1.length : Int)) ≤ (bt165.1.length : Int) then ((hagglerref04_Same.f k (bt165.1.take ((mn (t155.length : Int) (bt165.1.length : Int)) : Int).toNat) t155).bind fun t174 => (if t174 = true then ((hagglerref04_Same.f k (bt165.1.drop ((mn (t155.length : Int) (bt165.1.length : Int)) : Int).toNat) bt160.1).bind fun t179 => (some t179)) else (some false))) else (none)) else (none)) else (some false)) else (some false)) else (some false)) else (some false)) else (some false))) else (none)))) = some r := H
  have A5 := Aside0.mk A50
  clear A50
  replace H := Option.bind_eq_some_iff.mp H
  obtain ⟨⟨t158, t159⟩, A60, H⟩ := H
  replace H : ((frame_Scan.f a2).bind fun bt160 => (if t158.size + a2.size ≤ 9223372036854775807 then ((frame_Scan.f (t158 ++ a2)).bind fun bt165 => (if t154 = true then (if t159 = true then (if bt160.2.2 = bt165.2.2 then (if bt165.2.1 = (wrap64 ((t158.size : Int) + bt160.2.1)) then (if (bt165.1.length : Int) = (wrap64 ((t155.length : Int) + (bt160.1.length : Int))) then (if 0 ≤ (mn (t155.length : Int) (bt165.1.length : Int)) then (if (mn (t155.length : Int) (bt165.1.length : Int)) ≤ (bt165.1.length : Int) then ((hagglerref04_Same.f k (bt165.1.take ((mn (t155.length : Int) (bt165.1.length : Int)) : Int).toNat) t155).bind fun t174 => (if t174 = true then ((hagglerref04_Same.f k (bt165.1.drop ((mn (t155.length : Int) (bt165.1.length : Int)) : Int).toNat) bt160.1).bind fun t179 => (some t179)) else (some false))) else (none)) else (none)) else (some false)) else (some false)) else (some false)) else (some false)) else (some false))) else (none))) = some r := H
  have A6 := Aside0.mk A60
  clear A60
  replace H := Option.bind_eq_some_iff.mp H
  obtain ⟨⟨t160, t161, t162⟩, A70, H⟩ := H
  replace H : (if t158.size + a2.size ≤ 9223372036854775807 then ((frame_Scan.f (t158 ++ a2)).bind fun bt165 => (if t154 = true then (if t159 = true then (if t162 = bt165.2.2 then (if bt165.2.1 = (wrap64 ((t158.size : Int) + t161)) then (if (bt165.1.length : Int) = (wrap64 ((t155.length : Int) + (t160.length : Int))) then (if 0 ≤ (mn (t155.length : Int) (bt165.1.length : Int)) then (if (mn (t155.length : Int) (bt165.1.length : Int)) ≤ (bt165.1.length : Int) then ((hagglerref04_Same.f k (bt165.1.take ((mn (t155.length : Int) (bt165.1.length : Int)) : Int).toNat) t155).bind fun t174 => (if t174 = true then ((hagglerref04_Same.f k (bt165.1.drop ((mn (t155.length : Int) (bt165.1.length : Int)) : Int).toNat) t160).bind fun t179 => (some t179)) else (some false))) else (none)) else (none)) else (some false)) else (some false)) else (some false)) else (some false)) else (some false))) else (none)) = some r := H
  have A7 := Aside0.mk A70
  clear A70
  by_cases c8 : t158.size + a2.size ≤ 9223372036854775807
  · rw [if_pos c8] at H
    have c8b0 := eq_true c8
    have c8b1 : decide (t158.size + a2.size ≤ 9223372036854775807) = true := decide_eq_true c8
    try have c8b2 : (9223372036854775807 < t158.size + a2.size) = False := eq_false (Nat.not_lt.2 c8)
    replace H := Option.bind_eq_some_iff.mp H
    obtain ⟨⟨t165, t166, t167⟩, A90, H⟩ := H
    replace H : (if t154 = true then (if t159 = true then (if t162 = t167 then (if t166 = (wrap64 ((t158.size : Int) + t161)) then (if (t165.length : Int) = (wrap64 ((t155.length : Int) + (t160.length : Int))) then (if 0 ≤ (mn (t155.length : Int) (t165.length : Int)) then (if (mn (t155.length : Int) (t165.length : Int)) ≤ (t165.length : Int) then ((hagglerref04_Same.f k (t165.take ((mn (t155.length : Int) (t165.length : Int)) : Int).toNat) t155).bind fun t174 => (if t174 = true then ((hagglerref04_Same.f k (t165.drop ((mn (t155.length : Int) (t165.length : Int)) : Int).toNat) t160).bind fun t179 => (some t179)) else (some false))) else (none)) else (none)) else (some false)) else (some false)) else (some false)) else (some false)) else (some false)) = some r := H
    have A9 := Aside0.mk A90
    clear A90
    by_cases c10 : t154 = true
    · subst c10
      have H1 : (if t159 = true then (if t162 = t167 then (if t166 = (wrap64 ((t158.size : Int) + t161)) then (if (t165.length : Int) = (wrap64 ((t155.length : Int) + (t160.length : Int))) then (if 0 ≤ (mn (t155.length : Int) (t165.length : Int)) then (if (mn (t155.length : Int) (t165.length : Int)) ≤ (t165.length : Int) then ((hagglerref04_Same.f k (t165.take ((mn (t155.length : Int) (t165.length : Int)) : Int).toNat) t155).bind fun t174 => (if t174 = true then ((hagglerref04_Same.f k (t165.drop ((mn (t155.length : Int) (t165.length : Int)) : Int).toNat) t160).bind fun t179 => (some t179)) else (some false))) else (none)) else (none)) else (some false)) else (some false)) else (some false)) else (some false)) = some r := by rw [if_pos rfl] at H; exact H
      clear H
      have H := H1
      clear H1
      by_cases c11 : t159 = true
      · subst c11
        have H1 : (if t162 = t167 then (if t166 = (wrap64 ((t158.size : Int) + t161)) then (if (t165.length : Int) = (wrap64 ((t155.length : Int) + (t160.length : Int))) then (if 0 ≤ (mn (t155.length : Int) (t165.length : Int)) then (if (mn (t155.length : Int) (t165.length : Int)) ≤ (t165.length : Int) then ((hagglerref04_Same.f k (t165.take ((mn (t155.length : Int) (t165.length : Int)) : Int).toNat) t155).bind fun t174 => (if t174 = true then ((hagglerref04_Same.f k (t165.drop ((mn (t155.length : Int) (t165.length : Int)) : Int).toNat) t160).bind fun t179 => (some t179)) else (some false))) else (none)) else (none)) else (some false)) else (some false)) else (some false)) = some r := by rw [if_pos rfl] at H; exact H
        clear H
        have H := H1
        clear H1
        by_cases c12 : t162 = t167
        · rw [if_pos c12] at H
          have c12b0 : (t162 == t167) = true := beq_iff_eq.mpr c12
          have c12b1 : (t162 != t167) = false := bne_eq_false_iff_eq.mpr c12
          clear c12
          by_cases c13 : t166 = (wrap64 ((t158.size : Int) + t161))
          · rw [if_pos c13] at H
            have c13b0 : (t166 == (wrap64 ((t158.size : Int) + t161))) = true := beq_iff_eq.mpr c13
            have c13b1 : (t166 != (wrap64 ((t158.size : Int) + t161))) = false := bne_eq_false_iff_eq.mpr c13
            clear c13
            by_cases c14 : (t165.length : Int) = (wrap64 ((t155.length : Int) + (t160.length : Int)))
            · rw [if_pos c14] at H
              have c14b0 : ((t165.length : Int) == (wrap64 ((t155.length : Int) + (t160.length : Int)))) = true := beq_iff_eq.mpr c14
              have c14b1 : ((t165.length : Int) != (wrap64 ((t155.length : Int) + (t160.length : Int)))) = false := bne_eq_false_iff_eq.mpr c14
              clear c14
              obtain ⟨ji15, hji15⟩ : ∃ j_ : Int, (mn (t155.length : Int) (t165.length : Int)) = j_ := ⟨_, rfl⟩
              replace H : (if 0 ≤ (ji15) then (if (ji15) ≤ (t165.length : Int) then ((hagglerref04_Same.f k (t165.take ((ji15) : Int).toNat) t155).bind fun t174 => (if t174 = true then ((hagglerref04_Same.f k (t165.drop ((ji15) : Int).toNat) t160).bind fun t179 => (some t179)) else (some false))) else (none)) else (none)) = some r := by first | (rw [hji15] at H; exact H) | (simp only [hji15] at H ⊢; exact H)
              (try rw [hji15] at A4)
              (try rw [hji15] at A5)
              (try rw [hji15] at A6)
              (try rw [hji15] at A7)
              (try rw [hji15] at A9)
              (try (have hji15l : 0 ≤ ji15 := by (rw [← hji15]; unfold mn; (repeat' split) <;> omega)))
              (try (have hji15m : 0 ≤ ji15 := by omega))
              have hji15_ : (if (t165.length : Int) < (t155.length : Int) then (t165.length : Int) else (t155.length : Int)) = ji15 := hji15
              have hji15n : (if t165.length < t155.length then (t165.length : Int) else (t155.length : Int)) = ji15 := by rw [← hji15_]; simp only [Int.ofNat_lt]
              by_cases c16 : 0 ≤ (ji15)
              · rw [if_pos c16] at H
                have c16b0 := eq_true c16
                have c16b1 : decide (0 ≤ (ji15)) = true := decide_eq_true c16
                clear c16
                by_cases c17 : (ji15) ≤ (t165.length : Int)
                · rw [if_pos c17] at H
                  have c17b0 := eq_true c17
                  have c17b1 : decide ((ji15) ≤ (t165.length : Int)) = true := decide_eq_true c17
                  clear c17
                  obtain ⟨y170, hy170⟩ : ∃ y_ : List (S24), y_ = (t165.take ((ji15) : Int).toNat) := ⟨_, rfl⟩
                  replace H : ((hagglerref04_Same.f k y170 t155).bind fun t174 => (if t174 = true then ((hagglerref04_Same.f k (t165.drop ((ji15) : Int).toNat) t160).bind fun t179 => (some t179)) else (some false))) = some r := by first | (rw [hy170]; with_reducible exact H) | (have H2_ := (Option.bind_some _ _).symm.trans H; rw [hy170]; with_reducible exact H2_) | (have H2_ := (Option.bind_some _ _).symm.trans H; with_reducible exact H2_) | with_reducible exact H | (rw [hy170]; exact H) | exact H
                  have Ny170 := Aside0.mk hy170
                  clear hy170
                  replace H := Option.bind_eq_some_iff.mp H
                  obtain ⟨t174, A180, H⟩ := H
                  replace H : (if t174 = true then ((hagglerref04_Same.f k (t165.drop ((ji15) : Int).toNat) t160).bind fun t179 => (some t179)) else (some false)) = some r := H
                  have A18 := Aside0.mk A180
                  clear A180
                  by_cases c19 : t174 = true
                  · subst c19
                    have H1 : ((hagglerref04_Same.f k (t165.drop ((ji15) : Int).toNat) t160).bind fun t179 => (some t179)) = some r := by rw [if_pos rfl] at H; exact H
                    clear H
                    have H := H1
                    clear H1
                    have c21b0 := eq_true (of_decide_eq_true (by first | (with_reducible assumption) | assumption) : 0 ≤ (ji15))
                    have c22b0 := eq_true (of_decide_eq_true (by first | (with_reducible assumption) | assumption) : (ji15) ≤ (t165.length : Int))
                    obtain ⟨y175, hy175⟩ : ∃ y_ : List (S24), y_ = (t165.drop ((ji15) : Int).toNat) := ⟨_, rfl⟩
                    replace H : ((hagglerref04_Same.f k y175 t160).bind fun t179 => (some t179)) = some r := by first | (rw [hy175]; with_reducible exact H) | (have H2_ := (Option.bind_some _ _).symm.trans H; rw [hy175]; with_reducible exact H2_) | (have H2_ := (Option.bind_some _ _).symm.trans H; with_reducible exact H2_) | with_reducible exact H | (rw [hy175]; exact H) | exact H
                    have Ny175 := Aside0.mk hy175
                    clear hy175
                    replace H := Option.bind_eq_some_iff.mp H
                    obtain ⟨t179, A230, H⟩ := H
                    replace H : (some t179) = some r := H
                    have A23 := Aside0.mk A230
                    clear A230
                    obtain rfl := Option.some.inj H
                    go_enter Tryd.func8, Tryd.ntmps8
                    go_wp2_with (first | ((with_reducible refine gate_callee (f := 10) rfl ?_); refine goesL_ (some 17) rfl rfl Tryd.func10 (by kernel_rfl) rfl #[] rfl (by (try simp only [List.map_toArray, List.map_cons, List.map_nil]); first | done | rfl | (simp only [List.length_drop, List.length_take]; rfl)) ?_; (with_reducible refine (hagglerlaw04_awake.calls  true _ A4.out (HG.out.below (by repeat (first | (with_reducible first | exact HB.out | apply below_alloc | apply pw_below_drewN | apply below_drew1) | exact HB.out)))).mono ?_); rintro e w24 ⟨rfl, hb⟩; refine ⟨_, rfl, ?_⟩; have n0_ := Aside0.mk (below_step (by repeat (first | (with_reducible first | exact HB.out | apply below_alloc | apply pw_below_drewN | apply below_drew1) | exact HB.out)) hb); clear HB; have HB := n0_; clear n0_; (try clear hb); (try clear hb2); (try clear hk); (try clear hi)) | ((with_reducible refine gate_callee (f := 15) rfl ?_); refine goesL_ (some 20) rfl rfl Tryd.func15 (by kernel_rfl) rfl #[.slice A0 l0.length c0, .slice A1 l1.length c1] rfl (by (try simp only [List.map_toArray, List.map_cons, List.map_nil]); first | done | rfl | (simp only [List.length_drop, List.length_take]; rfl)) ?_; (with_reducible refine (hagglerlaw04_Records.calls k _ _ l0 _ _ l1 t155 _ ?side1 ?side2 ?side3 ?side4 A5.out).mono ?_); (case side1 => repeat (first | exact (Kd.C_below HR0.out HB.out) | (with_reducible refine Kd.C_alloc ?_ _) | (with_reducible refine Kd.C_drewN ?_ _) | (with_reducible refine Kd.C_drew ?_))); (case side2 => exact HC0.out); (case side3 => repeat (first | exact (Kd.C_below HR1.out HB.out) | (with_reducible refine Kd.C_alloc ?_ _) | (with_reducible refine Kd.C_drewN ?_ _) | (with_reducible refine Kd.C_drew ?_))); (case side4 => exact HC1.out); rintro e w25 ⟨v156, rfl, ho0, hb⟩; refine ⟨_, rfl, ?_⟩; have n0_ := Aside0.mk (Kd.S_lower ho0 (below_size (by repeat (first | (with_reducible first | exact HB.out | apply below_alloc | apply pw_below_drewN | apply below_drew1) | exact HB.out)))); have n1_ := Aside0.mk (below_step (by repeat (first | (with_reducible first | exact HB.out | apply below_alloc | apply pw_below_drewN | apply below_drew1) | exact HB.out)) hb); clear HB; have HO157 := n0_; have HB := n1_; clear n0_ n1_; (try clear hb); (try clear hb2); (try clear hk); (try clear hi); (try clear ho0); obtain ⟨Ao26, co26, eo26⟩ := Kd.S_slice HO157.out; subst eo26) | ((with_reducible refine gate_callee (f := 20) rfl ?_); refine goesL_ (some 23) rfl rfl Tryd.func20 (by kernel_rfl) rfl #[.slice Ao26 t155.length co26] rfl (by (try simp only [List.map_toArray, List.map_cons, List.map_nil]); first | done | rfl | (simp only [List.length_drop, List.length_take]; rfl)) ?_; (with_reducible refine (hagglerlaw04_frames.calls k _ _ t155 t158 true _ ?side1 ?side2 A6.out (HG.out.below (by repeat (first | (with_reducible first | exact HB.out | apply below_alloc | apply pw_below_drewN | apply below_drew1) | exact HB.out)))).mono ?_); (case side1 => repeat (first | exact (Kd.S_reads' HO157.out).2.2 | (with_reducible refine Kd.C_alloc ?_ _) | (with_reducible refine Kd.C_drewN ?_ _) | (with_reducible refine Kd.C_drew ?_))); (case side2 => exact (Kd.S_reads' HO157.out).2.1); rintro e w27 ⟨rfl, hb⟩; refine ⟨_, rfl, ?_⟩; have n0_ := Aside0.mk (Kd.S_below (by (with_reducible repeat (first | apply Kd.S_alloc | apply Kd.S_drewN | apply Kd.S_drew)); exact HO157.out) hb); have n1_ := Aside0.mk (below_step (by repeat (first | (with_reducible first | exact HB.out | apply below_alloc | apply pw_below_drewN | apply below_drew1) | exact HB.out)) hb); clear HO157; clear HB; have HO157 := n0_; have HB := n1_; clear n0_ n1_; (try clear hb); (try clear hb2); (try clear hk); (try clear hi)) | ((with_reducible refine gate_callee (f := 17) rfl ?_); refine goesL_ (some 28) rfl rfl Tryd.func17 (by kernel_rfl) rfl #[.string a2] rfl (by (try simp only [List.map_toArray, List.map_cons, List.map_nil]); first | done | rfl | (simp only [List.length_drop, List.length_take]; rfl)) ?_; (with_reducible refine (frame_Scan.calls a2 t160 t161 t162 _ A7.out (HG.out.below (by repeat (first | (with_reducible first | exact HB.out | apply below_alloc | apply pw_below_drewN | apply below_drew1) | exact HB.out)))).mono ?_); rintro e w28 ⟨v163, rfl, ho0, hb⟩; refine ⟨_, rfl, ?_⟩; have n0_ := Aside0.mk (Kd.S_elder' (by (with_reducible repeat (first | apply Kd.S_alloc | apply Kd.S_drewN | apply Kd.S_drew)); exact HO157.out) (Kd.S_base ho0) hb); have n1_ := Aside0.mk (Kd.S_lower (Kd.S_new' ho0 (Kd.S_lt (by (with_reducible repeat (first | apply Kd.S_alloc | apply Kd.S_drewN | apply Kd.S_drew)); exact HO157.out))) (below_size (by repeat (first | (with_reducible first | exact HB.out | apply below_alloc | apply pw_below_drewN | apply below_drew1) | exact HB.out)))); have n2_ := Aside0.mk (below_step (by repeat (first | (with_reducible first | exact HB.out | apply below_alloc | apply pw_below_drewN | apply below_drew1) | exact HB.out)) hb); clear HO157; clear HB; have HO157 := n0_; have HO164 := n1_; have HB := n2_; clear n0_ n1_ n2_; (try clear hb); (try clear hb2); (try clear hk); (try clear hi); (try clear ho0)) | ((with_reducible refine gate_callee (f := 17) rfl ?_); refine goesL_ (some 36) rfl rfl Tryd.func17 (by kernel_rfl) rfl #[.string (t158 ++ a2)] rfl (by (try simp only [List.map_toArray, List.map_cons, List.map_nil]); first | done | rfl | (simp only [List.length_drop, List.length_take]; rfl)) ?_; (with_reducible refine (frame_Scan.calls (t158 ++ a2) t165 t166 t167 _ A9.out (HG.out.below (by repeat (first | (with_reducible first | exact HB.out | apply below_alloc | apply pw_below_drewN | apply below_drew1) | exact HB.out)))).mono ?_); rintro e w29 ⟨v168, rfl, ho0, hb⟩; refine ⟨_, rfl, ?_⟩; have n0_ := Aside0.mk (Kd.S_elder' (by (with_reducible repeat (first | apply Kd.S_alloc | apply Kd.S_drewN | apply Kd.S_drew)); exact HO157.out) (Kd.S_base ho0) hb); have n1_ := Aside0.mk (Kd.S_elder' (by (with_reducible repeat (first | apply Kd.S_alloc | apply Kd.S_drewN | apply Kd.S_drew)); exact HO164.out) (Kd.S_base ho0) hb); have n2_ := Aside0.mk (Kd.S_lower (Kd.S_new' (Kd.S_new' ho0 (Kd.S_lt (by (with_reducible repeat (first | apply Kd.S_alloc | apply Kd.S_drewN | apply Kd.S_drew)); exact HO157.out))) (Kd.S_lt (by (with_reducible repeat (first | apply Kd.S_alloc | apply Kd.S_drewN | apply Kd.S_drew)); exact HO164.out))) (below_size (by repeat (first | (with_reducible first | exact HB.out | apply below_alloc | apply pw_below_drewN | apply below_drew1) | exact HB.out)))); have n3_ := Aside0.mk (below_step (by repeat (first | (with_reducible first | exact HB.out | apply below_alloc | apply pw_below_drewN | apply below_drew1) | exact HB.out)) hb); clear HO157; clear HO164; clear HB; have HO157 := n0_; have HO164 := n1_; have HO169 := n2_; have HB := n3_; clear n0_ n1_ n2_ n3_; (try clear hb); (try clear hb2); (try clear hk); (try clear hi); (try clear ho0); obtain ⟨Ao30, co30, eo30⟩ := Kd.S_slice HO169.out; subst eo30; obtain ⟨Ao31, co31, eo31⟩ := Kd.S_slice HO164.out; subst eo31; have q32 : ((ji15) : Int) ≤ ((t165.length : Int) : Int) := of_decide_eq_true (by first | (with_reducible assumption) | assumption); obtain ⟨i032, hi032, _, hsz32, _⟩ := info_parts info24; have hroom32 : t165.length ≤ co30 := (Kd.S_reads' HO169.out).2.1; have hC32 : Kd.C k24 _ Ao30 t165.length t165 := (Kd.S_reads' HO169.out).2.2; have hcut32 := cut_to (P := Tryd.prog) 32 24 .i64 Tryd.underlying32 hi032 Ao30 t165.length co30 (ji15) (of_decide_eq_true (by first | (with_reducible assumption) | assumption)) q32 hroom32; have hr32 := Kd.C_take (m := ((ji15) : Int).toNat) hC32 (by omega); have hy32 : y170.length = ((ji15) : Int).toNat := (by rw [Ny170.out, List.length_take]; omega); rw [← Ny170.out] at hr32; rw [← hy32] at hcut32; have HR173 := Aside0.mk hr32; have HC173 := Aside0.mk (show y170.length ≤ co30 from by omega); clear hr32 hC32 hroom32 hi032 hsz32; have KY32 := Aside0.mk hy32; clear hy32; have KL32 := Aside0.mk (show ((ji15) : Int).toNat ≤ t165.length from by omega); replace q32 := eq_true q32) | (go_at_call 19; (with_reducible refine (hagglerref04_Same.calls k _ _ y170 _ _ t155 true _ ?side1 ?side2 ?side3 ?side4 A18.out).mono ?_); (case side1 => repeat (first | exact (by repeat (first | (with_reducible exact HR173.out) | (with_reducible refine Kd.C_alloc ?_ _) | (with_reducible refine Kd.C_drewN ?_ _) | (with_reducible refine Kd.C_drew ?_) | exact HR173.out)) | (with_reducible refine Kd.C_alloc ?_ _) | (with_reducible refine Kd.C_drewN ?_ _) | (with_reducible refine Kd.C_drew ?_))); (case side2 => exact HC173.out); (case side3 => repeat (first | exact (Kd.S_reads' HO157.out).2.2 | (with_reducible refine Kd.C_alloc ?_ _) | (with_reducible refine Kd.C_drewN ?_ _) | (with_reducible refine Kd.C_drew ?_))); (case side4 => exact (Kd.S_reads' HO157.out).2.1); rintro e w' ⟨rfl, ⟨nd, rfl⟩⟩; have q33 : ((ji15) : Int) ≤ ((t165.length : Int) : Int) := of_decide_eq_true (by first | (with_reducible assumption) | assumption); obtain ⟨i033, hi033, _, hsz33, _⟩ := info_parts info24; have hroom33 : t165.length ≤ co30 := (Kd.S_reads' HO169.out).2.1; have hC33 : Kd.C k24 _ Ao30 t165.length t165 := (Kd.S_reads' HO169.out).2.2; have q033 : (0 : Int) ≤ ((ji15) : Int) := of_decide_eq_true (by first | (with_reducible assumption) | assumption); have hcut33 := cut_from (P := Tryd.prog) 32 24 .i64 Tryd.underlying32 hi033 3 hsz33 Ao30 t165.length co30 (ji15) q033 q33; have hr33 := Kd.C_drop (m := ((ji15) : Int).toNat) (c := co30) hC33 (by omega) hroom33; obtain ⟨A33, hA33⟩ : ∃ A1, A1 = (if co30 = ((ji15) : Int).toNat then Ao30 else (Ao30 : Option Addr).map (·.add (((ji15) : Int).toNat * 3))) := ⟨_, rfl⟩; obtain ⟨c33, hc33⟩ : ∃ c1, c1 = co30 - ((ji15) : Int).toNat := ⟨_, rfl⟩; have hy33 : y175.length = t165.length - ((ji15) : Int).toNat := (by rw [Ny175.out, List.length_drop] <;> omega); rw [show (t165).drop ((ji15) : Int).toNat = y175 from Ny175.out.symm] at hr33; replace hr33 : Kd.C k24 _ A33 y175.length y175 := (by rw [hA33]; exact hr33); rw [← hy33, ← hA33, ← hc33] at hcut33; have HR178 := Aside0.mk hr33; have HC178 := Aside0.mk (show y175.length ≤ c33 from by rw [hy33, hc33]; exact Nat.sub_le_sub_right hroom33 _); clear hr33 hC33 hroom33 hi033 hsz33 hc33; have KY33 := Aside0.mk hy33; have KA33 := Aside0.mk hA33; clear hy33 hA33; have KL33 := Aside0.mk (show ((ji15) : Int).toNat ≤ t165.length from by omega); replace q33 := eq_true q33) | (go_at_call 19; (with_reducible refine (hagglerref04_Same.calls k _ _ y175 _ _ t160 t179 _ ?side1 ?side2 ?side3 ?side4 A23.out).mono ?_); (case side1 => repeat (first | exact (by repeat (first | (with_reducible exact HR178.out) | (with_reducible refine Kd.C_alloc ?_ _) | (with_reducible refine Kd.C_drewN ?_ _) | (with_reducible refine Kd.C_drew ?_) | exact HR178.out)) | (with_reducible refine Kd.C_alloc ?_ _) | (with_reducible refine Kd.C_drewN ?_ _) | (with_reducible refine Kd.C_drew ?_))); (case side2 => exact HC178.out); (case side3 => repeat (first | exact (Kd.S_reads' HO164.out).2.2 | (with_reducible refine Kd.C_alloc ?_ _) | (with_reducible refine Kd.C_drewN ?_ _) | (with_reducible refine Kd.C_drew ?_))); (case side4 => exact (Kd.S_reads' HO164.out).2.1); rintro e w' ⟨rfl, ⟨nd, rfl⟩⟩))
                    go_ret
                    exact ⟨by first | rfl | (simp [errW_none, errW_some] <;> rfl) | (simp only [← hji15]; first | rfl | (simp [errW_none, errW_some] <;> rfl)) | (simp [*, errW_none, errW_some] <;> rfl), by repeat (first | (with_reducible first | exact HB.out | apply below_alloc | apply pw_below_drewN | apply below_drew1) | exact HB.out)⟩
                  · replace c19 := Bool.eq_false_iff.mpr c19
                    subst c19
                    have H1 : (some false) = some r := by rw [if_neg (show ¬ (false = true) by decide)] at H; exact H
                    clear H
                    have H := H1
                    clear H1
                    exact absurd ((Option.some.inj H).trans hr.out) (by decide)
                · rw [if_neg c17] at H
                  exact absurd H (by simp)
              · rw [if_neg c16] at H
                exact absurd H (by simp)
            · rw [if_neg c14] at H
              have c14b0 : ((t165.length : Int) == (wrap64 ((t155.length : Int) + (t160.length : Int)))) = false := beq_eq_false_iff_ne.mpr c14
              have c14b1 : ((t165.length : Int) != (wrap64 ((t155.length : Int) + (t160.length : Int)))) = true := bne_iff_ne.mpr c14
              exact absurd ((Option.some.inj H).trans hr.out) (by decide)
          · rw [if_neg c13] at H
            have c13b0 : (t166 == (wrap64 ((t158.size : Int) + t161))) = false := beq_eq_false_iff_ne.mpr c13
            have c13b1 : (t166 != (wrap64 ((t158.size : Int) + t161))) = true := bne_iff_ne.mpr c13
            exact absurd ((Option.some.inj H).trans hr.out) (by decide)
        · rw [if_neg c12] at H
          have c12b0 : (t162 == t167) = false := beq_eq_false_iff_ne.mpr c12
          have c12b1 : (t162 != t167) = true := bne_iff_ne.mpr c12
          exact absurd ((Option.some.inj H).trans hr.out) (by decide)
      · replace c11 := Bool.eq_false_iff.mpr c11
        subst c11
        have H1 : (some false) = some r := by rw [if_neg (show ¬ (false = true) by decide)] at H; exact H
        clear H
        have H := H1
        clear H1
        exact absurd ((Option.some.inj H).trans hr.out) (by decide)
    · replace c10 := Bool.eq_false_iff.mpr c10
      subst c10
      have H1 : (some false) = some r := by rw [if_neg (show ¬ (false = true) by decide)] at H; exact H
      clear H
      have H := H1
      clear H1
      exact absurd ((Option.some.inj H).trans hr.out) (by decide)
  · rw [if_neg c8] at H
    exact absurd H (by simp)

end Go.Proofs.YthidhmfejnjdhaaDoor.HFrameJoined
