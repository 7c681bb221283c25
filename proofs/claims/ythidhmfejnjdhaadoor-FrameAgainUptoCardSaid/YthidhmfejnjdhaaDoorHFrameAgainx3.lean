-- Written by a program of ours (hprint.py) for this claim, over the print of the kit.
import Derived.Test.YthidhmfejnjdhaaDoorHFrameAgainx0
import Derived.Test.YthidhmfejnjdhaaDoorHFrameAgainx1
import Derived.Test.YthidhmfejnjdhaaDoorHFrameAgainx2
namespace Go.Proofs.YthidhmfejnjdhaaDoor.HFrameAgain
open Go.RowKit Go.Proofs.YthidhmfejnjdhaaDoorW.PrintWords Go.Proofs.YthidhmfejnjdhaaDoorW.PrintLast Go.Proofs.YthidhmfejnjdhaaDoorW.PrintMore Go.Proofs.YthidhmfejnjdhaaDoor.FrameG
attribute [local go_sem] max2_int min2_int max_two min_two max_three min_three max_four min_four   -- for this text's walks alone
set_option linter.unusedVariables false
set_option linter.unusedSimpArgs false

/-! ### hagglerlaw04_FrameAgain: function 9 -/
noncomputable def hagglerlaw04_FrameAgain.l0 : Nat → Bool → ByteArray → List ByteArray → Int → Int → Option (Bool)
  | 0, _, _, _, _, _ => none
  | k + 1, x11, x12, x61, x62, x63 => if x63 < x62 then (if 0 ≤ x63 then (if x63 < (x61.length : Int) then ((frame_Scan.f (rdOf ByteArray.empty x61 x63)).bind fun bt154 => ((hagglerlaw04_frames.f k bt154.1).bind fun bt159 => (if bt159.2 = true then (if bt154.2.1 < 0 then (some false) else (if bt154.2.1 > ((rdOf ByteArray.empty x61 x63).size : Int) then (some false) else (if 0 ≤ bt154.2.1 then (if bt154.2.1 ≤ ((rdOf ByteArray.empty x61 x63).size : Int) then (if bt159.1.toList = ((rdOf ByteArray.empty x61 x63).extract 0 (bt154.2.1 : Int).toNat).toList then (hagglerlaw04_FrameAgain.l0 k x11 x12 x61 x62 (wrap64 (x63 + 1))) else (some false)) else (none)) else (none)))) else (some false)))) else (none)) else (none)) else (if x11 = true then (some (decide ((x12.size : Int) ≥ 0))) else (some false))
noncomputable def hagglerlaw04_FrameAgain.f (k : Nat) (a0 : ByteArray) (l1 : List (List Int)) (l2 : List ByteArray) (a3 : Int) (a4 : ByteArray) : Option (Bool) := (hagglerlaw04_awake.f).bind fun t143 => ((hagglerlaw04_Records.f k l1 l2).bind fun t144 => ((hagglerlaw04_frames.f k t144).bind fun bt147 => ((hagglerlaw04_pick.f a3 (wrap64 ((bt147.1.size : Int) + 1))).bind fun t149 => (if 0 ≤ t149 then (if t149 ≤ (bt147.1.size : Int) then (if (bt147.1.extract 0 (t149 : Int).toNat).size + a4.size ≤ 9223372036854775807 then (if 0 ≤ (mn (wrap64 (t149 + (a4.size : Int))) (bt147.1.size : Int)) then (if (mn (wrap64 (t149 + (a4.size : Int))) (bt147.1.size : Int)) ≤ (bt147.1.size : Int) then (if ((bt147.1.extract 0 (t149 : Int).toNat) ++ a4).size + (bt147.1.extract ((mn (wrap64 (t149 + (a4.size : Int))) (bt147.1.size : Int)) : Int).toNat bt147.1.size).size ≤ 9223372036854775807 then (if ((bt147.1.extract 0 (t149 : Int).toNat) ++ a4).size + (bt147.1.extract (t149 : Int).toNat bt147.1.size).size ≤ 9223372036854775807 then ((some (([a0, bt147.1, ((bt147.1.extract 0 (t149 : Int).toNat) ++ a4) ++ (bt147.1.extract ((mn (wrap64 (t149 + (a4.size : Int))) (bt147.1.size : Int)) : Int).toNat bt147.1.size), ((bt147.1.extract 0 (t149 : Int).toNat) ++ a4) ++ (bt147.1.extract (t149 : Int).toNat bt147.1.size)] : List ByteArray) : List ByteArray)).bind fun y150 => (hagglerlaw04_FrameAgain.l0 k t143 bt147.1 y150 (y150.length : Int) 0)) else (none)) else (none)) else (none)) else (none)) else (none)) else (none)) else (none)))))
theorem hagglerlaw04_FrameAgain.mono_l : ∀ k, (∀ y0 y1 y2 y3 y4, LeO (hagglerlaw04_FrameAgain.l0 k y0 y1 y2 y3 y4) (hagglerlaw04_FrameAgain.l0 (k + 1) y0 y1 y2 y3 y4))
  | 0 => fun _ _ _ _ _ r h => by simp [hagglerlaw04_FrameAgain.l0] at h
  | k + 1 => by
    have ih0 := hagglerlaw04_FrameAgain.mono_l k
    · intro y0 y1 y2 y3 y4
      unfold hagglerlaw04_FrameAgain.l0
      repeat' first
      | (with_reducible exact ih0 _ _ _ _ _)
      | (with_reducible exact hagglerlaw04_Records.mono _ _ _)
      | (with_reducible exact hagglerlaw04_frames.mono _ _)
      | (with_reducible exact LeO.refl _)
      | (with_reducible exact LeO.none _)
      | (with_reducible refine LeO.ite ?_ ?_)
      | (with_reducible refine LeO.bind ?_ (fun _ => ?_))
      | exact ih0 _ _ _ _ _
      | exact hagglerlaw04_Records.mono _ _ _
      | exact hagglerlaw04_frames.mono _ _
      | exact LeO.none _
      | refine LeO.ite ?_ ?_
      | refine LeO.bind ?_ (fun _ => ?_)
theorem hagglerlaw04_FrameAgain.mono : ∀ a0 a1 a2 a3 a4 k, LeO (hagglerlaw04_FrameAgain.f k a0 a1 a2 a3 a4) (hagglerlaw04_FrameAgain.f (k + 1) a0 a1 a2 a3 a4) := by
  intro a0 a1 a2 a3 a4 k
  have ih0 := hagglerlaw04_FrameAgain.mono_l k
  unfold hagglerlaw04_FrameAgain.f
  repeat' first
      | (with_reducible exact ih0 _ _ _ _ _)
      | (with_reducible exact hagglerlaw04_Records.mono _ _ _)
      | (with_reducible exact hagglerlaw04_frames.mono _ _)
      | (with_reducible exact LeO.refl _)
      | (with_reducible exact LeO.none _)
      | (with_reducible refine LeO.ite ?_ ?_)
      | (with_reducible refine LeO.bind ?_ (fun _ => ?_))
      | exact ih0 _ _ _ _ _
      | exact hagglerlaw04_Records.mono _ _ _
      | exact hagglerlaw04_frames.mono _ _
      | exact LeO.none _
      | refine LeO.ite ?_ ?_
      | refine LeO.bind ?_ (fun _ => ?_)
def hagglerlaw04_FrameAgain.T4 : Bool × List (List Nat × List Nat) := (true, [([], []), ([], []), ([], []), ([], []), ([2, 3], [2, 3]), ([], []), ([4, 5], [4, 5]), ([], []), ([], []), ([], []), ([9], [9]), ([8, 10], [8, 10]), ([], []), ([12], [12]), ([11, 13], [11, 13]), ([7, 14], [7, 14]), ([6, 15], [6, 15]), ([], []), ([], []), ([17, 18], [17, 18]), ([], []), ([19, 20], [19, 20]), ([], []), ([], []), ([22, 23], [22, 23]), ([21, 24], [21, 24]), ([0, 1, 16, 25], [0, 1, 16, 25]), ([26], [26]), ([], [])])
def hagglerlaw04_FrameAgain.B4 : List Nat := [0, 0, 0, 0, 12, 0, 60, 0, 0, 0, 512, 1792, 0, 4096, 16128, 32640, 65532, 0, 0, 393216, 0, 1966080, 0, 0, 12582912, 33423360, 67108863, 134217727, 0]
theorem hagglerlaw04_FrameAgain.tab4 : rtab .any (opsOf Tryd.f9 4) = hagglerlaw04_FrameAgain.T4 := by kernel_rfl
theorem hagglerlaw04_FrameAgain.bits4 : waitsOk hagglerlaw04_FrameAgain.T4.2 hagglerlaw04_FrameAgain.B4 = true := by kernel_rfl
set_option maxHeartbeats 8000000 in
set_option maxRecDepth 100000 in
theorem hagglerlaw04_FrameAgain.calls (k : Nat) (a0 : ByteArray) (A1 : Option Addr) (c1 : Nat) (l1 : List (List Int)) (A2 : Option Addr) (c2 : Nat) (l2 : List ByteArray) (a3 : Int) (a4 : ByteArray) (r : Bool) (w : World) (hr1 : Kd.C (Kd.slice 3 (Kd.int .i64)) w A1 l1.length l1) (hc1 : l1.length ≤ c1) (hr2 : Kd.C Kd.string w A2 l2.length l2) (hc2 : l2.length ≤ c2) (h : hagglerlaw04_FrameAgain.f k a0 l1 l2 a3 a4 = some r) (hr : Aside0 (r = true)) (hG : G w) :
    Calls Tryd.prog 9 #[.string a0, .slice A1 l1.length c1, .slice A2 l2.length c2, .int .i64 a3, .string a4] w fun e w' => e = .returned (.bool r) ∧ Below w.heap.size w w' := by
  have HG := Aside0.mk hG
  clear hG
  have HR1 := Aside0.mk hr1
  have HC1 := Aside0.mk hc1
  clear hr1 hc1
  have HR2 := Aside0.mk hr2
  have HC2 := Aside0.mk hc2
  clear hr2 hc2
  have HB := Aside0.mk (Below.refl w.heap.size w)
  have H : ((hagglerlaw04_awake.f).bind fun t143 => ((hagglerlaw04_Records.f k l1 l2).bind fun t144 => ((hagglerlaw04_frames.f k t144).bind fun bt147 => ((hagglerlaw04_pick.f a3 (wrap64 ((bt147.1.size : Int) + 1))).bind fun t149 => (if 0 ≤ t149 then (if t149 ≤ (bt147.1.size : Int) then (if (bt147.1.extract 0 (t149 : Int).toNat).size + a4.size ≤ 9223372036854775807 then (if 0 ≤ (mn (wrap64 (t149 + (a4.size : Int))) (bt147.1.size : Int)) then (if (mn (wrap64 (t149 + (a4.size : Int))) (bt147.1.size : Int)) ≤ (bt147.1.size : Int) then (if ((bt147.1.extract 0 (t149 : Int).toNat) ++ a4).size + (bt147.1.extract ((mn (wrap64 (t149 + (a4.size : Int))) (bt147.1.size : Int)) : Int).toNat bt147.1.size).size ≤ 9223372036854775807 then (if ((bt147.1.extract 0 (t149 : Int).toNat) ++ a4).size + (bt147.1.extract (t149 : Int).toNat bt147.1.size).size ≤ 9223372036854775807 then ((some (([a0, bt147.1, ((bt147.1.extract 0 (t149 : Int).toNat) ++ a4) ++ (bt147.1.extract ((mn (wrap64 (t149 + (a4.size : Int))) (bt147.1.size : Int)) : Int).toNat bt147.1.size), ((bt147.1.extract 0 (t149 : Int).toNat) ++ a4) ++ (bt147.1.extract (t149 : Int).toNat bt147.1.size)] : List ByteArray) : List ByteArray)).bind fun y150 => (hagglerlaw04_FrameAgain.l0 k t143 bt147.1 y150 (y150.length : Int) 0)) else (none)) else (none)) else (none)) else (none)) else (none)) else (none)) else (none)))))) = some r := h
  clear h
  replace H := Option.bind_eq_some_iff.mp H
  obtain ⟨t143, A60, H⟩ := H
  replace H : ((hagglerlaw04_Records.f k l1 l2).bind fun t144 => ((hagglerlaw04_frames.f k t144).bind fun bt147 => ((hagglerlaw04_pick.f a3 (wrap64 ((bt147.1.size : Int) + 1))).bind fun t149 => (if 0 ≤ t149 then (if t149 ≤ (bt147.1.size : Int) then (if (bt147.1.extract 0 (t149 : Int).toNat).size + a4.size ≤ 9223372036854775807 then (if 0 ≤ (mn (wrap64 (t149 + (a4.size : Int))) (bt147.1.size : Int)) then (if (mn (wrap64 (t149 + (a4.size : Int))) (bt147.1.size : Int)) ≤ (bt147.1.size : Int) then (if ((bt147.1.extract 0 (t149 : Int).toNat) ++ a4).size + (bt147.1.extract ((mn (wrap64 (t149 + (a4.size : Int))) (bt147.1.size : Int)) : Int).toNat bt147.1.size).size ≤ 9223372036854775807 then (if ((bt147.1.extract 0 (t149 : Int).toNat) ++ a4).size + (bt147.1.extract (t149 : Int).toNat bt147.1.size).size ≤ 9223372036854775807 then ((some (([a0, bt147.1, ((bt147.1.extract 0 (t149 : Int).toNat) ++ a4) ++ (bt147.1.extract ((mn (wrap64 (t149 + (a4.size : Int))) (bt147.1.size : Int)) : Int).toNat bt147.1.size), ((bt147.1.extract 0 (t149 : Int).toNat) ++ a4) ++ (bt147.1.extract (t149 : Int).toNat bt147.1.size)] : List ByteArray) : List ByteArray)).bind fun y150 => (hagglerlaw04_FrameAgain.l0 k t143 bt147.1 y150 (y150.length : Int) 0)) else (none)) else (none)) else (none)) else (none)) else (none)) else (none)) else (none))))) = some r := H
  have A6 := Aside0.mk A60
  clear A60
  replace H := Option.bind_eq_some_iff.mp H
  obtain ⟨t144, A70, H⟩ := H
  replace H : ((hagglerlaw04_frames.f k t144).bind fun bt147 => ((hagglerlaw04_pick.f a3 (wrap64 ((bt147.1.size : Int) + 1))).bind fun t149 => (if 0 ≤ t149 then (if t149 ≤ (bt147.1.size : Int) then (if (bt147.1.extract 0 (t149 : Int).toNat).size + a4.size ≤ 9223372036854775807 then (if 0 ≤ (mn (wrap64 (t149 + (a4.size : Int))) (bt147.1.size : Int)) then (if (mn (wrap64 (t149 + (a4.size : Int))) (bt147.1.size : Int)) ≤ (bt147.1.size : Int) then (if ((bt147.1.extract 0 (t149 : Int).toNat) ++ a4).size + (bt147.1.extract ((mn (wrap64 (t149 + (a4.size : Int))) (bt147.1.size : Int)) : Int).toNat bt147.1.size).size ≤ 9223372036854775807 then (if ((bt147.1.extract 0 (t149 : Int).toNat) ++ a4).size + (bt147.1.extract (t149 : Int).toNat bt147.1.size).size ≤ 9223372036854775807 then ((some (([a0, bt147.1, ((bt147.1.extract 0 (t149 : Int).toNat) ++ a4) ++ (bt147.1.extract ((mn (wrap64 (t149 + (a4.size : Int))) (bt147.1.size : Int)) : Int).toNat bt147.1.size), ((bt147.1.extract 0 (t149 : Int).toNat) ++ a4) ++ (bt147.1.extract (t149 : Int).toNat bt147.1.size)] : List ByteArray) : List ByteArray)).bind fun y150 => (hagglerlaw04_FrameAgain.l0 k t143 bt147.1 y150 (y150.length : Int) 0)) else (none)) else (none)) else (none)) else (none)) else (none)) else (none)) else (none)))) = some r := H
  have A7 := Aside0.mk A70
  clear A70
  replace H := Option.bind_eq_some_iff.mp H
  obtain ⟨⟨t147, t148⟩, A80, H⟩ := H
  replace H : ((hagglerlaw04_pick.f a3 (wrap64 ((t147.size : Int) + 1))).bind fun t149 => (if 0 ≤ t149 then (if t149 ≤ (t147.size : Int) then (if (t147.extract 0 (t149 : Int).toNat).size + a4.size ≤ 9223372036854775807 then (if 0 ≤ (mn (wrap64 (t149 + (a4.size : Int))) (t147.size : Int)) then (if (mn (wrap64 (t149 + (a4.size : Int))) (t147.size : Int)) ≤ (t147.size : Int) then (if ((t147.extract 0 (t149 : Int).toNat) ++ a4).size + (t147.extract ((mn (wrap64 (t149 + (a4.size : Int))) (t147.size : Int)) : Int).toNat t147.size).size ≤ 9223372036854775807 then (if ((t147.extract 0 (t149 : Int).toNat) ++ a4).size + (t147.extract (t149 : Int).toNat t147.size).size ≤ 9223372036854775807 then ((some (([a0, t147, ((t147.extract 0 (t149 : Int).toNat) ++ a4) ++ (t147.extract ((mn (wrap64 (t149 + (a4.size : Int))) (t147.size : Int)) : Int).toNat t147.size), ((t147.extract 0 (t149 : Int).toNat) ++ a4) ++ (t147.extract (t149 : Int).toNat t147.size)] : List ByteArray) : List ByteArray)).bind fun y150 => (hagglerlaw04_FrameAgain.l0 k t143 t147 y150 (y150.length : Int) 0)) else (none)) else (none)) else (none)) else (none)) else (none)) else (none)) else (none))) = some r := H
  have A8 := Aside0.mk A80
  clear A80
  replace H := Option.bind_eq_some_iff.mp H
  obtain ⟨t149, A90, H⟩ := H
  replace H : (if 0 ≤ t149 then (if t149 ≤ (t147.size : Int) then (if (t147.extract 0 (t149 : Int).toNat).size + a4.size ≤ 9223372036854775807 then (if 0 ≤ (mn (wrap64 (t149 + (a4.size : Int))) (t147.size : Int)) then (if (mn (wrap64 (t149 + (a4.size : Int))) (t147.size : Int)) ≤ (t147.size : Int) then (if ((t147.extract 0 (t149 : Int).toNat) ++ a4).size + (t147.extract ((mn (wrap64 (t149 + (a4.size : Int))) (t147.size : Int)) : Int).toNat t147.size).size ≤ 9223372036854775807 then (if ((t147.extract 0 (t149 : Int).toNat) ++ a4).size + (t147.extract (t149 : Int).toNat t147.size).size ≤ 9223372036854775807 then ((some (([a0, t147, ((t147.extract 0 (t149 : Int).toNat) ++ a4) ++ (t147.extract ((mn (wrap64 (t149 + (a4.size : Int))) (t147.size : Int)) : Int).toNat t147.size), ((t147.extract 0 (t149 : Int).toNat) ++ a4) ++ (t147.extract (t149 : Int).toNat t147.size)] : List ByteArray) : List ByteArray)).bind fun y150 => (hagglerlaw04_FrameAgain.l0 k t143 t147 y150 (y150.length : Int) 0)) else (none)) else (none)) else (none)) else (none)) else (none)) else (none)) else (none)) = some r := H
  have A9 := Aside0.mk A90
  clear A90
  by_cases c10 : 0 ≤ t149
  · rw [if_pos c10] at H
    have c10b0 := eq_true c10
    have c10b1 : decide (0 ≤ t149) = true := decide_eq_true c10
    clear c10
    by_cases c11 : t149 ≤ (t147.size : Int)
    · rw [if_pos c11] at H
      have c11b0 := eq_true c11
      have c11b1 : decide (t149 ≤ (t147.size : Int)) = true := decide_eq_true c11
      clear c11
      by_cases c12 : (t147.extract 0 (t149 : Int).toNat).size + a4.size ≤ 9223372036854775807
      · rw [if_pos c12] at H
        have c12b0 := eq_true c12
        have c12b1 : decide ((t147.extract 0 (t149 : Int).toNat).size + a4.size ≤ 9223372036854775807) = true := decide_eq_true c12
        (try (have c12b1t := c12b1; simp only [Int.toNat_natCast] at c12b1t))
        try have c12b2 : (9223372036854775807 < (t147.extract 0 (t149 : Int).toNat).size + a4.size) = False := eq_false (Nat.not_lt.2 c12)
        (try have c12q : (9223372036854775807 < t149.toNat + a4.size) = False := eq_false (by have h_ := c12; simp only [ByteArray.size_append, ByteArray.size_extract] at h_; try have := of_eq_true (by assumption : (t149 ≤ (t147.size : Int)) = True); omega))
        (try (have c12b2t := c12b2; simp only [Int.toNat_natCast] at c12b2t))
        obtain ⟨ji13, hji13⟩ : ∃ j_ : Int, (mn (wrap64 (t149 + (a4.size : Int))) (t147.size : Int)) = j_ := ⟨_, rfl⟩
        replace H : (if 0 ≤ (ji13) then (if (ji13) ≤ (t147.size : Int) then (if ((t147.extract 0 (t149 : Int).toNat) ++ a4).size + (t147.extract ((ji13) : Int).toNat t147.size).size ≤ 9223372036854775807 then (if ((t147.extract 0 (t149 : Int).toNat) ++ a4).size + (t147.extract (t149 : Int).toNat t147.size).size ≤ 9223372036854775807 then ((some (([a0, t147, ((t147.extract 0 (t149 : Int).toNat) ++ a4) ++ (t147.extract ((ji13) : Int).toNat t147.size), ((t147.extract 0 (t149 : Int).toNat) ++ a4) ++ (t147.extract (t149 : Int).toNat t147.size)] : List ByteArray) : List ByteArray)).bind fun y150 => (hagglerlaw04_FrameAgain.l0 k t143 t147 y150 (y150.length : Int) 0)) else (none)) else (none)) else (none)) else (none)) = some r := by first | (rw [hji13] at H; exact H) | (simp only [hji13] at H ⊢; exact H)
        (try rw [hji13] at A6)
        (try rw [hji13] at A7)
        (try rw [hji13] at A8)
        (try rw [hji13] at A9)
        have hji13_ : (if (t147.size : Int) < (wrap64 (t149 + (a4.size : Int))) then (t147.size : Int) else (wrap64 (t149 + (a4.size : Int)))) = ji13 := hji13
        by_cases c14 : 0 ≤ (ji13)
        · rw [if_pos c14] at H
          have c14b0 := eq_true c14
          have c14b1 : decide (0 ≤ (ji13)) = true := decide_eq_true c14
          clear c14
          by_cases c15 : (ji13) ≤ (t147.size : Int)
          · rw [if_pos c15] at H
            have c15b0 := eq_true c15
            have c15b1 : decide ((ji13) ≤ (t147.size : Int)) = true := decide_eq_true c15
            clear c15
            by_cases c16 : ((t147.extract 0 (t149 : Int).toNat) ++ a4).size + (t147.extract ((ji13) : Int).toNat t147.size).size ≤ 9223372036854775807
            · rw [if_pos c16] at H
              have c16b0 := eq_true c16
              have c16b1 : decide (((t147.extract 0 (t149 : Int).toNat) ++ a4).size + (t147.extract ((ji13) : Int).toNat t147.size).size ≤ 9223372036854775807) = true := decide_eq_true c16
              (try (have c16b1t := c16b1; simp only [Int.toNat_natCast] at c16b1t))
              try have c16b2 : (9223372036854775807 < ((t147.extract 0 (t149 : Int).toNat) ++ a4).size + (t147.extract ((ji13) : Int).toNat t147.size).size) = False := eq_false (Nat.not_lt.2 c16)
              (try have c16q : (9223372036854775807 < t149.toNat + a4.size + (t147.size - ji13.toNat)) = False := eq_false (by have h_ := c16; simp only [ByteArray.size_append, ByteArray.size_extract] at h_; try have := of_eq_true (by assumption : (t149 ≤ (t147.size : Int)) = True); try have := of_eq_true (by assumption : (ji13 ≤ (t147.size : Int)) = True); omega))
              (try have c16n : (9223372036854775807 < (t147.extract 0 (t149 : Int).toNat).size + a4.size + (t147.extract ((ji13) : Int).toNat t147.size).size) = False := eq_false (by have h_ := c16; simp only [ByteArray.size_append, ByteArray.size_extract] at h_ ⊢; omega))
              (try (have c16b2t := c16b2; simp only [Int.toNat_natCast] at c16b2t))
              have c17b0 := eq_true (of_decide_eq_true (by first | (with_reducible assumption) | assumption) : 0 ≤ t149)
              have c18b0 := eq_true (of_decide_eq_true (by first | (with_reducible assumption) | assumption) : t149 ≤ (t147.size : Int))
              have c19b0 := eq_true (of_decide_eq_true (by first | (with_reducible assumption) | assumption) : 0 ≤ t149)
              have c20b0 := eq_true (of_decide_eq_true (by first | (with_reducible assumption) | assumption) : t149 ≤ (t147.size : Int))
              by_cases c21 : ((t147.extract 0 (t149 : Int).toNat) ++ a4).size + (t147.extract (t149 : Int).toNat t147.size).size ≤ 9223372036854775807
              · rw [if_pos c21] at H
                have c21b0 := eq_true c21
                have c21b1 : decide (((t147.extract 0 (t149 : Int).toNat) ++ a4).size + (t147.extract (t149 : Int).toNat t147.size).size ≤ 9223372036854775807) = true := decide_eq_true c21
                (try (have c21b1t := c21b1; simp only [Int.toNat_natCast] at c21b1t))
                try have c21b2 : (9223372036854775807 < ((t147.extract 0 (t149 : Int).toNat) ++ a4).size + (t147.extract (t149 : Int).toNat t147.size).size) = False := eq_false (Nat.not_lt.2 c21)
                (try have c21q : (9223372036854775807 < t149.toNat + a4.size + (t147.size - t149.toNat)) = False := eq_false (by have h_ := c21; simp only [ByteArray.size_append, ByteArray.size_extract] at h_; try have := of_eq_true (by assumption : (t149 ≤ (t147.size : Int)) = True); omega))
                (try have c21n : (9223372036854775807 < (t147.extract 0 (t149 : Int).toNat).size + a4.size + (t147.extract (t149 : Int).toNat t147.size).size) = False := eq_false (by have h_ := c21; simp only [ByteArray.size_append, ByteArray.size_extract] at h_ ⊢; omega))
                (try (have c21b2t := c21b2; simp only [Int.toNat_natCast] at c21b2t))
                obtain ⟨y150, hy150⟩ : ∃ y_ : List ByteArray, y_ = (([a0, t147, ((t147.extract 0 (t149 : Int).toNat) ++ a4) ++ (t147.extract ((ji13) : Int).toNat t147.size), ((t147.extract 0 (t149 : Int).toNat) ++ a4) ++ (t147.extract (t149 : Int).toNat t147.size)] : List ByteArray)) := ⟨_, rfl⟩
                replace H : (hagglerlaw04_FrameAgain.l0 k t143 t147 y150 (y150.length : Int) 0) = some r := by first | (rw [hy150]; with_reducible exact H) | (have H2_ := (Option.bind_some _ _).symm.trans H; rw [hy150]; with_reducible exact H2_) | (have H2_ := (Option.bind_some _ _).symm.trans H; with_reducible exact H2_) | with_reducible exact H | (rw [hy150]; exact H) | exact H
                have Ny150 := Aside0.mk hy150
                clear hy150
                have H' := Aside0.mk H
                clear H
                go_enter Tryd.func9, Tryd.ntmps9
                try go_wp2_with (first | ((with_reducible refine gate_callee (f := 10) rfl ?_); refine goesL_ (some 22) rfl rfl Tryd.func10 (by kernel_rfl) rfl #[] rfl (by (try simp only [List.map_toArray, List.map_cons, List.map_nil]); first | done | rfl | (simp only [List.length_drop, List.length_take]; rfl)) ?_; (with_reducible refine (hagglerlaw04_awake.calls  t143 _ A6.out (HG.out.below (by repeat (first | (with_reducible first | exact HB.out | apply below_alloc | apply pw_below_drewN | apply below_drew1) | exact HB.out)))).mono ?_); rintro e w22 ⟨rfl, hb⟩; refine ⟨_, rfl, ?_⟩; have n0_ := Aside0.mk (below_step (by repeat (first | (with_reducible first | exact HB.out | apply below_alloc | apply pw_below_drewN | apply below_drew1) | exact HB.out)) hb); clear HB; have HB := n0_; clear n0_; (try clear hb); (try clear hb2); (try clear hk); (try clear hi)) | ((with_reducible refine gate_callee (f := 15) rfl ?_); refine goesL_ (some 26) rfl rfl Tryd.func15 (by kernel_rfl) rfl #[.slice A1 l1.length c1, .slice A2 l2.length c2] rfl (by (try simp only [List.map_toArray, List.map_cons, List.map_nil]); first | done | rfl | (simp only [List.length_drop, List.length_take]; rfl)) ?_; (with_reducible refine (hagglerlaw04_Records.calls k _ _ l1 _ _ l2 t144 _ ?side1 ?side2 ?side3 ?side4 A7.out).mono ?_); (case side1 => repeat (first | exact (Kd.C_below HR1.out HB.out) | (with_reducible refine Kd.C_alloc ?_ _) | (with_reducible refine Kd.C_drewN ?_ _) | (with_reducible refine Kd.C_drew ?_))); (case side2 => exact HC1.out); (case side3 => repeat (first | exact (Kd.C_below HR2.out HB.out) | (with_reducible refine Kd.C_alloc ?_ _) | (with_reducible refine Kd.C_drewN ?_ _) | (with_reducible refine Kd.C_drew ?_))); (case side4 => exact HC2.out); rintro e w23 ⟨v145, rfl, ho0, hb⟩; refine ⟨_, rfl, ?_⟩; have n0_ := Aside0.mk (Kd.S_lower ho0 (below_size (by repeat (first | (with_reducible first | exact HB.out | apply below_alloc | apply pw_below_drewN | apply below_drew1) | exact HB.out)))); have n1_ := Aside0.mk (below_step (by repeat (first | (with_reducible first | exact HB.out | apply below_alloc | apply pw_below_drewN | apply below_drew1) | exact HB.out)) hb); clear HB; have HO146 := n0_; have HB := n1_; clear n0_ n1_; (try clear hb); (try clear hb2); (try clear hk); (try clear hi); (try clear ho0); obtain ⟨Ao24, co24, eo24⟩ := Kd.S_slice HO146.out; subst eo24) | ((with_reducible refine gate_callee (f := 20) rfl ?_); refine goesL_ (some 27) rfl rfl Tryd.func20 (by kernel_rfl) rfl #[.slice Ao24 t144.length co24] rfl (by (try simp only [List.map_toArray, List.map_cons, List.map_nil]); first | done | rfl | (simp only [List.length_drop, List.length_take]; rfl)) ?_; (with_reducible refine (hagglerlaw04_frames.calls k _ _ t144 t147 t148 _ ?side1 ?side2 A8.out (HG.out.below (by repeat (first | (with_reducible first | exact HB.out | apply below_alloc | apply pw_below_drewN | apply below_drew1) | exact HB.out)))).mono ?_); (case side1 => repeat (first | exact (Kd.S_reads' HO146.out).2.2 | (with_reducible refine Kd.C_alloc ?_ _) | (with_reducible refine Kd.C_drewN ?_ _) | (with_reducible refine Kd.C_drew ?_))); (case side2 => exact (Kd.S_reads' HO146.out).2.1); rintro e w25 ⟨rfl, hb⟩; refine ⟨_, rfl, ?_⟩; have n0_ := Aside0.mk (Kd.S_below (by (with_reducible repeat (first | apply Kd.S_alloc | apply Kd.S_drewN | apply Kd.S_drew)); exact HO146.out) hb); have n1_ := Aside0.mk (below_step (by repeat (first | (with_reducible first | exact HB.out | apply below_alloc | apply pw_below_drewN | apply below_drew1) | exact HB.out)) hb); clear HO146; clear HB; have HO146 := n0_; have HB := n1_; clear n0_ n1_; (try clear hb); (try clear hb2); (try clear hk); (try clear hi)) | ((with_reducible refine gate_callee (f := 16) rfl ?_); refine goesL_ (some 34) rfl rfl Tryd.func16 (by kernel_rfl) rfl #[.int .i64 a3, .int .i64 (wrap64 ((t147.size : Int) + 1))] rfl (by (try simp only [List.map_toArray, List.map_cons, List.map_nil]); first | done | rfl | (simp only [List.length_drop, List.length_take]; rfl)) ?_; (with_reducible refine (hagglerlaw04_pick.calls a3 (wrap64 ((t147.size : Int) + 1)) t149 _ A9.out).mono ?_); rintro e w' ⟨rfl, ⟨nd, rfl⟩⟩; refine ⟨_, rfl, ?_⟩))
                (try (rw [drewN_self w25]; generalize hq_ : World.drewN w25 _ = w25; have n0_ : Aside0 (Kd.S k24 24 w25 w.heap.size (fun _ => True) (.slice Ao24 t144.length co24) t144) := ⟨by rw [← hq_]; exact (by (with_reducible repeat (first | apply Kd.S_alloc | apply Kd.S_drewN | apply Kd.S_drew)); exact HO146.out)⟩; have n1_ : Aside0 (Below w.heap.size w w25) := ⟨by rw [← hq_]; exact (by repeat (first | (with_reducible first | exact HB.out | apply below_alloc | apply pw_below_drewN | apply below_drew1) | exact HB.out))⟩; clear HO146 HB hq_; have HO146 := n0_; have HB := n1_; clear n0_ n1_))
                have n0_ := Aside0.mk (Kd.S_drew HO146.out)
                have n1_ := Aside0.mk (below_drew1 HB.out)
                clear HO146
                clear HB
                have HO146 := n0_
                have HB := n1_
                clear n0_ n1_
                refine start_ (n := 29) (S := fun w' => True) (ds := []) #[false, false, false, false, false, false, false, false, false, false, false, false, false, false, false, false, false, false, false, false, false, false, false, false, false, false, false, false, false] (by kernel_rfl) rfl rfl trivial (fun hHeld => ?_); refine with_tabW hagglerlaw04_FrameAgain.tab4 hagglerlaw04_FrameAgain.bits4 (fun HT_ HW_ => ?_)
                generalize w25.drew = w26 at HO146 HB hHeld ⊢
                refine pure_ (i := 0) (N := some 35) (v := ?_) (a' := ?_) #[true, false, false, false, false, false, false, false, false, false, false, false, false, false, false, false, false, false, false, false, false, false, false, false, false, false, false, false, false] rfl rfl (any_of HT_.out (by kernel_rfl)) (fun _ _ _ h => h) (Or.inl ⟨by rfl, ?_⟩) ?_ ?_
                rotate_left
                · intro w'
                  go_simp
                  with_reducible rfl
                rotate_left
                · simp only [Act.put, List.setIfInBounds_toArray, List.set_cons_zero, List.set_cons_succ, i64_w, i32_w]
                  rfl
                refine pure_ (i := 1) (N := some 36) (v := ?_) (a' := ?_) #[true, true, false, false, false, false, false, false, false, false, false, false, false, false, false, false, false, false, false, false, false, false, false, false, false, false, false, false, false] rfl rfl (any_of HT_.out (by kernel_rfl)) (fun _ _ _ h => h) (Or.inl ⟨by rfl, ?_⟩) ?_ ?_
                rotate_left
                · intro w'
                  go_simp
                  with_reducible rfl
                rotate_left
                · simp only [Act.put, List.setIfInBounds_toArray, List.set_cons_zero, List.set_cons_succ, i64_w, i32_w]
                  rfl
                refine pure_ (i := 2) (N := some 37) (v := ?_) (a' := ?_) #[true, true, true, false, false, false, false, false, false, false, false, false, false, false, false, false, false, false, false, false, false, false, false, false, false, false, false, false, false] rfl rfl (any_of HT_.out (by kernel_rfl)) (fun _ _ _ h => h) (Or.inl ⟨by rfl, ?_⟩) ?_ ?_
                rotate_left
                · intro w'
                  go_simp
                  with_reducible rfl
                rotate_left
                · simp only [Act.put, List.setIfInBounds_toArray, List.set_cons_zero, List.set_cons_succ, i64_w, i32_w]
                  rfl
                refine pure_ (i := 3) (N := some 38) (v := ?_) (a' := ?_) #[true, true, true, true, false, false, false, false, false, false, false, false, false, false, false, false, false, false, false, false, false, false, false, false, false, false, false, false, false] rfl rfl (any_of HT_.out (by kernel_rfl)) (fun _ _ _ h => h) (Or.inl ⟨by rfl, ?_⟩) ?_ ?_
                rotate_left
                · intro w'
                  go_simp
                  with_reducible rfl
                rotate_left
                · simp only [Act.put, List.setIfInBounds_toArray, List.set_cons_zero, List.set_cons_succ, i64_w, i32_w]
                  rfl
                refine pure_ (i := 4) (N := some 39) (v := ?_) (a' := ?_) #[true, true, true, true, true, false, false, false, false, false, false, false, false, false, false, false, false, false, false, false, false, false, false, false, false, false, false, false, false] rfl rfl (any_of HT_.out (by kernel_rfl)) (fun _ _ _ h => h) (Or.inl ⟨by rfl, ?_⟩) ?_ ?_
                rotate_left
                · intro w'
                  go_simp
                  with_reducible rfl
                rotate_left
                · simp only [Act.put, List.setIfInBounds_toArray, List.set_cons_zero, List.set_cons_succ, i64_w, i32_w]
                  rfl
                refine pure_ (i := 5) (N := some 40) (v := ?_) (a' := ?_) #[true, true, true, true, true, true, false, false, false, false, false, false, false, false, false, false, false, false, false, false, false, false, false, false, false, false, false, false, false] rfl rfl (any_of HT_.out (by kernel_rfl)) (fun _ _ _ h => h) (Or.inl ⟨by rfl, ?_⟩) ?_ ?_
                rotate_left
                · intro w'
                  go_simp
                  with_reducible rfl
                rotate_left
                · simp only [Act.put, List.setIfInBounds_toArray, List.set_cons_zero, List.set_cons_succ, i64_w, i32_w]
                  rfl
                refine pure_ (i := 6) (N := some 41) (v := ?_) (a' := ?_) #[true, true, true, true, true, true, true, false, false, false, false, false, false, false, false, false, false, false, false, false, false, false, false, false, false, false, false, false, false] rfl rfl (any_of HT_.out (by kernel_rfl)) (fun _ _ _ h => h) (Or.inl ⟨by rfl, ?_⟩) ?_ ?_
                rotate_left
                · intro w'
                  go_simp
                  with_reducible rfl
                rotate_left
                · simp only [Act.put, List.setIfInBounds_toArray, List.set_cons_zero, List.set_cons_succ, i64_w, i32_w]
                  rfl
                refine pure_ (i := 7) (N := some 42) (v := ?_) (a' := ?_) #[true, true, true, true, true, true, true, true, false, false, false, false, false, false, false, false, false, false, false, false, false, false, false, false, false, false, false, false, false] rfl rfl (any_of HT_.out (by kernel_rfl)) (fun _ _ _ h => h) (Or.inl ⟨by rfl, ?_⟩) ?_ ?_
                rotate_left
                · intro w'
                  go_simp
                  with_reducible rfl
                rotate_left
                · simp only [Act.put, List.setIfInBounds_toArray, List.set_cons_zero, List.set_cons_succ, i64_w, i32_w]
                  rfl
                refine pure_ (i := 8) (N := some 43) (v := ?_) (a' := ?_) #[true, true, true, true, true, true, true, true, true, false, false, false, false, false, false, false, false, false, false, false, false, false, false, false, false, false, false, false, false] rfl rfl (any_of HT_.out (by kernel_rfl)) (fun _ _ _ h => h) (Or.inl ⟨by rfl, ?_⟩) ?_ ?_
                rotate_left
                · intro w'
                  go_simp
                  with_reducible rfl
                rotate_left
                · simp only [Act.put, List.setIfInBounds_toArray, List.set_cons_zero, List.set_cons_succ, i64_w, i32_w]
                  rfl
                refine pure_ (i := 9) (N := some 44) (v := ?_) (a' := ?_) #[true, true, true, true, true, true, true, true, true, true, false, false, false, false, false, false, false, false, false, false, false, false, false, false, false, false, false, false, false] rfl rfl (any_of HT_.out (by kernel_rfl)) (fun _ _ _ h => h) (Or.inl ⟨by rfl, ?_⟩) ?_ ?_
                rotate_left
                · intro w'
                  go_simp
                  with_reducible rfl
                rotate_left
                · simp only [Act.put, List.setIfInBounds_toArray, List.set_cons_zero, List.set_cons_succ, i64_w, i32_w]
                  rfl
                refine pure_ (i := 10) (N := some 45) (v := ?_) (a' := ?_) #[true, true, true, true, true, true, true, true, true, true, true, false, false, false, false, false, false, false, false, false, false, false, false, false, false, false, false, false, false] rfl rfl (any_of HT_.out (by kernel_rfl)) (fun _ _ _ h => h) (Or.inl ⟨by rfl, ?_⟩) ?_ ?_
                rotate_left
                · intro w'
                  go_simp
                  with_reducible rfl
                rotate_left
                · simp only [Act.put, List.setIfInBounds_toArray, List.set_cons_zero, List.set_cons_succ, i64_w, i32_w]
                  rfl
                refine pure_ (i := 11) (N := some 46) (v := ?_) (a' := ?_) #[true, true, true, true, true, true, true, true, true, true, true, true, false, false, false, false, false, false, false, false, false, false, false, false, false, false, false, false, false] rfl rfl (any_of HT_.out (by kernel_rfl)) (fun _ _ _ h => h) (Or.inl ⟨by rfl, ?_⟩) ?_ ?_
                rotate_left
                · intro w'
                  go_simp
                  with_reducible rfl
                rotate_left
                · simp only [Act.put, List.setIfInBounds_toArray, List.set_cons_zero, List.set_cons_succ, i64_w, i32_w]
                  rfl
                refine pure_ (i := 12) (N := some 47) (v := ?_) (a' := ?_) #[true, true, true, true, true, true, true, true, true, true, true, true, true, false, false, false, false, false, false, false, false, false, false, false, false, false, false, false, false] rfl rfl (any_of HT_.out (by kernel_rfl)) (fun _ _ _ h => h) (Or.inl ⟨by rfl, ?_⟩) ?_ ?_
                rotate_left
                · intro w'
                  go_simp
                  with_reducible rfl
                rotate_left
                · simp only [Act.put, List.setIfInBounds_toArray, List.set_cons_zero, List.set_cons_succ, i64_w, i32_w]
                  rfl
                refine pure_ (i := 13) (N := some 48) (v := ?_) (a' := ?_) #[true, true, true, true, true, true, true, true, true, true, true, true, true, true, false, false, false, false, false, false, false, false, false, false, false, false, false, false, false] rfl rfl (any_of HT_.out (by kernel_rfl)) (fun _ _ _ h => h) (Or.inl ⟨by rfl, ?_⟩) ?_ ?_
                rotate_left
                · intro w'
                  go_simp
                  with_reducible rfl
                rotate_left
                · simp only [Act.put, List.setIfInBounds_toArray, List.set_cons_zero, List.set_cons_succ, i64_w, i32_w]
                  rfl
                refine pure_ (i := 14) (N := some 49) (v := ?_) (a' := ?_) #[true, true, true, true, true, true, true, true, true, true, true, true, true, true, true, false, false, false, false, false, false, false, false, false, false, false, false, false, false] rfl rfl (any_of HT_.out (by kernel_rfl)) (fun _ _ _ h => h) (Or.inl ⟨by rfl, ?_⟩) ?_ ?_
                rotate_left
                · intro w'
                  go_simp
                  with_reducible rfl
                rotate_left
                · simp only [Act.put, List.setIfInBounds_toArray, List.set_cons_zero, List.set_cons_succ, i64_w, i32_w]
                  rfl
                refine pure_ (i := 15) (N := some 50) (v := ?_) (a' := ?_) #[true, true, true, true, true, true, true, true, true, true, true, true, true, true, true, true, false, false, false, false, false, false, false, false, false, false, false, false, false] rfl rfl (any_of HT_.out (by kernel_rfl)) (fun _ _ _ h => h) (Or.inl ⟨by rfl, ?_⟩) ?_ ?_
                rotate_left
                · intro w'
                  go_simp
                  with_reducible rfl
                rotate_left
                · simp only [Act.put, List.setIfInBounds_toArray, List.set_cons_zero, List.set_cons_succ, i64_w, i32_w]
                  rfl
                refine pure_ (i := 16) (N := some 51) (v := ?_) (a' := ?_) #[true, true, true, true, true, true, true, true, true, true, true, true, true, true, true, true, true, false, false, false, false, false, false, false, false, false, false, false, false] rfl rfl (any_of HT_.out (by kernel_rfl)) (fun _ _ _ h => h) (Or.inl ⟨by rfl, ?_⟩) ?_ ?_
                rotate_left
                · intro w'
                  go_simp
                  with_reducible rfl
                rotate_left
                · simp only [Act.put, List.setIfInBounds_toArray, List.set_cons_zero, List.set_cons_succ, i64_w, i32_w]
                  rfl
                refine pure_ (i := 17) (N := some 52) (v := ?_) (a' := ?_) #[true, true, true, true, true, true, true, true, true, true, true, true, true, true, true, true, true, true, false, false, false, false, false, false, false, false, false, false, false] rfl rfl (any_of HT_.out (by kernel_rfl)) (fun _ _ _ h => h) (Or.inl ⟨by rfl, ?_⟩) ?_ ?_
                rotate_left
                · intro w'
                  go_simp
                  with_reducible rfl
                rotate_left
                · simp only [Act.put, List.setIfInBounds_toArray, List.set_cons_zero, List.set_cons_succ, i64_w, i32_w]
                  rfl
                refine pure_ (i := 18) (N := some 53) (v := ?_) (a' := ?_) #[true, true, true, true, true, true, true, true, true, true, true, true, true, true, true, true, true, true, true, false, false, false, false, false, false, false, false, false, false] rfl rfl (any_of HT_.out (by kernel_rfl)) (fun _ _ _ h => h) (Or.inl ⟨by rfl, ?_⟩) ?_ ?_
                rotate_left
                · intro w'
                  go_simp
                  with_reducible rfl
                rotate_left
                · simp only [Act.put, List.setIfInBounds_toArray, List.set_cons_zero, List.set_cons_succ, i64_w, i32_w]
                  rfl
                refine pure_ (i := 19) (N := some 54) (v := ?_) (a' := ?_) #[true, true, true, true, true, true, true, true, true, true, true, true, true, true, true, true, true, true, true, true, false, false, false, false, false, false, false, false, false] rfl rfl (any_of HT_.out (by kernel_rfl)) (fun _ _ _ h => h) (Or.inl ⟨by rfl, ?_⟩) ?_ ?_
                rotate_left
                · intro w'
                  go_simp
                  with_reducible rfl
                rotate_left
                · simp only [Act.put, List.setIfInBounds_toArray, List.set_cons_zero, List.set_cons_succ, i64_w, i32_w]
                  rfl
                refine pure_ (i := 20) (N := some 55) (v := ?_) (a' := ?_) #[true, true, true, true, true, true, true, true, true, true, true, true, true, true, true, true, true, true, true, true, true, false, false, false, false, false, false, false, false] rfl rfl (any_of HT_.out (by kernel_rfl)) (fun _ _ _ h => h) (Or.inl ⟨by rfl, ?_⟩) ?_ ?_
                rotate_left
                · intro w'
                  go_simp
                  with_reducible rfl
                rotate_left
                · simp only [Act.put, List.setIfInBounds_toArray, List.set_cons_zero, List.set_cons_succ, i64_w, i32_w]
                  rfl
                refine pure_ (i := 21) (N := some 56) (v := ?_) (a' := ?_) #[true, true, true, true, true, true, true, true, true, true, true, true, true, true, true, true, true, true, true, true, true, true, false, false, false, false, false, false, false] rfl rfl (any_of HT_.out (by kernel_rfl)) (fun _ _ _ h => h) (Or.inl ⟨by rfl, ?_⟩) ?_ ?_
                rotate_left
                · intro w'
                  go_simp
                  with_reducible rfl
                rotate_left
                · simp only [Act.put, List.setIfInBounds_toArray, List.set_cons_zero, List.set_cons_succ, i64_w, i32_w]
                  rfl
                refine pure_ (i := 22) (N := some 57) (v := ?_) (a' := ?_) #[true, true, true, true, true, true, true, true, true, true, true, true, true, true, true, true, true, true, true, true, true, true, true, false, false, false, false, false, false] rfl rfl (any_of HT_.out (by kernel_rfl)) (fun _ _ _ h => h) (Or.inl ⟨by rfl, ?_⟩) ?_ ?_
                rotate_left
                · intro w'
                  go_simp
                  with_reducible rfl
                rotate_left
                · simp only [Act.put, List.setIfInBounds_toArray, List.set_cons_zero, List.set_cons_succ, i64_w, i32_w]
                  rfl
                refine pure_ (i := 23) (N := some 58) (v := ?_) (a' := ?_) #[true, true, true, true, true, true, true, true, true, true, true, true, true, true, true, true, true, true, true, true, true, true, true, true, false, false, false, false, false] rfl rfl (any_of HT_.out (by kernel_rfl)) (fun _ _ _ h => h) (Or.inl ⟨by rfl, ?_⟩) ?_ ?_
                rotate_left
                · intro w'
                  go_simp
                  with_reducible rfl
                rotate_left
                · simp only [Act.put, List.setIfInBounds_toArray, List.set_cons_zero, List.set_cons_succ, i64_w, i32_w]
                  rfl
                refine pure_ (i := 24) (N := some 59) (v := ?_) (a' := ?_) #[true, true, true, true, true, true, true, true, true, true, true, true, true, true, true, true, true, true, true, true, true, true, true, true, true, false, false, false, false] rfl rfl (any_of HT_.out (by kernel_rfl)) (fun _ _ _ h => h) (Or.inl ⟨by rfl, ?_⟩) ?_ ?_
                rotate_left
                · intro w'
                  go_simp
                  with_reducible rfl
                rotate_left
                · simp only [Act.put, List.setIfInBounds_toArray, List.set_cons_zero, List.set_cons_succ, i64_w, i32_w]
                  rfl
                refine pure_ (i := 25) (N := some 60) (v := ?_) (a' := ?_) #[true, true, true, true, true, true, true, true, true, true, true, true, true, true, true, true, true, true, true, true, true, true, true, true, true, true, false, false, false] rfl rfl (any_of HT_.out (by kernel_rfl)) (fun _ _ _ h => h) (Or.inl ⟨by rfl, ?_⟩) ?_ ?_
                rotate_left
                · intro w'
                  go_simp
                  with_reducible rfl
                rotate_left
                · simp only [Act.put, List.setIfInBounds_toArray, List.set_cons_zero, List.set_cons_succ, i64_w, i32_w]
                  rfl
                refine pure_ (i := 28) (N := some 63) (v := ?_) (a' := ?_) #[true, true, true, true, true, true, true, true, true, true, true, true, true, true, true, true, true, true, true, true, true, true, true, true, true, true, false, false, true] rfl rfl (any_of HT_.out (by kernel_rfl)) (fun _ _ _ h => h) (Or.inl ⟨by rfl, ?_⟩) ?_ ?_
                rotate_left
                · intro w'
                  go_simp
                  with_reducible rfl
                rotate_left
                · simp only [Act.put, List.setIfInBounds_toArray, List.set_cons_zero, List.set_cons_succ, i64_w, i32_w]
                  rfl
                refine one_ (i := 26) (N := some 61) #[true, true, true, true, true, true, true, true, true, true, true, true, true, true, true, true, true, true, true, true, true, true, true, true, true, true, true, false, true] rfl rfl (one_of HT_.out (by kernel_rfl)) (by decide) (fun K hK => ?_)
                refine Kd.R_lit_step Kd.string _ 9 ?hg (N := 61) ?hd (xs := ([a0, t147, ((t147.extract 0 (t149 : Int).toNat) ++ a4) ++ (t147.extract ((ji13) : Int).toNat t147.size), ((t147.extract 0 (t149 : Int).toNat) ++ a4) ++ (t147.extract (t149 : Int).toNat t147.size)] : List ByteArray)) (inner := [.string a0, .string t147, .string (((t147.extract 0 (t149 : Int).toNat) ++ a4) ++ (t147.extract ((ji13) : Int).toNat t147.size)), .string (((t147.extract 0 (t149 : Int).toNat) ++ a4) ++ (t147.extract (t149 : Int).toNat t147.size))]) (ok := fun _ => True) (okp := fun _ => True) ?hr ?hp (fun _ hk => hk) trivial (Below.refl _ _) (Nat.le_refl _) (by simp) ?_; (case hd => rfl); (case hg => rfl); (case hr => first | (go_simp; done) | (go_simp; rfl)); (case hp => exact (Reps.one (show Kd.M Kd.string _ _ _ a0 [.string a0] from rfl) (Reps.one (show Kd.M Kd.string _ _ _ t147 [.string t147] from rfl) (Reps.one (show Kd.M Kd.string _ _ _ (((t147.extract 0 (t149 : Int).toNat) ++ a4) ++ (t147.extract ((ji13) : Int).toNat t147.size)) [.string (((t147.extract 0 (t149 : Int).toNat) ++ a4) ++ (t147.extract ((ji13) : Int).toNat t147.size))] from rfl) (Reps.one (show Kd.M Kd.string _ _ _ (((t147.extract 0 (t149 : Int).toNat) ++ a4) ++ (t147.extract (t149 : Int).toNat t147.size)) [.string (((t147.extract 0 (t149 : Int).toNat) ++ a4) ++ (t147.extract (t149 : Int).toNat t147.size))] from rfl) (Reps.none _ _))))))
                intro v151 w27 ho28 hb hg_ hnew_
                clear hg_ hnew_
                (first | rw [← Ny150.out] at ho28 | (simp only [Int.reduceToNat] at ho28; rw [← Ny150.out] at ho28))
                have n0_ := Aside0.mk (Kd.S_below (by (with_reducible repeat (first | apply Kd.S_alloc | apply Kd.S_drewN | apply Kd.S_drew)); exact HO146.out) hb)
                have n1_ := Aside0.mk (Kd.R_lower ho28 (below_size (by repeat (first | (with_reducible first | exact HB.out | apply below_alloc | apply pw_below_drewN | apply below_drew1) | exact HB.out))))
                have n2_ := Aside0.mk (below_step (by repeat (first | (with_reducible first | exact HB.out | apply below_alloc | apply pw_below_drewN | apply below_drew1) | exact HB.out)) hb)
                clear HO146
                clear HB
                have HO146 := n0_
                have HO152 := n1_
                have HB := n2_
                clear n0_ n1_ n2_
                clear hb ho28
                obtain ⟨Ao29, co29, eo29⟩ := Kd.R_slice HO152.out
                (first | subst eo29 | (injection eo29 with f1_ f2_ f3_; have f4_ := f1_.symm; have f5_ := f3_.symm; clear f1_ f2_ f3_; subst f4_; subst f5_))
                refine hK.out _ _ trivial (fun hHeld => ?_)
                clear hK K
                refine norm_ (a' := ?_) ?_ ?_
                rotate_left
                · show Act.put _ (some 61) _ = _
                  simp only [Act.put, List.setIfInBounds_toArray, List.set_cons_zero, List.set_cons_succ, i64_w, i32_w]
                  rfl
                refine pure_ (i := 27) (N := some 62) (v := ?_) (a' := ?_) #[true, true, true, true, true, true, true, true, true, true, true, true, true, true, true, true, true, true, true, true, true, true, true, true, true, true, true, true, true] rfl rfl (any_of HT_.out (by kernel_rfl)) (fun _ _ _ h => h) (Or.inl ⟨by rfl, ?_⟩) ?_ ?_
                rotate_left
                · intro w'
                  go_simp
                  with_reducible rfl
                rotate_left
                · simp only [Act.put, List.setIfInBounds_toArray, List.set_cons_zero, List.set_cons_succ, i64_w, i32_w]
                  rfl
                refine done_ (done_of HT_.out (by kernel_rfl)) ?_
                try go_wp2
                go_loopg [63] k (fun kq v63 w' => ∃ (x63_1 : Int), v63 = .int .i64 x63_1 ∧ Aside0 (hagglerlaw04_FrameAgain.l0 kq t143 t147 y150 (y150.length : Int) x63_1 = some r) ∧ Aside0 (kq ≤ k) ∧ Aside0 (Kd.R Kd.string 9 w' w.heap.size (fun _ => True) (.slice Ao29 y150.length co29) y150) ∧ Aside0 (Below w.heap.size w w'))
                case atStart => exact ⟨(0), (by first | rfl | (simp; done) | (simp [*]; done)), H', ⟨Nat.le_refl _⟩, ⟨by (with_reducible repeat (first | apply Kd.R_alloc | apply Kd.R_drewN | apply Kd.R_drew)); exact HO152.out⟩, ⟨by repeat (first | (with_reducible first | exact HB.out | apply below_alloc | apply pw_below_drewN | apply below_drew1) | exact HB.out)⟩⟩
                case round =>
                  clear H'
                  try clear c1
                  try clear c2
                  try clear p2
                  try clear p6
                  try clear c9
                  try clear c10
                  try clear c10b0
                  try clear c10b1
                  try clear c11
                  try clear c11b0
                  try clear c11b1
                  try clear c12
                  try clear c12b0
                  try clear c12b1
                  try clear c12b2
                  try clear c14
                  try clear c14b0
                  try clear c14b1
                  try clear c15
                  try clear c15b0
                  try clear c15b1
                  try clear c16
                  try clear c16b0
                  try clear c16b1
                  try clear c16b2
                  try clear c17
                  try clear c17b0
                  try clear c18
                  try clear c18b0
                  try clear c19
                  try clear c19b0
                  try clear c20
                  try clear c20b0
                  try clear c21
                  try clear c21b0
                  try clear c21b1
                  try clear c21b2
                  obtain ⟨x63_1, rfl, HA, HK1, HO_61, HB⟩ := hrel
                  cases gk with
                  | zero => exact absurd HA.out (by simp [hagglerlaw04_FrameAgain.l0])
                  | succ k1 =>
                    have H := HA.out
                    clear HA
                    simp only [hagglerlaw04_FrameAgain.l0] at H
                    by_cases c30 : x63_1 < (y150.length : Int)
                    · rw [if_pos c30] at H
                      have c30b0 : decide (x63_1 < (y150.length : Int)) = true := decide_eq_true c30
                      clear c30
                      by_cases c31 : 0 ≤ x63_1
                      · rw [if_pos c31] at H
                        have c31b0 : decide (0 ≤ x63_1) = true := decide_eq_true c31
                        clear c31
                        by_cases c32 : x63_1 < (y150.length : Int)
                        · rw [if_pos c32] at H
                          have c32b0 : decide (x63_1 < (y150.length : Int)) = true := decide_eq_true c32
                          clear c32
                          replace H := Option.bind_eq_some_iff.mp H
                          obtain ⟨⟨t154, t155, t156⟩, A330, H⟩ := H
                          replace H : ((hagglerlaw04_frames.f k1 t154).bind fun bt159 => (if bt159.2 = true then (if t155 < 0 then (some false) else (if t155 > ((rdOf ByteArray.empty y150 x63_1).size : Int) then (some false) else (if 0 ≤ t155 then (if t155 ≤ ((rdOf ByteArray.empty y150 x63_1).size : Int) then (if bt159.1.toList = ((rdOf ByteArray.empty y150 x63_1).extract 0 (t155 : Int).toNat).toList then (hagglerlaw04_FrameAgain.l0 k1 t143 t147 y150 (y150.length : Int) (wrap64 (x63_1 + 1))) else (some false)) else (none)) else (none)))) else (some false))) = some r := H
                          have A33 := Aside0.mk A330
                          clear A330
                          replace H := Option.bind_eq_some_iff.mp H
                          obtain ⟨⟨t159, t160⟩, A340, H⟩ := H
                          replace H : (if t160 = true then (if t155 < 0 then (some false) else (if t155 > ((rdOf ByteArray.empty y150 x63_1).size : Int) then (some false) else (if 0 ≤ t155 then (if t155 ≤ ((rdOf ByteArray.empty y150 x63_1).size : Int) then (if t159.toList = ((rdOf ByteArray.empty y150 x63_1).extract 0 (t155 : Int).toNat).toList then (hagglerlaw04_FrameAgain.l0 k1 t143 t147 y150 (y150.length : Int) (wrap64 (x63_1 + 1))) else (some false)) else (none)) else (none)))) else (some false)) = some r := H
                          have A34 := Aside0.mk A340
                          clear A340
                          by_cases c35 : t160 = true
                          · subst c35
                            have H1 : (if t155 < 0 then (some false) else (if t155 > ((rdOf ByteArray.empty y150 x63_1).size : Int) then (some false) else (if 0 ≤ t155 then (if t155 ≤ ((rdOf ByteArray.empty y150 x63_1).size : Int) then (if t159.toList = ((rdOf ByteArray.empty y150 x63_1).extract 0 (t155 : Int).toNat).toList then (hagglerlaw04_FrameAgain.l0 k1 t143 t147 y150 (y150.length : Int) (wrap64 (x63_1 + 1))) else (some false)) else (none)) else (none)))) = some r := by rw [if_pos rfl] at H; exact H
                            clear H
                            have H := H1
                            clear H1
                            by_cases c36 : t155 < 0
                            · rw [if_pos c36] at H
                              have c36b0 : decide (t155 < 0) = true := decide_eq_true c36
                              clear c36
                              exact absurd ((Option.some.inj H).trans hr.out) (by decide)
                            · rw [if_neg c36] at H
                              have c36b0 : decide (t155 < 0) = false := decide_eq_false c36
                              clear c36
                              by_cases c37 : t155 > ((rdOf ByteArray.empty y150 x63_1).size : Int)
                              · rw [if_pos c37] at H
                                have c37b0 : decide (((rdOf ByteArray.empty y150 x63_1).size : Int) < t155) = true := decide_eq_true c37
                                clear c37
                                exact absurd ((Option.some.inj H).trans hr.out) (by decide)
                              · rw [if_neg c37] at H
                                have c37b0 : decide (((rdOf ByteArray.empty y150 x63_1).size : Int) < t155) = false := decide_eq_false c37
                                clear c37
                                by_cases c38 : 0 ≤ t155
                                · rw [if_pos c38] at H
                                  have c38b0 := eq_true c38
                                  have c38b1 : decide (0 ≤ t155) = true := decide_eq_true c38
                                  clear c38
                                  by_cases c39 : t155 ≤ ((rdOf ByteArray.empty y150 x63_1).size : Int)
                                  · rw [if_pos c39] at H
                                    have c39b0 := eq_true c39
                                    have c39b1 : decide (t155 ≤ ((rdOf ByteArray.empty y150 x63_1).size : Int)) = true := decide_eq_true c39
                                    clear c39
                                    by_cases c40 : t159.toList = ((rdOf ByteArray.empty y150 x63_1).extract 0 (t155 : Int).toNat).toList
                                    · rw [if_pos c40] at H
                                      have c40b0 : (t159.toList == ((rdOf ByteArray.empty y150 x63_1).extract 0 (t155 : Int).toNat).toList) = true := beq_iff_eq.mpr c40
                                      (try (have c40b0t := c40b0; simp only [Int.toNat_natCast] at c40b0t))
                                      have c40b1 : (t159.toList != ((rdOf ByteArray.empty y150 x63_1).extract 0 (t155 : Int).toNat).toList) = false := bne_eq_false_iff_eq.mpr c40
                                      (try (have c40b1t := c40b1; simp only [Int.toNat_natCast] at c40b1t))
                                      clear c40
                                      have H' := Aside0.mk H
                                      clear H
                                      have p153 : 0 ≤ (x63_1 : Int) := of_decide_eq_true (by first | (with_reducible assumption) | assumption)
                                      have q153 : x63_1 < (y150.length : Int) := of_decide_eq_true (by first | (with_reducible assumption) | assumption)
                                      obtain ⟨ad153, e153, hx153_0⟩ := Kd.at_string (Kd.R_reads' HO_61.out).2.2 x63_1 p153 q153
                                      cases e153
                                      replace p153 := eq_true p153
                                      replace q153 := eq_true q153
                                      go_wp2_with (first | ((with_reducible refine gate_callee (f := 17) rfl ?_); refine goesL_ (some 69) rfl rfl Tryd.func17 (by kernel_rfl) rfl #[.string (rdOf ByteArray.empty y150 x63_1)] rfl (by (try simp only [List.map_toArray, List.map_cons, List.map_nil]); first | done | rfl | (simp only [List.length_drop, List.length_take]; rfl)) ?_; (with_reducible refine (frame_Scan.calls (rdOf ByteArray.empty y150 x63_1) t154 t155 t156 _ A33.out (HG.out.below (by repeat (first | (with_reducible first | exact HB.out | apply below_alloc | apply pw_below_drewN | apply below_drew1) | exact HB.out)))).mono ?_); rintro e w41 ⟨v157, rfl, ho0, hb⟩; refine ⟨_, rfl, ?_⟩; have n0_ := Aside0.mk (Kd.R_below (by (with_reducible repeat (first | apply Kd.R_alloc | apply Kd.R_drewN | apply Kd.R_drew)); exact HO_61.out) hb); have n1_ := Aside0.mk (Kd.S_lower ho0 (below_size (by repeat (first | (with_reducible first | exact HB.out | apply below_alloc | apply pw_below_drewN | apply below_drew1) | exact HB.out)))); have n2_ := Aside0.mk (below_step (by repeat (first | (with_reducible first | exact HB.out | apply below_alloc | apply pw_below_drewN | apply below_drew1) | exact HB.out)) hb); clear HO_61; clear HB; have HO_61 := n0_; have HO158 := n1_; have HB := n2_; clear n0_ n1_ n2_; (try clear hb); (try clear hb2); (try clear hk); (try clear hi); (try clear ho0); obtain ⟨Ao42, co42, eo42⟩ := Kd.S_slice HO158.out; subst eo42) | ((with_reducible refine gate_callee (f := 20) rfl ?_); refine goesL_ (some 75) rfl rfl Tryd.func20 (by kernel_rfl) rfl #[.slice Ao42 t154.length co42] rfl (by (try simp only [List.map_toArray, List.map_cons, List.map_nil]); first | done | rfl | (simp only [List.length_drop, List.length_take]; rfl)) ?_; (with_reducible refine (hagglerlaw04_frames.calls k1 _ _ t154 t159 true _ ?side1 ?side2 A34.out (HG.out.below (by repeat (first | (with_reducible first | exact HB.out | apply below_alloc | apply pw_below_drewN | apply below_drew1) | exact HB.out)))).mono ?_); (case side1 => repeat (first | exact (Kd.S_reads' HO158.out).2.2 | (with_reducible refine Kd.C_alloc ?_ _) | (with_reducible refine Kd.C_drewN ?_ _) | (with_reducible refine Kd.C_drew ?_))); (case side2 => exact (Kd.S_reads' HO158.out).2.1); rintro e w43 ⟨rfl, hb⟩; refine ⟨_, rfl, ?_⟩; have n0_ := Aside0.mk (Kd.R_below (by (with_reducible repeat (first | apply Kd.R_alloc | apply Kd.R_drewN | apply Kd.R_drew)); exact HO_61.out) hb); have n1_ := Aside0.mk (Kd.S_below (by (with_reducible repeat (first | apply Kd.S_alloc | apply Kd.S_drewN | apply Kd.S_drew)); exact HO158.out) hb); have n2_ := Aside0.mk (below_step (by repeat (first | (with_reducible first | exact HB.out | apply below_alloc | apply pw_below_drewN | apply below_drew1) | exact HB.out)) hb); clear HO_61; clear HO158; clear HB; have HO_61 := n0_; have HO158 := n1_; have HB := n2_; clear n0_ n1_ n2_; (try clear hb); (try clear hb2); (try clear hk); (try clear hi)))
                                      go_roundg k1
                                      case measure => have := HK1.out; omega
                                      case rel => exact ⟨(wrap64 (x63_1 + 1)), (by first | rfl | (simp; done) | (simp [*]; done)), H', ⟨by have := HK1.out; omega⟩, ⟨by (with_reducible repeat (first | apply Kd.R_alloc | apply Kd.R_drewN | apply Kd.R_drew)); exact HO_61.out⟩, ⟨by repeat (first | (with_reducible first | exact HB.out | apply below_alloc | apply pw_below_drewN | apply below_drew1) | exact HB.out)⟩⟩
                                    · rw [if_neg c40] at H
                                      have c40b0 : (t159.toList == ((rdOf ByteArray.empty y150 x63_1).extract 0 (t155 : Int).toNat).toList) = false := beq_eq_false_iff_ne.mpr c40
                                      (try (have c40b0t := c40b0; simp only [Int.toNat_natCast] at c40b0t))
                                      have c40b1 : (t159.toList != ((rdOf ByteArray.empty y150 x63_1).extract 0 (t155 : Int).toNat).toList) = true := bne_iff_ne.mpr c40
                                      (try (have c40b1t := c40b1; simp only [Int.toNat_natCast] at c40b1t))
                                      exact absurd ((Option.some.inj H).trans hr.out) (by decide)
                                  · rw [if_neg c39] at H
                                    exact absurd H (by simp)
                                · rw [if_neg c38] at H
                                  exact absurd H (by simp)
                          · replace c35 := Bool.eq_false_iff.mpr c35
                            subst c35
                            have H1 : (some false) = some r := by rw [if_neg (show ¬ (false = true) by decide)] at H; exact H
                            clear H
                            have H := H1
                            clear H1
                            exact absurd ((Option.some.inj H).trans hr.out) (by decide)
                        · rw [if_neg c32] at H
                          exact absurd H (by simp)
                      · rw [if_neg c31] at H
                        exact absurd H (by simp)
                    · rw [if_neg c30] at H
                      have c30b0 : decide (x63_1 < (y150.length : Int)) = false := decide_eq_false c30
                      clear c30
                      by_cases c44 : t143 = true
                      · subst c44
                        have H1 : (some (decide ((t147.size : Int) ≥ 0))) = some r := by rw [if_pos rfl] at H; exact H
                        clear H
                        have H := H1
                        clear H1
                        obtain rfl := Option.some.inj H
                        go_wp2
                        go_ret
                        exact ⟨by first | rfl | (simp [errW_none, errW_some] <;> rfl) | (simp only [← hji13]; first | rfl | (simp [errW_none, errW_some] <;> rfl)) | (simp [*, errW_none, errW_some] <;> rfl), by repeat (first | (with_reducible first | exact HB.out | apply below_alloc | apply pw_below_drewN | apply below_drew1) | exact HB.out)⟩
                      · replace c44 := Bool.eq_false_iff.mpr c44
                        subst c44
                        have H1 : (some false) = some r := by rw [if_neg (show ¬ (false = true) by decide)] at H; exact H
                        clear H
                        have H := H1
                        clear H1
                        exact absurd ((Option.some.inj H).trans hr.out) (by decide)
              · rw [if_neg c21] at H
                exact absurd H (by simp)
            · rw [if_neg c16] at H
              exact absurd H (by simp)
          · rw [if_neg c15] at H
            exact absurd H (by simp)
        · rw [if_neg c14] at H
          exact absurd H (by simp)
      · rw [if_neg c12] at H
        exact absurd H (by simp)
    · rw [if_neg c11] at H
      exact absurd H (by simp)
  · rw [if_neg c10] at H
    exact absurd H (by simp)

end Go.Proofs.YthidhmfejnjdhaaDoor.HFrameAgain
