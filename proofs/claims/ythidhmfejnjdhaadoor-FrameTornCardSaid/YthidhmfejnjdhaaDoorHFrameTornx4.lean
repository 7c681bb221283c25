-- Written by a program of ours (hprint.py) for this claim, over the print of the kit.
import Derived.Test.YthidhmfejnjdhaaDoorHFrameTornx0
import Derived.Test.YthidhmfejnjdhaaDoorHFrameTornx1
import Derived.Test.YthidhmfejnjdhaaDoorHFrameTornx2
import Derived.Test.YthidhmfejnjdhaaDoorHFrameTornx3
namespace Go.Proofs.YthidhmfejnjdhaaDoor.HFrameTorn
open Go.RowKit Go.Proofs.YthidhmfejnjdhaaDoorW.PrintWords Go.Proofs.YthidhmfejnjdhaaDoorW.PrintLast Go.Proofs.YthidhmfejnjdhaaDoorW.PrintMore Go.Proofs.YthidhmfejnjdhaaDoor.FrameG
attribute [local go_sem] max2_int min2_int max_two min_two max_three min_three max_four min_four   -- for this text's walks alone
set_option linter.unusedVariables false
set_option linter.unusedSimpArgs false

/-! ### hagglerlaw04_FrameTorn: function 5 -/
noncomputable def hagglerlaw04_FrameTorn.j0 : Nat → List (S24) → ByteArray → Int → List (S24) → Int → Bool → Option (Bool)
  | 0, _, _, _, _, _, _ => none
  | k + 1, x8, x9, x11, x12, x13, x71 => if x71 = true then (some false) else (if 0 ≤ (x12.length : Int) then (if (x12.length : Int) ≤ (x8.length : Int) then ((hagglerlaw04_frames.f k (x8.take ((x12.length : Int) : Int).toNat)).bind fun bt175 => (if (bt175.1.size : Int) = x13 then (if (x12.length : Int) < (x8.length : Int) then (if 0 ≤ (wrap64 ((x12.length : Int) + 1)) then (if (wrap64 ((x12.length : Int) + 1)) ≤ (x8.length : Int) then ((hagglerlaw04_frames.f k (x8.take ((wrap64 ((x12.length : Int) + 1)) : Int).toNat)).bind fun bt181 => (some (decide ((bt181.1.size : Int) > x11)))) else (none)) else (none)) else (some (x13 == (x9.size : Int)))) else (some false))) else (none)) else (none))
noncomputable def hagglerlaw04_FrameTorn.f (k : Nat) (l0 : List (List Int)) (l1 : List ByteArray) (a2 : Int) : Option (Bool) := (hagglerlaw04_awake.f).bind fun t154 => ((hagglerlaw04_Records.f k l0 l1).bind fun t155 => ((hagglerlaw04_frames.f k t155).bind fun bt158 => ((hagglerlaw04_pick.f a2 (wrap64 ((bt158.1.size : Int) + 1))).bind fun t160 => (if 0 ≤ t160 then (if t160 ≤ (bt158.1.size : Int) then ((frame_Scan.f (bt158.1.extract 0 (t160 : Int).toNat)).bind fun bt161 => (if t154 = true then (if bt158.2 = true then (if bt161.2.2 = 0 then (if bt161.2.1 > t160 then (hagglerlaw04_FrameTorn.j0 k t155 bt158.1 t160 bt161.1 bt161.2.1 true) else (if (bt161.1.length : Int) > (t155.length : Int) then (hagglerlaw04_FrameTorn.j0 k t155 bt158.1 t160 bt161.1 bt161.2.1 true) else (if 0 ≤ (bt161.1.length : Int) then (if (bt161.1.length : Int) ≤ (t155.length : Int) then ((hagglerref04_Same.f k bt161.1 (t155.take ((bt161.1.length : Int) : Int).toNat)).bind fun t170 => (hagglerlaw04_FrameTorn.j0 k t155 bt158.1 t160 bt161.1 bt161.2.1 (!t170))) else (none)) else (none)))) else (hagglerlaw04_FrameTorn.j0 k t155 bt158.1 t160 bt161.1 bt161.2.1 true)) else (hagglerlaw04_FrameTorn.j0 k t155 bt158.1 t160 bt161.1 bt161.2.1 true)) else (hagglerlaw04_FrameTorn.j0 k t155 bt158.1 t160 bt161.1 bt161.2.1 true))) else (none)) else (none)))))
theorem hagglerlaw04_FrameTorn.mono_l : ∀ k, (∀ y0 y1 y2 y3 y4 y5, LeO (hagglerlaw04_FrameTorn.j0 k y0 y1 y2 y3 y4 y5) (hagglerlaw04_FrameTorn.j0 (k + 1) y0 y1 y2 y3 y4 y5))
  | 0 => fun _ _ _ _ _ _ r h => by simp [hagglerlaw04_FrameTorn.j0] at h
  | k + 1 => by
    have ih0 := hagglerlaw04_FrameTorn.mono_l k
    · intro y0 y1 y2 y3 y4 y5
      unfold hagglerlaw04_FrameTorn.j0
      repeat' first
      | (with_reducible exact ih0 _ _ _ _ _ _)
      | (with_reducible exact hagglerlaw04_Records.mono _ _ _)
      | (with_reducible exact hagglerlaw04_frames.mono _ _)
      | (with_reducible exact hagglerref04_Same.mono _ _ _)
      | (with_reducible exact LeO.refl _)
      | (with_reducible exact LeO.none _)
      | (with_reducible refine LeO.ite ?_ ?_)
      | (with_reducible refine LeO.bind ?_ (fun _ => ?_))
      | exact ih0 _ _ _ _ _ _
      | exact hagglerlaw04_Records.mono _ _ _
      | exact hagglerlaw04_frames.mono _ _
      | exact hagglerref04_Same.mono _ _ _
      | exact LeO.none _
      | refine LeO.ite ?_ ?_
      | refine LeO.bind ?_ (fun _ => ?_)
theorem hagglerlaw04_FrameTorn.mono : ∀ a0 a1 a2 k, LeO (hagglerlaw04_FrameTorn.f k a0 a1 a2) (hagglerlaw04_FrameTorn.f (k + 1) a0 a1 a2) := by
  intro a0 a1 a2 k
  have ih0 := hagglerlaw04_FrameTorn.mono_l k
  unfold hagglerlaw04_FrameTorn.f
  repeat' first
      | (with_reducible exact ih0 _ _ _ _ _ _)
      | (with_reducible exact hagglerlaw04_Records.mono _ _ _)
      | (with_reducible exact hagglerlaw04_frames.mono _ _)
      | (with_reducible exact hagglerref04_Same.mono _ _ _)
      | (with_reducible exact LeO.refl _)
      | (with_reducible exact LeO.none _)
      | (with_reducible refine LeO.ite ?_ ?_)
      | (with_reducible refine LeO.bind ?_ (fun _ => ?_))
      | exact ih0 _ _ _ _ _ _
      | exact hagglerlaw04_Records.mono _ _ _
      | exact hagglerlaw04_frames.mono _ _
      | exact hagglerref04_Same.mono _ _ _
      | exact LeO.none _
      | refine LeO.ite ?_ ?_
      | refine LeO.bind ?_ (fun _ => ?_)
set_option maxHeartbeats 8000000 in
set_option maxRecDepth 100000 in
theorem hagglerlaw04_FrameTorn.calls (k : Nat) (A0 : Option Addr) (c0 : Nat) (l0 : List (List Int)) (A1 : Option Addr) (c1 : Nat) (l1 : List ByteArray) (a2 : Int) (r : Bool) (w : World) (hr0 : Kd.C (Kd.slice 3 (Kd.int .i64)) w A0 l0.length l0) (hc0 : l0.length ≤ c0) (hr1 : Kd.C Kd.string w A1 l1.length l1) (hc1 : l1.length ≤ c1) (h : hagglerlaw04_FrameTorn.f k l0 l1 a2 = some r) (hr : Aside0 (r = true)) (hG : G w) :
    Calls Tryd.prog 5 #[.slice A0 l0.length c0, .slice A1 l1.length c1, .int .i64 a2] w fun e w' => e = .returned (.bool r) ∧ Below w.heap.size w w' := by
  have HG := Aside0.mk hG
  clear hG
  have HR0 := Aside0.mk hr0
  have HC0 := Aside0.mk hc0
  clear hr0 hc0
  have HR1 := Aside0.mk hr1
  have HC1 := Aside0.mk hc1
  clear hr1 hc1
  have HB := Aside0.mk (Below.refl w.heap.size w)
  have H : ((hagglerlaw04_awake.f).bind fun t154 => ((hagglerlaw04_Records.f k l0 l1).bind fun t155 => ((hagglerlaw04_frames.f k t155).bind fun bt158 => ((hagglerlaw04_pick.f a2 (wrap64 ((bt158.1.size : Int) + 1))).bind fun t160 => (if 0 ≤ t160 then (if t160 ≤ (bt158.1.size : Int) then ((frame_Scan.f (bt158.1.extract 0 (t160 : Int).toNat)).bind fun bt161 => (if t154 = true then (if bt158.2 = true then (if bt161.2.2 = 0 then (if bt161.2.1 > t160 then (hagglerlaw04_FrameTorn.j0 k t155 bt158.1 t160 bt161.1 bt161.2.1 true) else (if (bt161.1.length : Int) > (t155.length : Int) then (hagglerlaw04_FrameTorn.j0 k t155 bt158.1 t160 bt161.1 bt161.2.1 true) else (if 0 ≤ (bt161.1.length : Int) then (if (bt161.1.length : Int) ≤ (t155.length : Int) then ((hagglerref04_Same.f k bt161.1 (t155.take ((bt161.1.length : Int) : Int).toNat)).bind fun t170 => (hagglerlaw04_FrameTorn.j0 k t155 bt158.1 t160 bt161.1 bt161.2.1 (!t170))) else (none)) else (none)))) else (hagglerlaw04_FrameTorn.j0 k t155 bt158.1 t160 bt161.1 bt161.2.1 true)) else (hagglerlaw04_FrameTorn.j0 k t155 bt158.1 t160 bt161.1 bt161.2.1 true)) else (hagglerlaw04_FrameTorn.j0 k t155 bt158.1 t160 bt161.1 bt161.2.1 true))) else (none)) else (none)))))) = some r := h
  clear h
  replace H := Option.bind_eq_some_iff.mp H
  obtain ⟨t154, A40, H⟩ := H
  replace H : ((hagglerlaw04_Records.f k l0 l1).bind fun t155 => ((hagglerlaw04_frames.f k t155).bind fun bt158 => ((hagglerlaw04_pick.f a2 (wrap64 ((bt158.1.size : Int) + 1))).bind fun t160 => (if 0 ≤ t160 then (if t160 ≤ (bt158.1.size : Int) then ((frame_Scan.f (bt158.1.extract 0 (t160 : Int).toNat)).bind fun bt161 => (if t154 = true then (if bt158.2 = true then (if bt161.2.2 = 0 then (if bt161.2.1 > t160 then (hagglerlaw04_FrameTorn.j0 k t155 bt158.1 t160 bt161.1 bt161.2.1 true) else (if (bt161.1.length : Int) > (t155.length : Int) then (hagglerlaw04_FrameTorn.j0 k t155 bt158.1 t160 bt161.1 bt161.2.1 true) else (if 0 ≤ (bt161.1.length : Int) then (if (bt161.1.length : Int) ≤ (t155.length : Int) then ((hagglerref04_Same.f k bt161.1 (t155.take ((bt161.1.length : Int) : Int).toNat)).bind fun t170 => (hagglerlaw04_FrameTorn.j0 k t155 bt158.1 t160 bt161.1 bt161.2.1 (!t170))) else (none)) else (none)))) else (hagglerlaw04_FrameTorn.j0 k t155 bt158.1 t160 bt161.1 bt161.2.1 true)) else (hagglerlaw04_FrameTorn.j0 k t155 bt158.1 t160 bt161.1 bt161.2.1 true)) else (hagglerlaw04_FrameTorn.j0 k t155 bt158.1 t160 bt161.1 bt161.2.1 true))) else (none)) else (none))))) = some r := H
  have A4 := Aside0.mk A40
  clear A40
  replace H := Option.bind_eq_some_iff.mp H
  obtain ⟨t155, A50, H⟩ := H
  replace H : ((hagglerlaw04_frames.f k t155).bind fun bt158 => ((hagglerlaw04_pick.f a2 (wrap64 ((bt158.1.size : Int) + 1))).bind fun t160 => (if 0 ≤ t160 then (if t160 ≤ (bt158.1.size : Int) then ((frame_Scan.f (bt158.1.extract 0 (t160 : Int).toNat)).bind fun bt161 => (if t154 = true then (if bt158.2 = true then (if bt161.2.2 = 0 then (if bt161.2.1 > t160 then (hagglerlaw04_FrameTorn.j0 k t155 bt158.1 t160 bt161.1 bt161.2.1 true) else (if (bt161.1.length : Int) > (t155.length : Int) then (hagglerlaw04_FrameTorn.j0 k t155 bt158.1 t160 bt161.1 bt161.2.1 true) else (if 0 ≤ (bt161.1.length : Int) then (if (bt161.1.length : Int) ≤ (t155.length : Int) then ((hagglerref04_Same.f k bt161.1 (t155.take ((bt161.1.length : Int) : Int).toNat)).bind fun t170 => (hagglerlaw04_FrameTorn.j0 k t155 bt158.1 t160 bt161.1 bt161.2.1 (!t170))) else (none)) else (none)))) else (hagglerlaw04_FrameTorn.j0 k t155 bt158.1 t160 bt161.1 bt161.2.1 true)) else (hagglerlaw04_FrameTorn.j0 k t155 bt158.1 t160 bt161.1 bt161.2.1 true)) else (hagglerlaw04_FrameTorn.j0 k t155 bt158.1 t160 bt161.1 bt161.2.1 true))) else (none)) else (none)))) = some r := H
  have A5 := Aside0.mk A50
  clear A50
  replace H := Option.bind_eq_some_iff.mp H
  obtain ⟨⟨t158, t159⟩, A60, H⟩ := H
  replace H : ((hagglerlaw04_pick.f a2 (wrap64 ((t158.size : Int) + 1))).bind fun t160 => (if 0 ≤ t160 then (if t160 ≤ (t158.size : Int) then ((frame_Scan.f (t158.extract 0 (t160 : Int).toNat)).bind fun bt161 => (if t154 = true then (if t159 = true then (if bt161.2.2 = 0 then (if bt161.2.1 > t160 then (hagglerlaw04_FrameTorn.j0 k t155 t158 t160 bt161.1 bt161.2.1 true) else (if (bt161.1.length : Int) > (t155.length : Int) then (hagglerlaw04_FrameTorn.j0 k t155 t158 t160 bt161.1 bt161.2.1 true) else (if 0 ≤ (bt161.1.length : Int) then (if (bt161.1.length : Int) ≤ (t155.length : Int) then ((hagglerref04_Same.f k bt161.1 (t155.take ((bt161.1.length : Int) : Int).toNat)).bind fun t170 => (hagglerlaw04_FrameTorn.j0 k t155 t158 t160 bt161.1 bt161.2.1 (!t170))) else (none)) else (none)))) else (hagglerlaw04_FrameTorn.j0 k t155 t158 t160 bt161.1 bt161.2.1 true)) else (hagglerlaw04_FrameTorn.j0 k t155 t158 t160 bt161.1 bt161.2.1 true)) else (hagglerlaw04_FrameTorn.j0 k t155 t158 t160 bt161.1 bt161.2.1 true))) else (none)) else (none))) = some r := H
  have A6 := Aside0.mk A60
  clear A60
  replace H := Option.bind_eq_some_iff.mp H
  obtain ⟨t160, A70, H⟩ := H
  replace H : (if 0 ≤ t160 then (if t160 ≤ (t158.size : Int) then ((frame_Scan.f (t158.extract 0 (t160 : Int).toNat)).bind fun bt161 => (if t154 = true then (if t159 = true then (if bt161.2.2 = 0 then (if bt161.2.1 > t160 then (hagglerlaw04_FrameTorn.j0 k t155 t158 t160 bt161.1 bt161.2.1 true) else (if (bt161.1.length : Int) > (t155.length : Int) then (hagglerlaw04_FrameTorn.j0 k t155 t158 t160 bt161.1 bt161.2.1 true) else (if 0 ≤ (bt161.1.length : Int) then (if (bt161.1.length : Int) ≤ (t155.length : Int) then ((hagglerref04_Same.f k bt161.1 (t155.take ((bt161.1.length : Int) : Int).toNat)).bind fun t170 => (hagglerlaw04_FrameTorn.j0 k t155 t158 t160 bt161.1 bt161.2.1 (!t170))) else (none)) else (none)))) else (hagglerlaw04_FrameTorn.j0 k t155 t158 t160 bt161.1 bt161.2.1 true)) else (hagglerlaw04_FrameTorn.j0 k t155 t158 t160 bt161.1 bt161.2.1 true)) else (hagglerlaw04_FrameTorn.j0 k t155 t158 t160 bt161.1 bt161.2.1 true))) else (none)) else (none)) = some r := H
  have A7 := Aside0.mk A70
  clear A70
  by_cases c8 : 0 ≤ t160
  · rw [if_pos c8] at H
    have c8b0 := eq_true c8
    have c8b1 : decide (0 ≤ t160) = true := decide_eq_true c8
    clear c8
    by_cases c9 : t160 ≤ (t158.size : Int)
    · rw [if_pos c9] at H
      have c9b0 := eq_true c9
      have c9b1 : decide (t160 ≤ (t158.size : Int)) = true := decide_eq_true c9
      clear c9
      replace H := Option.bind_eq_some_iff.mp H
      obtain ⟨⟨t161, t162, t163⟩, A100, H⟩ := H
      replace H : (if t154 = true then (if t159 = true then (if t163 = 0 then (if t162 > t160 then (hagglerlaw04_FrameTorn.j0 k t155 t158 t160 t161 t162 true) else (if (t161.length : Int) > (t155.length : Int) then (hagglerlaw04_FrameTorn.j0 k t155 t158 t160 t161 t162 true) else (if 0 ≤ (t161.length : Int) then (if (t161.length : Int) ≤ (t155.length : Int) then ((hagglerref04_Same.f k t161 (t155.take ((t161.length : Int) : Int).toNat)).bind fun t170 => (hagglerlaw04_FrameTorn.j0 k t155 t158 t160 t161 t162 (!t170))) else (none)) else (none)))) else (hagglerlaw04_FrameTorn.j0 k t155 t158 t160 t161 t162 true)) else (hagglerlaw04_FrameTorn.j0 k t155 t158 t160 t161 t162 true)) else (hagglerlaw04_FrameTorn.j0 k t155 t158 t160 t161 t162 true)) = some r := H
      have A10 := Aside0.mk A100
      clear A100
      have HC11 := Aside0.mk H
      clear H
      go_enter Tryd.func5, Tryd.ntmps5
      go_upto_region 6 with (first | ((with_reducible refine gate_callee (f := 10) rfl ?_); refine goesL_ (some 19) rfl rfl Tryd.func10 (by kernel_rfl) rfl #[] rfl (by (try simp only [List.map_toArray, List.map_cons, List.map_nil]); first | done | rfl | (simp only [List.length_drop, List.length_take]; rfl)) ?_; (with_reducible refine (hagglerlaw04_awake.calls  t154 _ A4.out (HG.out.below (by repeat (first | (with_reducible first | exact HB.out | apply below_alloc | apply pw_below_drewN | apply below_drew1) | exact HB.out)))).mono ?_); rintro e w12 ⟨rfl, hb⟩; refine ⟨_, rfl, ?_⟩; have n0_ := Aside0.mk (below_step (by repeat (first | (with_reducible first | exact HB.out | apply below_alloc | apply pw_below_drewN | apply below_drew1) | exact HB.out)) hb); clear HB; have HB := n0_; clear n0_; (try clear hb); (try clear hb2); (try clear hk); (try clear hi)) | ((with_reducible refine gate_callee (f := 15) rfl ?_); refine goesL_ (some 22) rfl rfl Tryd.func15 (by kernel_rfl) rfl #[.slice A0 l0.length c0, .slice A1 l1.length c1] rfl (by (try simp only [List.map_toArray, List.map_cons, List.map_nil]); first | done | rfl | (simp only [List.length_drop, List.length_take]; rfl)) ?_; (with_reducible refine (hagglerlaw04_Records.calls k _ _ l0 _ _ l1 t155 _ ?side1 ?side2 ?side3 ?side4 A5.out).mono ?_); (case side1 => repeat (first | exact (Kd.C_below HR0.out HB.out) | (with_reducible refine Kd.C_alloc ?_ _) | (with_reducible refine Kd.C_drewN ?_ _) | (with_reducible refine Kd.C_drew ?_))); (case side2 => exact HC0.out); (case side3 => repeat (first | exact (Kd.C_below HR1.out HB.out) | (with_reducible refine Kd.C_alloc ?_ _) | (with_reducible refine Kd.C_drewN ?_ _) | (with_reducible refine Kd.C_drew ?_))); (case side4 => exact HC1.out); rintro e w13 ⟨v156, rfl, ho0, hb⟩; refine ⟨_, rfl, ?_⟩; have n0_ := Aside0.mk (Kd.S_lower ho0 (below_size (by repeat (first | (with_reducible first | exact HB.out | apply below_alloc | apply pw_below_drewN | apply below_drew1) | exact HB.out)))); have n1_ := Aside0.mk (below_step (by repeat (first | (with_reducible first | exact HB.out | apply below_alloc | apply pw_below_drewN | apply below_drew1) | exact HB.out)) hb); clear HB; have HO157 := n0_; have HB := n1_; clear n0_ n1_; (try clear hb); (try clear hb2); (try clear hk); (try clear hi); (try clear ho0); obtain ⟨Ao14, co14, eo14⟩ := Kd.S_slice HO157.out; subst eo14) | ((with_reducible refine gate_callee (f := 20) rfl ?_); refine goesL_ (some 25) rfl rfl Tryd.func20 (by kernel_rfl) rfl #[.slice Ao14 t155.length co14] rfl (by (try simp only [List.map_toArray, List.map_cons, List.map_nil]); first | done | rfl | (simp only [List.length_drop, List.length_take]; rfl)) ?_; (with_reducible refine (hagglerlaw04_frames.calls k _ _ t155 t158 t159 _ ?side1 ?side2 A6.out (HG.out.below (by repeat (first | (with_reducible first | exact HB.out | apply below_alloc | apply pw_below_drewN | apply below_drew1) | exact HB.out)))).mono ?_); (case side1 => repeat (first | exact (Kd.S_reads' HO157.out).2.2 | (with_reducible refine Kd.C_alloc ?_ _) | (with_reducible refine Kd.C_drewN ?_ _) | (with_reducible refine Kd.C_drew ?_))); (case side2 => exact (Kd.S_reads' HO157.out).2.1); rintro e w15 ⟨rfl, hb⟩; refine ⟨_, rfl, ?_⟩; have n0_ := Aside0.mk (Kd.S_below (by (with_reducible repeat (first | apply Kd.S_alloc | apply Kd.S_drewN | apply Kd.S_drew)); exact HO157.out) hb); have n1_ := Aside0.mk (below_step (by repeat (first | (with_reducible first | exact HB.out | apply below_alloc | apply pw_below_drewN | apply below_drew1) | exact HB.out)) hb); clear HO157; clear HB; have HO157 := n0_; have HB := n1_; clear n0_ n1_; (try clear hb); (try clear hb2); (try clear hk); (try clear hi)) | ((with_reducible refine gate_callee (f := 16) rfl ?_); refine goesL_ (some 32) rfl rfl Tryd.func16 (by kernel_rfl) rfl #[.int .i64 a2, .int .i64 (wrap64 ((t158.size : Int) + 1))] rfl (by (try simp only [List.map_toArray, List.map_cons, List.map_nil]); first | done | rfl | (simp only [List.length_drop, List.length_take]; rfl)) ?_; (with_reducible refine (hagglerlaw04_pick.calls a2 (wrap64 ((t158.size : Int) + 1)) t160 _ A7.out).mono ?_); rintro e w' ⟨rfl, ⟨nd, rfl⟩⟩; refine ⟨_, rfl, ?_⟩) | ((with_reducible refine gate_callee (f := 17) rfl ?_); refine goesL_ (some 37) rfl rfl Tryd.func17 (by kernel_rfl) rfl #[.string (t158.extract 0 (t160 : Int).toNat)] rfl (by (try simp only [List.map_toArray, List.map_cons, List.map_nil]); first | done | rfl | (simp only [List.length_drop, List.length_take]; rfl)) ?_; (with_reducible refine (frame_Scan.calls (t158.extract 0 (t160 : Int).toNat) t161 t162 t163 _ A10.out (HG.out.below (by repeat (first | (with_reducible first | exact HB.out | apply below_alloc | apply pw_below_drewN | apply below_drew1) | exact HB.out)))).mono ?_); rintro e w16 ⟨v164, rfl, ho0, hb⟩; refine ⟨_, rfl, ?_⟩; have n0_ := Aside0.mk (Kd.S_elder' (by (with_reducible repeat (first | apply Kd.S_alloc | apply Kd.S_drewN | apply Kd.S_drew)); exact HO157.out) (Kd.S_base ho0) hb); have n1_ := Aside0.mk (Kd.S_lower (Kd.S_new' ho0 (Kd.S_lt (by (with_reducible repeat (first | apply Kd.S_alloc | apply Kd.S_drewN | apply Kd.S_drew)); exact HO157.out))) (below_size (by repeat (first | (with_reducible first | exact HB.out | apply below_alloc | apply pw_below_drewN | apply below_drew1) | exact HB.out)))); have n2_ := Aside0.mk (below_step (by repeat (first | (with_reducible first | exact HB.out | apply below_alloc | apply pw_below_drewN | apply below_drew1) | exact HB.out)) hb); clear HO157; clear HB; have HO157 := n0_; have HO165 := n1_; have HB := n2_; clear n0_ n1_ n2_; (try clear hb); (try clear hb2); (try clear hk); (try clear hi); (try clear ho0)))
      (try simp only [Act.put, List.setIfInBounds_toArray, List.set_cons_zero, List.set_cons_succ])
      go_cut [71] (fun v71 wc => ∃ (kq : Nat) (x71_10 : Bool), v71 = .bool x71_10 ∧ Aside0 (hagglerlaw04_FrameTorn.j0 kq t155 t158 t160 t161 t162 x71_10 = some r) ∧ Aside0 (kq ≤ k) ∧ Aside0 (Kd.S k24 24 wc w.heap.size (fun k_ => some k_ ≠ (v164 : Value).ownBlock) (.slice Ao14 t155.length co14) t155) ∧ Aside0 (Kd.S k24 24 wc w.heap.size (fun k_ => some k_ ≠ ((.slice Ao14 t155.length co14) : Value).ownBlock) v164 t161) ∧ Aside0 (Below w.heap.size w wc))
      case first =>
        have H := HC11.out
        clear HC11
        by_cases c17 : t154 = true
        · subst c17
          have H1 : (if t159 = true then (if t163 = 0 then (if t162 > t160 then (hagglerlaw04_FrameTorn.j0 k t155 t158 t160 t161 t162 true) else (if (t161.length : Int) > (t155.length : Int) then (hagglerlaw04_FrameTorn.j0 k t155 t158 t160 t161 t162 true) else (if 0 ≤ (t161.length : Int) then (if (t161.length : Int) ≤ (t155.length : Int) then ((hagglerref04_Same.f k t161 (t155.take ((t161.length : Int) : Int).toNat)).bind fun t170 => (hagglerlaw04_FrameTorn.j0 k t155 t158 t160 t161 t162 (!t170))) else (none)) else (none)))) else (hagglerlaw04_FrameTorn.j0 k t155 t158 t160 t161 t162 true)) else (hagglerlaw04_FrameTorn.j0 k t155 t158 t160 t161 t162 true)) = some r := by rw [if_pos rfl] at H; exact H
          clear H
          have H := H1
          clear H1
          by_cases c18 : t159 = true
          · subst c18
            have H1 : (if t163 = 0 then (if t162 > t160 then (hagglerlaw04_FrameTorn.j0 k t155 t158 t160 t161 t162 true) else (if (t161.length : Int) > (t155.length : Int) then (hagglerlaw04_FrameTorn.j0 k t155 t158 t160 t161 t162 true) else (if 0 ≤ (t161.length : Int) then (if (t161.length : Int) ≤ (t155.length : Int) then ((hagglerref04_Same.f k t161 (t155.take ((t161.length : Int) : Int).toNat)).bind fun t170 => (hagglerlaw04_FrameTorn.j0 k t155 t158 t160 t161 t162 (!t170))) else (none)) else (none)))) else (hagglerlaw04_FrameTorn.j0 k t155 t158 t160 t161 t162 true)) = some r := by rw [if_pos rfl] at H; exact H
            clear H
            have H := H1
            clear H1
            by_cases c19 : t163 = 0
            · rw [if_pos c19] at H
              have c19b0 : (t163 == 0) = true := beq_iff_eq.mpr c19
              have c19b1 : (t163 != 0) = false := bne_eq_false_iff_eq.mpr c19
              clear c19
              (first | rw [c19b0] | (simp only [i64_w, i32_w]; rw [c19b0]) | skip)
              by_cases c20 : t162 > t160
              · rw [if_pos c20] at H
                have c20b0 : decide (t160 < t162) = true := decide_eq_true c20
                clear c20
                have H' := Aside0.mk H
                clear H
                go_wp2
                go_meet
                case rel => exact ⟨_, (true), (by first | rfl | (simp; done) | (simp [*]; done)), H', ⟨by first | omega | exact Nat.le_refl _⟩, ⟨by (with_reducible repeat (first | apply Kd.S_alloc | apply Kd.S_drewN | apply Kd.S_drew)); exact Kd.S_mono HO157.out (fun _ hk => hk.2)⟩, ⟨by (with_reducible repeat (first | apply Kd.S_alloc | apply Kd.S_drewN | apply Kd.S_drew)); exact Kd.S_mono HO165.out (fun _ hk => hk.2)⟩, ⟨by repeat (first | (with_reducible first | exact HB.out | apply below_alloc | apply pw_below_drewN | apply below_drew1) | exact HB.out)⟩⟩
              · rw [if_neg c20] at H
                have c20b0 : decide (t160 < t162) = false := decide_eq_false c20
                clear c20
                by_cases c21 : (t161.length : Int) > (t155.length : Int)
                · rw [if_pos c21] at H
                  have c21b0 : decide ((t155.length : Int) < (t161.length : Int)) = true := decide_eq_true c21
                  have c21b1 : decide (t155.length < t161.length) = true := decide_eq_true (Int.ofNat_lt.mp c21)
                  clear c21
                  have H' := Aside0.mk H
                  clear H
                  obtain ⟨Ao22, co22, eo22⟩ := Kd.S_slice HO165.out
                  subst eo22
                  go_wp2
                  go_meet
                  case rel => exact ⟨_, (true), (by first | rfl | (simp; done) | (simp [*]; done)), H', ⟨by first | omega | exact Nat.le_refl _⟩, ⟨by (with_reducible repeat (first | apply Kd.S_alloc | apply Kd.S_drewN | apply Kd.S_drew)); exact Kd.S_mono HO157.out (fun _ hk => hk.2)⟩, ⟨by (with_reducible repeat (first | apply Kd.S_alloc | apply Kd.S_drewN | apply Kd.S_drew)); exact Kd.S_mono HO165.out (fun _ hk => hk.2)⟩, ⟨by repeat (first | (with_reducible first | exact HB.out | apply below_alloc | apply pw_below_drewN | apply below_drew1) | exact HB.out)⟩⟩
                · rw [if_neg c21] at H
                  have c21b0 : decide ((t155.length : Int) < (t161.length : Int)) = false := decide_eq_false c21
                  have c21b1 : decide (t155.length < t161.length) = false := decide_eq_false (fun h => c21 (Int.ofNat_lt.mpr h))
                  clear c21
                  by_cases c23 : 0 ≤ (t161.length : Int)
                  · rw [if_pos c23] at H
                    have c23b0 := eq_true c23
                    have c23b1 : decide (0 ≤ (t161.length : Int)) = true := decide_eq_true c23
                    clear c23
                    by_cases c24 : (t161.length : Int) ≤ (t155.length : Int)
                    · rw [if_pos c24] at H
                      have c24b0 := eq_true c24
                      have c24b1 : decide ((t161.length : Int) ≤ (t155.length : Int)) = true := decide_eq_true c24
                      clear c24
                      obtain ⟨y166, hy166⟩ : ∃ y_ : List (S24), y_ = (t155.take ((t161.length : Int) : Int).toNat) := ⟨_, rfl⟩
                      replace H : ((hagglerref04_Same.f k t161 y166).bind fun t170 => (hagglerlaw04_FrameTorn.j0 k t155 t158 t160 t161 t162 (!t170))) = some r := by first | (rw [hy166]; with_reducible exact H) | (have H2_ := (Option.bind_some _ _).symm.trans H; rw [hy166]; with_reducible exact H2_) | (have H2_ := (Option.bind_some _ _).symm.trans H; with_reducible exact H2_) | with_reducible exact H | (rw [hy166]; exact H) | exact H
                      have Ny166 := Aside0.mk hy166
                      clear hy166
                      replace H := Option.bind_eq_some_iff.mp H
                      obtain ⟨t170, A250, H⟩ := H
                      replace H : (hagglerlaw04_FrameTorn.j0 k t155 t158 t160 t161 t162 (!t170)) = some r := H
                      have A25 := Aside0.mk A250
                      clear A250
                      have H' := Aside0.mk H
                      clear H
                      obtain ⟨Ao26, co26, eo26⟩ := Kd.S_slice HO165.out
                      subst eo26
                      have q27 : ((t161.length : Int) : Int) ≤ ((t155.length : Int) : Int) := of_decide_eq_true (by first | (with_reducible assumption) | assumption)
                      obtain ⟨i027, hi027, _, hsz27, _⟩ := info_parts info24
                      have hroom27 : t155.length ≤ co14 := (Kd.S_reads' HO157.out).2.1
                      have hC27 : Kd.C k24 _ Ao14 t155.length t155 := (Kd.S_reads' HO157.out).2.2
                      have hcut27 := cut_to (P := Tryd.prog) 32 24 .i64 Tryd.underlying32 hi027 Ao14 t155.length co14 (t161.length : Int) (of_decide_eq_true (by first | (with_reducible assumption) | assumption)) q27 hroom27
                      have hr27 := Kd.C_take (m := ((t161.length : Int) : Int).toNat) hC27 (by omega)
                      have hy27 : y166.length = ((t161.length : Int) : Int).toNat := (by rw [Ny166.out, List.length_take]; omega)
                      rw [← Ny166.out] at hr27
                      rw [← hy27] at hcut27
                      have HR169 := Aside0.mk hr27
                      have HC169 := Aside0.mk (show y166.length ≤ co14 from by omega)
                      clear hr27 hC27 hroom27 hi027 hsz27
                      have KY27 := Aside0.mk hy27
                      clear hy27
                      have KL27 := Aside0.mk (show ((t161.length : Int) : Int).toNat ≤ t155.length from by omega)
                      replace q27 := eq_true q27
                      go_wp2_with (first | (go_at_call 19; (with_reducible refine (hagglerref04_Same.calls k _ _ t161 _ _ y166 t170 _ ?side1 ?side2 ?side3 ?side4 A25.out).mono ?_); (case side1 => repeat (first | exact (Kd.S_reads' HO165.out).2.2 | (with_reducible refine Kd.C_alloc ?_ _) | (with_reducible refine Kd.C_drewN ?_ _) | (with_reducible refine Kd.C_drew ?_))); (case side2 => exact (Kd.S_reads' HO165.out).2.1); (case side3 => repeat (first | exact (by repeat (first | (with_reducible exact HR169.out) | (with_reducible refine Kd.C_alloc ?_ _) | (with_reducible refine Kd.C_drewN ?_ _) | (with_reducible refine Kd.C_drew ?_) | exact HR169.out)) | (with_reducible refine Kd.C_alloc ?_ _) | (with_reducible refine Kd.C_drewN ?_ _) | (with_reducible refine Kd.C_drew ?_))); (case side4 => exact HC169.out); rintro e w' ⟨rfl, ⟨nd, rfl⟩⟩))
                      go_meet
                      case rel => exact ⟨_, (!t170), (by first | rfl | (simp; done) | (simp [*]; done)), H', ⟨by first | omega | exact Nat.le_refl _⟩, ⟨by (with_reducible repeat (first | apply Kd.S_alloc | apply Kd.S_drewN | apply Kd.S_drew)); exact Kd.S_mono HO157.out (fun _ hk => hk.2)⟩, ⟨by (with_reducible repeat (first | apply Kd.S_alloc | apply Kd.S_drewN | apply Kd.S_drew)); exact Kd.S_mono HO165.out (fun _ hk => hk.2)⟩, ⟨by repeat (first | (with_reducible first | exact HB.out | apply below_alloc | apply pw_below_drewN | apply below_drew1) | exact HB.out)⟩⟩
                    · rw [if_neg c24] at H
                      exact absurd H (by simp)
                  · rw [if_neg c23] at H
                    exact absurd H (by simp)
            · rw [if_neg c19] at H
              have c19b0 : (t163 == 0) = false := beq_eq_false_iff_ne.mpr c19
              have c19b1 : (t163 != 0) = true := bne_iff_ne.mpr c19
              (first | rw [c19b0] | (simp only [i64_w, i32_w]; rw [c19b0]) | skip)
              have H' := Aside0.mk H
              clear H
              go_wp2
              go_meet
              case rel => exact ⟨_, (true), (by first | rfl | (simp; done) | (simp [*]; done)), H', ⟨by first | omega | exact Nat.le_refl _⟩, ⟨by (with_reducible repeat (first | apply Kd.S_alloc | apply Kd.S_drewN | apply Kd.S_drew)); exact Kd.S_mono HO157.out (fun _ hk => hk.2)⟩, ⟨by (with_reducible repeat (first | apply Kd.S_alloc | apply Kd.S_drewN | apply Kd.S_drew)); exact Kd.S_mono HO165.out (fun _ hk => hk.2)⟩, ⟨by repeat (first | (with_reducible first | exact HB.out | apply below_alloc | apply pw_below_drewN | apply below_drew1) | exact HB.out)⟩⟩
          · replace c18 := Bool.eq_false_iff.mpr c18
            subst c18
            have H1 : (hagglerlaw04_FrameTorn.j0 k t155 t158 t160 t161 t162 true) = some r := by rw [if_neg (show ¬ (false = true) by decide)] at H; exact H
            clear H
            have H := H1
            clear H1
            have H' := Aside0.mk H
            clear H
            go_wp2
            go_meet
            case rel => exact ⟨_, (true), (by first | rfl | (simp; done) | (simp [*]; done)), H', ⟨by first | omega | exact Nat.le_refl _⟩, ⟨by (with_reducible repeat (first | apply Kd.S_alloc | apply Kd.S_drewN | apply Kd.S_drew)); exact Kd.S_mono HO157.out (fun _ hk => hk.2)⟩, ⟨by (with_reducible repeat (first | apply Kd.S_alloc | apply Kd.S_drewN | apply Kd.S_drew)); exact Kd.S_mono HO165.out (fun _ hk => hk.2)⟩, ⟨by repeat (first | (with_reducible first | exact HB.out | apply below_alloc | apply pw_below_drewN | apply below_drew1) | exact HB.out)⟩⟩
        · replace c17 := Bool.eq_false_iff.mpr c17
          subst c17
          have H1 : (hagglerlaw04_FrameTorn.j0 k t155 t158 t160 t161 t162 true) = some r := by rw [if_neg (show ¬ (false = true) by decide)] at H; exact H
          clear H
          have H := H1
          clear H1
          have H' := Aside0.mk H
          clear H
          go_wp2
          go_meet
          case rel => exact ⟨_, (true), (by first | rfl | (simp; done) | (simp [*]; done)), H', ⟨by first | omega | exact Nat.le_refl _⟩, ⟨by (with_reducible repeat (first | apply Kd.S_alloc | apply Kd.S_drewN | apply Kd.S_drew)); exact Kd.S_mono HO157.out (fun _ hk => hk.2)⟩, ⟨by (with_reducible repeat (first | apply Kd.S_alloc | apply Kd.S_drewN | apply Kd.S_drew)); exact Kd.S_mono HO165.out (fun _ hk => hk.2)⟩, ⟨by repeat (first | (with_reducible first | exact HB.out | apply below_alloc | apply pw_below_drewN | apply below_drew1) | exact HB.out)⟩⟩
      case rest =>
        clear HC11
        try clear c1
        try clear c2
        try clear p2
        try clear q2
        try clear c5
        try clear p6
        try clear c8
        try clear c8b0
        try clear c8b1
        try clear c9
        try clear c9b0
        try clear c9b1
        try clear c10
        try clear c15
        try clear c16
        try clear c17
        try clear c18
        try clear c19
        try clear c19b0
        try clear c19b1
        try clear c20
        try clear c20b0
        try clear c21
        try clear c21b0
        try clear c21b1
        try clear c23
        try clear c23b0
        try clear c23b1
        try clear c24
        try clear c24b0
        try clear c24b1
        try clear q27
        try clear q27
        obtain ⟨kq, x71_10, rfl, HA, HJ10, HO_8, HO_12, HB⟩ := hcut
        cases kq with
        | zero => exact absurd HA.out (by simp [hagglerlaw04_FrameTorn.j0])
        | succ kj10 =>
          have H := HA.out
          clear HA
          simp only [hagglerlaw04_FrameTorn.j0] at H
          by_cases c28 : x71_10 = true
          · subst c28
            have H1 : (some false) = some r := by rw [if_pos rfl] at H; exact H
            clear H
            have H := H1
            clear H1
            exact absurd ((Option.some.inj H).trans hr.out) (by decide)
          · replace c28 := Bool.eq_false_iff.mpr c28
            subst c28
            have H1 : (if 0 ≤ (t161.length : Int) then (if (t161.length : Int) ≤ (t155.length : Int) then ((hagglerlaw04_frames.f kj10 (t155.take ((t161.length : Int) : Int).toNat)).bind fun bt175 => (if (bt175.1.size : Int) = t162 then (if (t161.length : Int) < (t155.length : Int) then (if 0 ≤ (wrap64 ((t161.length : Int) + 1)) then (if (wrap64 ((t161.length : Int) + 1)) ≤ (t155.length : Int) then ((hagglerlaw04_frames.f kj10 (t155.take ((wrap64 ((t161.length : Int) + 1)) : Int).toNat)).bind fun bt181 => (some (decide ((bt181.1.size : Int) > t160)))) else (none)) else (none)) else (some (t162 == (t158.size : Int)))) else (some false))) else (none)) else (none)) = some r := by rw [if_neg (show ¬ (false = true) by decide)] at H; exact H
            clear H
            have H := H1
            clear H1
            by_cases c29 : 0 ≤ (t161.length : Int)
            · rw [if_pos c29] at H
              have c29b0 := eq_true c29
              have c29b1 : decide (0 ≤ (t161.length : Int)) = true := decide_eq_true c29
              clear c29
              by_cases c30 : (t161.length : Int) ≤ (t155.length : Int)
              · rw [if_pos c30] at H
                have c30b0 := eq_true c30
                have c30b1 : decide ((t161.length : Int) ≤ (t155.length : Int)) = true := decide_eq_true c30
                clear c30
                obtain ⟨y171, hy171⟩ : ∃ y_ : List (S24), y_ = (t155.take ((t161.length : Int) : Int).toNat) := ⟨_, rfl⟩
                replace H : ((hagglerlaw04_frames.f kj10 y171).bind fun bt175 => (if (bt175.1.size : Int) = t162 then (if (t161.length : Int) < (t155.length : Int) then (if 0 ≤ (wrap64 ((t161.length : Int) + 1)) then (if (wrap64 ((t161.length : Int) + 1)) ≤ (t155.length : Int) then ((hagglerlaw04_frames.f kj10 (t155.take ((wrap64 ((t161.length : Int) + 1)) : Int).toNat)).bind fun bt181 => (some (decide ((bt181.1.size : Int) > t160)))) else (none)) else (none)) else (some (t162 == (t158.size : Int)))) else (some false))) = some r := by first | (rw [hy171]; with_reducible exact H) | (have H2_ := (Option.bind_some _ _).symm.trans H; rw [hy171]; with_reducible exact H2_) | (have H2_ := (Option.bind_some _ _).symm.trans H; with_reducible exact H2_) | with_reducible exact H | (rw [hy171]; exact H) | exact H
                have Ny171 := Aside0.mk hy171
                clear hy171
                replace H := Option.bind_eq_some_iff.mp H
                obtain ⟨⟨t175, t176⟩, A310, H⟩ := H
                replace H : (if (t175.size : Int) = t162 then (if (t161.length : Int) < (t155.length : Int) then (if 0 ≤ (wrap64 ((t161.length : Int) + 1)) then (if (wrap64 ((t161.length : Int) + 1)) ≤ (t155.length : Int) then ((hagglerlaw04_frames.f kj10 (t155.take ((wrap64 ((t161.length : Int) + 1)) : Int).toNat)).bind fun bt181 => (some (decide ((bt181.1.size : Int) > t160)))) else (none)) else (none)) else (some (t162 == (t158.size : Int)))) else (some false)) = some r := H
                have A31 := Aside0.mk A310
                clear A310
                by_cases c32 : (t175.size : Int) = t162
                · rw [if_pos c32] at H
                  have c32b0 : ((t175.size : Int) == t162) = true := beq_iff_eq.mpr c32
                  have c32b1 : ((t175.size : Int) != t162) = false := bne_eq_false_iff_eq.mpr c32
                  clear c32
                  by_cases c33 : (t161.length : Int) < (t155.length : Int)
                  · rw [if_pos c33] at H
                    have c33b0 : decide ((t161.length : Int) < (t155.length : Int)) = true := decide_eq_true c33
                    have c33b1 : decide (t161.length < t155.length) = true := decide_eq_true (Int.ofNat_lt.mp c33)
                    clear c33
                    obtain ⟨ji34, hji34⟩ : ∃ j_ : Int, (wrap64 ((t161.length : Int) + 1)) = j_ := ⟨_, rfl⟩
                    replace H : (if 0 ≤ (ji34) then (if (ji34) ≤ (t155.length : Int) then ((hagglerlaw04_frames.f kj10 (t155.take ((ji34) : Int).toNat)).bind fun bt181 => (some (decide ((bt181.1.size : Int) > t160)))) else (none)) else (none)) = some r := by first | (rw [hji34] at H; exact H) | (simp only [hji34] at H ⊢; exact H)
                    (try rw [hji34] at A31)
                    have hji34w : (IntKind.i64.wrap ((t161.length : Int) + 1)) = ji34 := (i64_w _).trans hji34
                    by_cases c35 : 0 ≤ (ji34)
                    · rw [if_pos c35] at H
                      have c35b0 := eq_true c35
                      have c35b1 : decide (0 ≤ (ji34)) = true := decide_eq_true c35
                      clear c35
                      by_cases c36 : (ji34) ≤ (t155.length : Int)
                      · rw [if_pos c36] at H
                        have c36b0 := eq_true c36
                        have c36b1 : decide ((ji34) ≤ (t155.length : Int)) = true := decide_eq_true c36
                        clear c36
                        obtain ⟨y177, hy177⟩ : ∃ y_ : List (S24), y_ = (t155.take ((ji34) : Int).toNat) := ⟨_, rfl⟩
                        replace H : ((hagglerlaw04_frames.f kj10 y177).bind fun bt181 => (some (decide ((bt181.1.size : Int) > t160)))) = some r := by first | (rw [hy177]; with_reducible exact H) | (have H2_ := (Option.bind_some _ _).symm.trans H; rw [hy177]; with_reducible exact H2_) | (have H2_ := (Option.bind_some _ _).symm.trans H; with_reducible exact H2_) | with_reducible exact H | (rw [hy177]; exact H) | exact H
                        have Ny177 := Aside0.mk hy177
                        clear hy177
                        replace H := Option.bind_eq_some_iff.mp H
                        obtain ⟨⟨t181, t182⟩, A370, H⟩ := H
                        replace H : (some (decide ((t181.size : Int) > t160))) = some r := H
                        have A37 := Aside0.mk A370
                        clear A370
                        obtain rfl := Option.some.inj H
                        obtain ⟨Ao38, co38, eo38⟩ := Kd.S_slice HO_12.out
                        subst eo38
                        have q39 : ((t161.length : Int) : Int) ≤ ((t155.length : Int) : Int) := of_decide_eq_true (by first | (with_reducible assumption) | assumption)
                        obtain ⟨i039, hi039, _, hsz39, _⟩ := info_parts info24
                        have hroom39 : t155.length ≤ co14 := (Kd.S_reads' HO_8.out).2.1
                        have hC39 : Kd.C k24 _ Ao14 t155.length t155 := (Kd.S_reads' HO_8.out).2.2
                        have hcut39 := cut_to (P := Tryd.prog) 32 24 .i64 Tryd.underlying32 hi039 Ao14 t155.length co14 (t161.length : Int) (of_decide_eq_true (by first | (with_reducible assumption) | assumption)) q39 hroom39
                        have hr39 := Kd.C_take (m := ((t161.length : Int) : Int).toNat) hC39 (by omega)
                        have hy39 : y171.length = ((t161.length : Int) : Int).toNat := (by rw [Ny171.out, List.length_take]; omega)
                        rw [← Ny171.out] at hr39
                        rw [← hy39] at hcut39
                        have HR174 := Aside0.mk hr39
                        have HC174 := Aside0.mk (show y171.length ≤ co14 from by omega)
                        clear hr39 hC39 hroom39 hi039 hsz39
                        have KY39 := Aside0.mk hy39
                        clear hy39
                        have KL39 := Aside0.mk (show ((t161.length : Int) : Int).toNat ≤ t155.length from by omega)
                        replace q39 := eq_true q39
                        go_wp2_with (first | ((with_reducible refine gate_callee (f := 20) rfl ?_); refine goesL_ (some 77) rfl rfl Tryd.func20 (by kernel_rfl) rfl #[.slice Ao14 y171.length co14] rfl (by (try simp only [List.map_toArray, List.map_cons, List.map_nil]); first | done | rfl | (simp only [List.length_drop, List.length_take]; rfl)) ?_; (with_reducible refine (hagglerlaw04_frames.calls kj10 _ _ y171 t175 t176 _ ?side1 ?side2 A31.out (HG.out.below (by repeat (first | (with_reducible first | exact HB.out | apply below_alloc | apply pw_below_drewN | apply below_drew1) | exact HB.out)))).mono ?_); (case side1 => repeat (first | exact (by repeat (first | (with_reducible exact HR174.out) | (with_reducible refine Kd.C_alloc ?_ _) | (with_reducible refine Kd.C_drewN ?_ _) | (with_reducible refine Kd.C_drew ?_) | exact HR174.out)) | (with_reducible refine Kd.C_alloc ?_ _) | (with_reducible refine Kd.C_drewN ?_ _) | (with_reducible refine Kd.C_drew ?_))); (case side2 => exact HC174.out); rintro e w40 ⟨rfl, hb⟩; refine ⟨_, rfl, ?_⟩; have n0_ := Aside0.mk (Kd.S_below (by (with_reducible repeat (first | apply Kd.S_alloc | apply Kd.S_drewN | apply Kd.S_drew)); exact HO_8.out) hb); have n1_ := Aside0.mk (Kd.S_below (by (with_reducible repeat (first | apply Kd.S_alloc | apply Kd.S_drewN | apply Kd.S_drew)); exact HO_12.out) hb); have n2_ := Aside0.mk (Kd.C_below (by repeat (first | (with_reducible exact HR174.out) | (with_reducible refine Kd.C_alloc ?_ _) | (with_reducible refine Kd.C_drewN ?_ _) | (with_reducible refine Kd.C_drew ?_) | exact HR174.out)) hb); have n3_ := Aside0.mk (below_step (by repeat (first | (with_reducible first | exact HB.out | apply below_alloc | apply pw_below_drewN | apply below_drew1) | exact HB.out)) hb); clear HO_8; clear HO_12; clear HR174; clear HB; have HO_8 := n0_; have HO_12 := n1_; have HR174 := n2_; have HB := n3_; clear n0_ n1_ n2_ n3_; (try clear hb); (try clear hb2); (try clear hk); (try clear hi); have q41 : ((ji34) : Int) ≤ ((t155.length : Int) : Int) := of_decide_eq_true (by first | (with_reducible assumption) | assumption); obtain ⟨i041, hi041, _, hsz41, _⟩ := info_parts info24; have hroom41 : t155.length ≤ co14 := (Kd.S_reads' HO_8.out).2.1; have hC41 : Kd.C k24 _ Ao14 t155.length t155 := (Kd.S_reads' HO_8.out).2.2; have hcut41 := cut_to (P := Tryd.prog) 32 24 .i64 Tryd.underlying32 hi041 Ao14 t155.length co14 (ji34) (of_decide_eq_true (by first | (with_reducible assumption) | assumption)) q41 hroom41; have hr41 := Kd.C_take (m := ((ji34) : Int).toNat) hC41 (by omega); have hy41 : y177.length = ((ji34) : Int).toNat := (by rw [Ny177.out, List.length_take]; omega); rw [← Ny177.out] at hr41; rw [← hy41] at hcut41; have HR180 := Aside0.mk hr41; have HC180 := Aside0.mk (show y177.length ≤ co14 from by omega); clear hr41 hC41 hroom41 hi041 hsz41; have KY41 := Aside0.mk hy41; clear hy41; have KL41 := Aside0.mk (show ((ji34) : Int).toNat ≤ t155.length from by omega); replace q41 := eq_true q41) | ((with_reducible refine gate_callee (f := 20) rfl ?_); refine goesL_ (some 95) rfl rfl Tryd.func20 (by kernel_rfl) rfl #[.slice Ao14 y177.length co14] rfl (by (try simp only [List.map_toArray, List.map_cons, List.map_nil]); first | done | rfl | (simp only [List.length_drop, List.length_take]; rfl)) ?_; (with_reducible refine (hagglerlaw04_frames.calls kj10 _ _ y177 t181 t182 _ ?side1 ?side2 A37.out (HG.out.below (by repeat (first | (with_reducible first | exact HB.out | apply below_alloc | apply pw_below_drewN | apply below_drew1) | exact HB.out)))).mono ?_); (case side1 => repeat (first | exact (by repeat (first | (with_reducible exact HR180.out) | (with_reducible refine Kd.C_alloc ?_ _) | (with_reducible refine Kd.C_drewN ?_ _) | (with_reducible refine Kd.C_drew ?_) | exact HR180.out)) | (with_reducible refine Kd.C_alloc ?_ _) | (with_reducible refine Kd.C_drewN ?_ _) | (with_reducible refine Kd.C_drew ?_))); (case side2 => exact HC180.out); rintro e w42 ⟨rfl, hb⟩; refine ⟨_, rfl, ?_⟩; have n0_ := Aside0.mk (Kd.S_below (by (with_reducible repeat (first | apply Kd.S_alloc | apply Kd.S_drewN | apply Kd.S_drew)); exact HO_8.out) hb); have n1_ := Aside0.mk (Kd.S_below (by (with_reducible repeat (first | apply Kd.S_alloc | apply Kd.S_drewN | apply Kd.S_drew)); exact HO_12.out) hb); have n2_ := Aside0.mk (Kd.C_below (by repeat (first | (with_reducible exact HR174.out) | (with_reducible refine Kd.C_alloc ?_ _) | (with_reducible refine Kd.C_drewN ?_ _) | (with_reducible refine Kd.C_drew ?_) | exact HR174.out)) hb); have n3_ := Aside0.mk (Kd.C_below (by repeat (first | (with_reducible exact HR180.out) | (with_reducible refine Kd.C_alloc ?_ _) | (with_reducible refine Kd.C_drewN ?_ _) | (with_reducible refine Kd.C_drew ?_) | exact HR180.out)) hb); have n4_ := Aside0.mk (below_step (by repeat (first | (with_reducible first | exact HB.out | apply below_alloc | apply pw_below_drewN | apply below_drew1) | exact HB.out)) hb); clear HO_8; clear HO_12; clear HR174; clear HR180; clear HB; have HO_8 := n0_; have HO_12 := n1_; have HR174 := n2_; have HR180 := n3_; have HB := n4_; clear n0_ n1_ n2_ n3_ n4_; (try clear hb); (try clear hb2); (try clear hk); (try clear hi)))
                        go_ret
                        exact ⟨by first | rfl | (simp [errW_none, errW_some] <;> rfl) | (simp only [← hji34]; first | rfl | (simp [errW_none, errW_some] <;> rfl)) | (simp [*, errW_none, errW_some] <;> rfl), by repeat (first | (with_reducible first | exact HB.out | apply below_alloc | apply pw_below_drewN | apply below_drew1) | exact HB.out)⟩
                      · rw [if_neg c36] at H
                        exact absurd H (by simp)
                    · rw [if_neg c35] at H
                      exact absurd H (by simp)
                  · rw [if_neg c33] at H
                    have c33b0 : decide ((t161.length : Int) < (t155.length : Int)) = false := decide_eq_false c33
                    have c33b1 : decide (t161.length < t155.length) = false := decide_eq_false (fun h => c33 (Int.ofNat_lt.mpr h))
                    clear c33
                    obtain rfl := Option.some.inj H
                    obtain ⟨Ao43, co43, eo43⟩ := Kd.S_slice HO_12.out
                    subst eo43
                    have q44 : ((t161.length : Int) : Int) ≤ ((t155.length : Int) : Int) := of_decide_eq_true (by first | (with_reducible assumption) | assumption)
                    obtain ⟨i044, hi044, _, hsz44, _⟩ := info_parts info24
                    have hroom44 : t155.length ≤ co14 := (Kd.S_reads' HO_8.out).2.1
                    have hC44 : Kd.C k24 _ Ao14 t155.length t155 := (Kd.S_reads' HO_8.out).2.2
                    have hcut44 := cut_to (P := Tryd.prog) 32 24 .i64 Tryd.underlying32 hi044 Ao14 t155.length co14 (t161.length : Int) (of_decide_eq_true (by first | (with_reducible assumption) | assumption)) q44 hroom44
                    have hr44 := Kd.C_take (m := ((t161.length : Int) : Int).toNat) hC44 (by omega)
                    have hy44 : y171.length = ((t161.length : Int) : Int).toNat := (by rw [Ny171.out, List.length_take]; omega)
                    rw [← Ny171.out] at hr44
                    rw [← hy44] at hcut44
                    have HR174 := Aside0.mk hr44
                    have HC174 := Aside0.mk (show y171.length ≤ co14 from by omega)
                    clear hr44 hC44 hroom44 hi044 hsz44
                    have KY44 := Aside0.mk hy44
                    clear hy44
                    have KL44 := Aside0.mk (show ((t161.length : Int) : Int).toNat ≤ t155.length from by omega)
                    replace q44 := eq_true q44
                    go_wp2_with (first | ((with_reducible refine gate_callee (f := 20) rfl ?_); refine goesL_ (some 77) rfl rfl Tryd.func20 (by kernel_rfl) rfl #[.slice Ao14 y171.length co14] rfl (by (try simp only [List.map_toArray, List.map_cons, List.map_nil]); first | done | rfl | (simp only [List.length_drop, List.length_take]; rfl)) ?_; (with_reducible refine (hagglerlaw04_frames.calls kj10 _ _ y171 t175 t176 _ ?side1 ?side2 A31.out (HG.out.below (by repeat (first | (with_reducible first | exact HB.out | apply below_alloc | apply pw_below_drewN | apply below_drew1) | exact HB.out)))).mono ?_); (case side1 => repeat (first | exact (by repeat (first | (with_reducible exact HR174.out) | (with_reducible refine Kd.C_alloc ?_ _) | (with_reducible refine Kd.C_drewN ?_ _) | (with_reducible refine Kd.C_drew ?_) | exact HR174.out)) | (with_reducible refine Kd.C_alloc ?_ _) | (with_reducible refine Kd.C_drewN ?_ _) | (with_reducible refine Kd.C_drew ?_))); (case side2 => exact HC174.out); rintro e w45 ⟨rfl, hb⟩; refine ⟨_, rfl, ?_⟩; have n0_ := Aside0.mk (Kd.S_below (by (with_reducible repeat (first | apply Kd.S_alloc | apply Kd.S_drewN | apply Kd.S_drew)); exact HO_8.out) hb); have n1_ := Aside0.mk (Kd.S_below (by (with_reducible repeat (first | apply Kd.S_alloc | apply Kd.S_drewN | apply Kd.S_drew)); exact HO_12.out) hb); have n2_ := Aside0.mk (Kd.C_below (by repeat (first | (with_reducible exact HR174.out) | (with_reducible refine Kd.C_alloc ?_ _) | (with_reducible refine Kd.C_drewN ?_ _) | (with_reducible refine Kd.C_drew ?_) | exact HR174.out)) hb); have n3_ := Aside0.mk (below_step (by repeat (first | (with_reducible first | exact HB.out | apply below_alloc | apply pw_below_drewN | apply below_drew1) | exact HB.out)) hb); clear HO_8; clear HO_12; clear HR174; clear HB; have HO_8 := n0_; have HO_12 := n1_; have HR174 := n2_; have HB := n3_; clear n0_ n1_ n2_ n3_; (try clear hb); (try clear hb2); (try clear hk); (try clear hi)))
                    go_ret
                    exact ⟨by first | rfl | (simp [errW_none, errW_some] <;> rfl) | (simp [*, errW_none, errW_some] <;> rfl), by repeat (first | (with_reducible first | exact HB.out | apply below_alloc | apply pw_below_drewN | apply below_drew1) | exact HB.out)⟩
                · rw [if_neg c32] at H
                  have c32b0 : ((t175.size : Int) == t162) = false := beq_eq_false_iff_ne.mpr c32
                  have c32b1 : ((t175.size : Int) != t162) = true := bne_iff_ne.mpr c32
                  exact absurd ((Option.some.inj H).trans hr.out) (by decide)
              · rw [if_neg c30] at H
                exact absurd H (by simp)
            · rw [if_neg c29] at H
              exact absurd H (by simp)
    · rw [if_neg c9] at H
      exact absurd H (by simp)
  · rw [if_neg c8] at H
    exact absurd H (by simp)

end Go.Proofs.YthidhmfejnjdhaaDoor.HFrameTorn
