-- Written by a program of ours (hprint.py) for this claim, over the print of the kit.
import Derived.Test.YthidhmfejnjdhaaDoorHFrameTellsx0
namespace Go.Proofs.YthidhmfejnjdhaaDoor.HFrameTells
open Go.RowKit Go.Proofs.YthidhmfejnjdhaaDoorW.PrintWords Go.Proofs.YthidhmfejnjdhaaDoorW.PrintLast Go.Proofs.YthidhmfejnjdhaaDoorW.PrintMore Go.Proofs.YthidhmfejnjdhaaDoor.FrameG
attribute [local go_sem] max2_int min2_int max_two min_two max_three min_three max_four min_four   -- for this text's walks alone
set_option linter.unusedVariables false
set_option linter.unusedSimpArgs false

open Go.Proofs.YthidhmfejnjdhaaDoor.FrameS Go.Proofs.YthidhmfejnjdhaaDoor.FrameG Go.Proofs.YthidhmfejnjdhaaDoor.FrameE Go.Proofs.YthidhmfejnjdhaaDoor.FrameC in
def frame_Right.f (a0_0 : Int) (l0_1 : List Int) (a0_2 : ByteArray) : Option Bool := some (Go.Proofs.YthidhmfejnjdhaaDoor.FrameS.RightB ⟨a0_0, l0_1, a0_2⟩)
open Go.Proofs.YthidhmfejnjdhaaDoor.FrameS Go.Proofs.YthidhmfejnjdhaaDoor.FrameG Go.Proofs.YthidhmfejnjdhaaDoor.FrameE Go.Proofs.YthidhmfejnjdhaaDoor.FrameC in
theorem frame_Right.calls (a0_0 : Int) (A0_1 : Option Addr) (c0_1 : Nat) (l0_1 : List Int) (a0_2 : ByteArray) (r : Bool) (w : World) (hr0_1 : Kd.C (Kd.int .i64) w A0_1 l0_1.length l0_1) (hc0_1 : l0_1.length ≤ c0_1) (h : frame_Right.f a0_0 l0_1 a0_2 = some r) :
    Calls Tryd.prog 13 #[.agg #[.int .i64 a0_0, .slice A0_1 l0_1.length c0_1, .string a0_2]] w fun e w' => e = .returned (.bool r) ∧ Below w.heap.size w w' := by
  obtain rfl := Option.some.inj h
  exact right_calls A0_1 c0_1 ⟨a0_0, l0_1, a0_2⟩ w hr0_1


def frame_Encode.f (a0_0 : Int) (l0_1 : List Int) (a0_2 : ByteArray) : Option (ByteArray × Int) := if Go.Proofs.YthidhmfejnjdhaaDoor.FrameS.RightB ⟨a0_0, l0_1, a0_2⟩ = true then some (⟨(Go.Proofs.YthidhmfejnjdhaaDoor.FrameS.frameL ⟨a0_0, l0_1, a0_2⟩).toArray⟩, 0) else some (⟨#[]⟩, 1)
open Go.Proofs.YthidhmfejnjdhaaDoor.FrameS Go.Proofs.YthidhmfejnjdhaaDoor.FrameG Go.Proofs.YthidhmfejnjdhaaDoor.FrameE Go.Proofs.YthidhmfejnjdhaaDoor.FrameC in
theorem frame_Encode.calls (a0_0 : Int) (A0_1 : Option Addr) (c0_1 : Nat) (l0_1 : List Int) (a0_2 : ByteArray) (r1 : ByteArray) (r2 : Int) (w : World) (hr0_1 : Kd.C (Kd.int .i64) w A0_1 l0_1.length l0_1) (hc0_1 : l0_1.length ≤ c0_1) (h : frame_Encode.f a0_0 l0_1 a0_2 = some (r1, r2)) (hG : G w) :
    Calls Tryd.prog 11 #[.agg #[.int .i64 a0_0, .slice A0_1 l0_1.length c0_1, .string a0_2]] w fun e w' => e = .returned (.tuple #[.string r1, .int .i64 r2]) ∧ Below w.heap.size w w' := by
  unfold frame_Encode.f at h
  by_cases hq : RightB ⟨a0_0, l0_1, a0_2⟩ = true
  · rw [if_pos hq] at h
    simp only [Option.some.injEq, Prod.mk.injEq] at h
    obtain ⟨rfl, rfl⟩ := h
    exact encode_yes A0_1 c0_1 ⟨a0_0, l0_1, a0_2⟩ w hG hr0_1 ((rightB_iff _).1 hq)
  · rw [if_neg hq] at h
    simp only [Option.some.injEq, Prod.mk.injEq] at h
    obtain ⟨rfl, rfl⟩ := h
    exact encode_no A0_1 c0_1 ⟨a0_0, l0_1, a0_2⟩ w hr0_1 (by simpa using hq)


def ofR (r : Go.Proofs.YthidhmfejnjdhaaDoor.FrameS.Rec) : S24 := ⟨r.kind, r.nums, r.text⟩
def toR (x : S24) : Go.Proofs.YthidhmfejnjdhaaDoor.FrameS.Rec := ⟨x.f0, x.f1, x.f2⟩
noncomputable def frame_Scan.f (a0 : ByteArray) : Option (List S24 × Int × Int) := if a0.size ≤ 1000000000000 then some ((Go.Proofs.YthidhmfejnjdhaaDoor.FrameC.scanF (Go.Proofs.YthidhmfejnjdhaaDoor.FrameS.tl a0)).1.map ofR, ((Go.Proofs.YthidhmfejnjdhaaDoor.FrameC.scanF (Go.Proofs.YthidhmfejnjdhaaDoor.FrameS.tl a0)).2.1 : Int), Go.Proofs.YthidhmfejnjdhaaDoor.FrameC.endE (Go.Proofs.YthidhmfejnjdhaaDoor.FrameC.scanF (Go.Proofs.YthidhmfejnjdhaaDoor.FrameS.tl a0)).2.2) else none
open Go.Proofs.YthidhmfejnjdhaaDoor.FrameS Go.Proofs.YthidhmfejnjdhaaDoor.FrameG Go.Proofs.YthidhmfejnjdhaaDoor.FrameE Go.Proofs.YthidhmfejnjdhaaDoor.FrameC in
theorem frame_Scan.calls (a0 : ByteArray) (r1 : List S24) (r2 : Int) (r3 : Int) (w : World) (h : frame_Scan.f a0 = some (r1, r2, r3)) (hG : G w) :
    Calls Tryd.prog 17 #[.string a0] w fun e w' => ∃ v0_ : Value, e = .returned (.tuple #[v0_, .int .i64 r2, .int .i64 r3]) ∧ Kd.S k24 24 w' w.heap.size (fun _ => True) v0_ r1 ∧ Below w.heap.size w w' := by
  unfold frame_Scan.f at h
  by_cases hq : a0.size ≤ 1000000000000
  · rw [if_pos hq] at h
    simp only [Option.some.injEq, Prod.mk.injEq] at h
    refine (scan_calls a0 w hG hq).mono ?_
    rintro e w' ⟨l, n, ok, v, hs, rfl, hS, hb⟩
    rw [scanF_eq hs] at h
    obtain ⟨rfl, rfl, rfl⟩ := h
    exact ⟨v, rfl, S_isoR (fun x : S24 => (x.f0, x.f1, x.f2)) ofR rfl (fun _ => rfl) hS, hb⟩
  · rw [if_neg hq] at h; exact absurd h (by simp)


/-! ### hagglerlaw04_awake: function 10 -/
noncomputable def hagglerlaw04_awake.f  : Option (Bool) := (some (([7, (-1)] : List Int) : List Int)).bind fun y101 => ((frame_Encode.f 3 y101 (⟨#[97]⟩ : ByteArray)).bind fun bt105 => ((frame_Encode.f 0 ([] : List Int) (⟨#[]⟩ : ByteArray)).bind fun bt107 => (if bt105.1.size + bt105.1.size ≤ 9223372036854775807 then (if (bt105.1 ++ bt105.1).size + 1 ≤ 9223372036854775807 then ((frame_Scan.f ((bt105.1 ++ bt105.1) ++ (⟨#[0]⟩ : ByteArray))).bind fun bt109 => ((frame_Scan.f (⟨#[0, 1, 120, 97, 98]⟩ : ByteArray)).bind fun bt114 => (if (bt105.1.size : Int) = 12 then (if 2 ≤ 10 then (if 10 ≤ (bt105.1.size : Int) then (if (bt105.1.extract 2 10).toList = ([51, 32, 55, 32, 45, 49, 58, 97] : List UInt8) then (if 0 ≤ 2 then (if 2 ≤ (bt105.1.size : Int) then (if (bt105.1.extract 0 2).toList = ([0, 8] : List UInt8) then (if bt105.2 = 0 then (if bt107.2 = 1 then (if (bt109.1.length : Int) = 2 then (if bt109.2.1 = 24 then (if bt109.2.2 = 0 then (if bt114.2.1 = 0 then (if bt114.2.2 = 40 then ((frame_Right.f 3 y101 (⟨#[97]⟩ : ByteArray)).bind fun t119 => (if t119 = true then (if 1 < (bt109.1.length : Int) then (if 1 < (((rd_T24 bt109.1 1).f1).length : Int) then (some ((rd ((rd_T24 bt109.1 1).f1) 1) == (-1))) else (none)) else (none)) else (some false))) else (some false)) else (some false)) else (some false)) else (some false)) else (some false)) else (some false)) else (some false)) else (some false)) else (none)) else (none)) else (some false)) else (none)) else (none)) else (some false)))) else (none)) else (none))))
namespace AwakeP
open Go.Proofs.YthidhmfejnjdhaaDoor.FrameS Go.Proofs.YthidhmfejnjdhaaDoor.FrameC
/-! Records by two names. -/
theorem of_to (x : S24) : ofR (toR x) = x := rfl
theorem to_of (r : Rec) : toR (ofR r) = r := rfl
theorem encode_right (x : S24) (h : Right (toR x)) : frame_Encode.f x.f0 x.f1 x.f2 = some (⟨(frameL (toR x)).toArray⟩, 0) := by
  unfold frame_Encode.f
  show (if RightB (toR x) = true then some ((⟨(frameL (toR x)).toArray⟩ : ByteArray), (0 : Int)) else some (⟨#[]⟩, 1)) = _
  rw [if_pos ((rightB_iff _).2 h)]
def fr : List UInt8 := [0, 8, 51, 32, 55, 32, 45, 49, 58, 97, 173, 100]
def rA : Rec := ⟨3, [7, -1], ⟨#[97]⟩⟩
theorem rA_right : Right rA := (rightB_iff _).1 (by decide)
theorem itoa_small (n : Nat) (h : n < 10) : Lib.itoa (n : Int) = [UInt8.ofNat (48 + n)] := by
  unfold Lib.itoa; rw [if_neg (by omega), Int.toNat_natCast, Lib.decDigits_one h]
theorem itoa_m1 : Lib.itoa (-1) = [45, 49] := by
  unfold Lib.itoa; rw [if_pos (by omega)]
  rw [show (-1 : Int).natAbs = 1 from rfl, Lib.decDigits_one (by omega)]; rfl
theorem rA_body : bodyL rA = [51, 32, 55, 32, 45, 49, 58, 97] := by
  rw [bodyL_eq]
  show Lib.itoa ((3 : Nat) : Int) ++ (tailL [((7 : Nat) : Int), -1] ++ 58 :: tl ⟨#[97]⟩) = _
  rw [tailL_cons, tailL_cons, tailL_nil, itoa_small 3 (by omega), itoa_small 7 (by omega), itoa_m1]
  rfl
theorem rA_frame : frameL rA = fr := by
  unfold frameL wrapL
  rw [rA_body]
  decide +kernel
def frB : ByteArray := ⟨fr.toArray⟩
theorem enc_rA : frame_Encode.f 3 [7, -1] ⟨#[97]⟩ = some (frB, 0) := by
  have := encode_right (ofR rA) rA_right
  rw [to_of, rA_frame] at this
  exact this
theorem enc_zero : frame_Encode.f 0 [] ⟨#[]⟩ = some (⟨#[]⟩, 1) := by
  unfold frame_Encode.f
  rw [if_neg (by decide)]
theorem scan_ok {s : ByteArray} {l n e} (h : Scan (tl s) l n e) (hs : s.size ≤ 1000000000000) : frame_Scan.f s = some (l.map ofR, (n : Int), endE e) := by
  unfold frame_Scan.f
  rw [if_pos hs, scanF_eq h]
theorem not_whole_one : ¬ Whole [0] := fun h => by have := h.1; simp at this
theorem scan_two : Scan (fr ++ fr ++ [0]) [rA, rA] 24 true := by
  have h := scan_frames (l := [rA, rA]) (fun r hr => by simp at hr; rw [hr]; exact rA_right) (.stop [0] not_whole_one)
  rw [framesL_cons, framesL_cons, framesL_nil, rA_frame] at h
  have e : (fr ++ (fr ++ [])).length + 0 = 24 := by decide
  rw [e] at h
  simpa using h
theorem scan_bad : Scan [0, 1, 120, 97, 98] [] 0 false := by
  refine .bad _ ⟨by decide, by decide⟩ ?_
  intro r hr h
  have h2 : lenOf [0, 1, 120, 97, 98] = 1 := by decide
  rw [h2] at h
  have h3 := congrArg List.length h
  rw [frame_length] at h3
  have := (body_length r hr).2
  simp at h3
  omega
theorem awake_ok : hagglerlaw04_awake.f = some true := by
  unfold hagglerlaw04_awake.f
  simp only [Option.bind_some]
  rw [enc_rA]
  simp only [Option.bind_some]
  rw [enc_zero]
  simp only [Option.bind_some]
  rw [if_pos (by decide), if_pos (by decide)]
  rw [scan_ok (s := (frB ++ frB) ++ (⟨#[0]⟩ : ByteArray)) (l := [rA, rA]) (n := 24) (e := true) (by
    have : tl ((frB ++ frB) ++ (⟨#[0]⟩ : ByteArray)) = fr ++ fr ++ [0] := by decide
    rw [this]; exact scan_two) (by decide)]
  simp only [Option.bind_some]
  rw [scan_ok (s := (⟨#[0, 1, 120, 97, 98]⟩ : ByteArray)) (l := []) (n := 0) (e := false) scan_bad (by decide)]
  simp only [Option.bind_some]
  rw [if_pos (by decide), if_pos (by decide), if_pos (by decide), if_pos (by decide +kernel), if_pos (by decide), if_pos (by decide), if_pos (by decide +kernel)]
  rw [if_pos trivial, if_pos trivial, if_pos (by decide), if_pos (by decide), if_pos (by decide), if_pos (by decide), if_pos (by decide)]
  have : frame_Right.f 3 [7, -1] ⟨#[97]⟩ = some true := by
    unfold frame_Right.f
    exact congrArg some ((rightB_iff _).2 rA_right)
  rw [this]
  simp only [Option.bind_some]
  rw [if_pos trivial, if_pos (by decide), if_pos (by decide)]
  rfl
end AwakeP
set_option maxHeartbeats 8000000 in
set_option maxRecDepth 100000 in
theorem hagglerlaw04_awake.calls  (r : Bool) (w : World) (h : hagglerlaw04_awake.f  = some r) (hG : G w) :
    Calls Tryd.prog 10 #[] w fun e w' => e = .returned (.bool r) ∧ Below w.heap.size w w' := by
  have hrt := Aside0.mk (Option.some.inj (h.symm.trans AwakeP.awake_ok))
  have HG := Aside0.mk hG
  clear hG
  have hu24 := Tryd.underlying24
  have HB := Aside0.mk (Below.refl w.heap.size w)
  have H : ((some (([7, (-1)] : List Int) : List Int)).bind fun y101 => ((frame_Encode.f 3 y101 (⟨#[97]⟩ : ByteArray)).bind fun bt105 => ((frame_Encode.f 0 ([] : List Int) (⟨#[]⟩ : ByteArray)).bind fun bt107 => (if bt105.1.size + bt105.1.size ≤ 9223372036854775807 then (if (bt105.1 ++ bt105.1).size + 1 ≤ 9223372036854775807 then ((frame_Scan.f ((bt105.1 ++ bt105.1) ++ (⟨#[0]⟩ : ByteArray))).bind fun bt109 => ((frame_Scan.f (⟨#[0, 1, 120, 97, 98]⟩ : ByteArray)).bind fun bt114 => (if (bt105.1.size : Int) = 12 then (if 2 ≤ 10 then (if 10 ≤ (bt105.1.size : Int) then (if (bt105.1.extract 2 10).toList = ([51, 32, 55, 32, 45, 49, 58, 97] : List UInt8) then (if 0 ≤ 2 then (if 2 ≤ (bt105.1.size : Int) then (if (bt105.1.extract 0 2).toList = ([0, 8] : List UInt8) then (if bt105.2 = 0 then (if bt107.2 = 1 then (if (bt109.1.length : Int) = 2 then (if bt109.2.1 = 24 then (if bt109.2.2 = 0 then (if bt114.2.1 = 0 then (if bt114.2.2 = 40 then ((frame_Right.f 3 y101 (⟨#[97]⟩ : ByteArray)).bind fun t119 => (if t119 = true then (if 1 < (bt109.1.length : Int) then (if 1 < (((rd_T24 bt109.1 1).f1).length : Int) then (some ((rd ((rd_T24 bt109.1 1).f1) 1) == (-1))) else (none)) else (none)) else (some false))) else (some false)) else (some false)) else (some false)) else (some false)) else (some false)) else (some false)) else (some false)) else (some false)) else (none)) else (none)) else (some false)) else (none)) else (none)) else (some false)))) else (none)) else (none))))) = some r := h
  clear h
  obtain ⟨y101, hy101⟩ : ∃ y_ : List Int, y_ = (([7, (-1)] : List Int)) := ⟨_, rfl⟩
  replace H : ((frame_Encode.f 3 y101 (⟨#[97]⟩ : ByteArray)).bind fun bt105 => ((frame_Encode.f 0 ([] : List Int) (⟨#[]⟩ : ByteArray)).bind fun bt107 => (if bt105.1.size + bt105.1.size ≤ 9223372036854775807 then (if (bt105.1 ++ bt105.1).size + 1 ≤ 9223372036854775807 then ((frame_Scan.f ((bt105.1 ++ bt105.1) ++ (⟨#[0]⟩ : ByteArray))).bind fun bt109 => ((frame_Scan.f (⟨#[0, 1, 120, 97, 98]⟩ : ByteArray)).bind fun bt114 => (if (bt105.1.size : Int) = 12 then (if 2 ≤ 10 then (if 10 ≤ (bt105.1.size : Int) then (if (bt105.1.extract 2 10).toList = ([51, 32, 55, 32, 45, 49, 58, 97] : List UInt8) then (if 0 ≤ 2 then (if 2 ≤ (bt105.1.size : Int) then (if (bt105.1.extract 0 2).toList = ([0, 8] : List UInt8) then (if bt105.2 = 0 then (if bt107.2 = 1 then (if (bt109.1.length : Int) = 2 then (if bt109.2.1 = 24 then (if bt109.2.2 = 0 then (if bt114.2.1 = 0 then (if bt114.2.2 = 40 then ((frame_Right.f 3 y101 (⟨#[97]⟩ : ByteArray)).bind fun t119 => (if t119 = true then (if 1 < (bt109.1.length : Int) then (if 1 < (((rd_T24 bt109.1 1).f1).length : Int) then (some ((rd ((rd_T24 bt109.1 1).f1) 1) == (-1))) else (none)) else (none)) else (some false))) else (some false)) else (some false)) else (some false)) else (some false)) else (some false)) else (some false)) else (some false)) else (some false)) else (none)) else (none)) else (some false)) else (none)) else (none)) else (some false)))) else (none)) else (none)))) = some r := by first | (rw [hy101]; with_reducible exact H) | (have H2_ := (Option.bind_some _ _).symm.trans H; rw [hy101]; with_reducible exact H2_) | (have H2_ := (Option.bind_some _ _).symm.trans H; with_reducible exact H2_) | with_reducible exact H | (rw [hy101]; exact H) | exact H
  have Ny101 := Aside0.mk hy101
  clear hy101
  replace H := Option.bind_eq_some_iff.mp H
  obtain ⟨⟨t105, t106⟩, A10, H⟩ := H
  (try dsimp only at H)
  have A1 := Aside0.mk A10
  clear A10
  replace H := Option.bind_eq_some_iff.mp H
  obtain ⟨⟨t107, t108⟩, A20, H⟩ := H
  (try dsimp only at H)
  have A2 := Aside0.mk A20
  clear A20
  by_cases c3 : t105.size + t105.size ≤ 9223372036854775807
  · rw [if_pos c3] at H
    have c3b0 := eq_true c3
    have c3b1 : decide (t105.size + t105.size ≤ 9223372036854775807) = true := decide_eq_true c3
    try have c3b2 : (9223372036854775807 < t105.size + t105.size) = False := eq_false (Nat.not_lt.2 c3)
    by_cases c4 : (t105 ++ t105).size + 1 ≤ 9223372036854775807
    · rw [if_pos c4] at H
      have c4b0 := eq_true c4
      have c4b1 : decide ((t105 ++ t105).size + 1 ≤ 9223372036854775807) = true := decide_eq_true c4
      try have c4b2 : (9223372036854775807 < (t105 ++ t105).size + 1) = False := eq_false (Nat.not_lt.2 c4)
      (try have c4z : (9223372036854775807 < t105.size + t105.size + 1) = False := eq_false (by have h_ := c4; simp only [ByteArray.size_append, ByteArray.size_extract] at h_; skip; first | omega | (simp at h_ ⊢; omega)))
      (try have c4n : (9223372036854775807 < t105.size + t105.size + 1) = False := eq_false (by have h_ := c4; simp only [ByteArray.size_append, ByteArray.size_extract] at h_ ⊢; omega))
      replace H := Option.bind_eq_some_iff.mp H
      obtain ⟨⟨t109, t110, t111⟩, A50, H⟩ := H
      (try dsimp only at H)
      have A5 := Aside0.mk A50
      clear A50
      replace H := Option.bind_eq_some_iff.mp H
      obtain ⟨⟨t114, t115, t116⟩, A60, H⟩ := H
      (try dsimp only at H)
      have A6 := Aside0.mk A60
      clear A60
      by_cases c7 : (t105.size : Int) = 12
      · rw [if_pos c7] at H
        have c7b0 : ((t105.size : Int) == 12) = true := beq_iff_eq.mpr c7
        have c7b1 : ((t105.size : Int) != 12) = false := bne_eq_false_iff_eq.mpr c7
        clear c7
        by_cases c8 : 2 ≤ 10
        · rw [if_pos c8] at H
          have c8b0 := eq_true c8
          have c8b1 : decide (2 ≤ 10) = true := decide_eq_true c8
          clear c8
          by_cases c9 : 10 ≤ (t105.size : Int)
          · rw [if_pos c9] at H
            have c9b0 := eq_true c9
            have c9b1 : decide (10 ≤ (t105.size : Int)) = true := decide_eq_true c9
            clear c9
            by_cases c10 : (t105.extract 2 10).toList = ([51, 32, 55, 32, 45, 49, 58, 97] : List UInt8)
            · rw [if_pos c10] at H
              have c10b0 : ((t105.extract 2 10).toList == ([51, 32, 55, 32, 45, 49, 58, 97] : List UInt8)) = true := beq_iff_eq.mpr c10
              have c10b1 : ((t105.extract 2 10).toList != ([51, 32, 55, 32, 45, 49, 58, 97] : List UInt8)) = false := bne_eq_false_iff_eq.mpr c10
              clear c10
              by_cases c11 : 0 ≤ 2
              · rw [if_pos c11] at H
                have c11b0 := eq_true c11
                have c11b1 : decide (0 ≤ 2) = true := decide_eq_true c11
                clear c11
                by_cases c12 : 2 ≤ (t105.size : Int)
                · rw [if_pos c12] at H
                  have c12b0 := eq_true c12
                  have c12b1 : decide (2 ≤ (t105.size : Int)) = true := decide_eq_true c12
                  clear c12
                  by_cases c13 : (t105.extract 0 2).toList = ([0, 8] : List UInt8)
                  · rw [if_pos c13] at H
                    have c13b0 : ((t105.extract 0 2).toList == ([0, 8] : List UInt8)) = true := beq_iff_eq.mpr c13
                    have c13b1 : ((t105.extract 0 2).toList != ([0, 8] : List UInt8)) = false := bne_eq_false_iff_eq.mpr c13
                    clear c13
                    by_cases c14 : t106 = 0
                    · rw [if_pos c14] at H
                      have c14b0 : (t106 == 0) = true := beq_iff_eq.mpr c14
                      have c14b1 : (t106 != 0) = false := bne_eq_false_iff_eq.mpr c14
                      clear c14
                      by_cases c15 : t108 = 1
                      · rw [if_pos c15] at H
                        have c15b0 : (t108 == 1) = true := beq_iff_eq.mpr c15
                        have c15b1 : (t108 != 1) = false := bne_eq_false_iff_eq.mpr c15
                        clear c15
                        by_cases c16 : (t109.length : Int) = 2
                        · rw [if_pos c16] at H
                          have c16b0 : ((t109.length : Int) == 2) = true := beq_iff_eq.mpr c16
                          have c16b1 : ((t109.length : Int) != 2) = false := bne_eq_false_iff_eq.mpr c16
                          clear c16
                          by_cases c17 : t110 = 24
                          · rw [if_pos c17] at H
                            have c17b0 : (t110 == 24) = true := beq_iff_eq.mpr c17
                            have c17b1 : (t110 != 24) = false := bne_eq_false_iff_eq.mpr c17
                            clear c17
                            by_cases c18 : t111 = 0
                            · rw [if_pos c18] at H
                              have c18b0 : (t111 == 0) = true := beq_iff_eq.mpr c18
                              have c18b1 : (t111 != 0) = false := bne_eq_false_iff_eq.mpr c18
                              clear c18
                              by_cases c19 : t115 = 0
                              · rw [if_pos c19] at H
                                have c19b0 : (t115 == 0) = true := beq_iff_eq.mpr c19
                                have c19b1 : (t115 != 0) = false := bne_eq_false_iff_eq.mpr c19
                                clear c19
                                by_cases c20 : t116 = 40
                                · rw [if_pos c20] at H
                                  have c20b0 : (t116 == 40) = true := beq_iff_eq.mpr c20
                                  have c20b1 : (t116 != 40) = false := bne_eq_false_iff_eq.mpr c20
                                  clear c20
                                  replace H := Option.bind_eq_some_iff.mp H
                                  obtain ⟨t119, A210, H⟩ := H
                                  replace H : (if t119 = true then (if 1 < (t109.length : Int) then (if 1 < (((rd_T24 t109 1).f1).length : Int) then (some ((rd ((rd_T24 t109 1).f1) 1) == (-1))) else (none)) else (none)) else (some false)) = some r := H
                                  have A21 := Aside0.mk A210
                                  clear A210
                                  by_cases c22 : t119 = true
                                  · subst c22
                                    have H1 : (if 1 < (t109.length : Int) then (if 1 < (((rd_T24 t109 1).f1).length : Int) then (some ((rd ((rd_T24 t109 1).f1) 1) == (-1))) else (none)) else (none)) = some r := by rw [if_pos rfl] at H; exact H
                                    clear H
                                    have H := H1
                                    clear H1
                                    by_cases c23 : 1 < (t109.length : Int)
                                    · rw [if_pos c23] at H
                                      have c23b0 : decide (1 < (t109.length : Int)) = true := decide_eq_true c23
                                      have c23b1 : decide (1 < t109.length) = true := decide_eq_true (by omega)
                                      clear c23
                                      by_cases c24 : 1 < (((rd_T24 t109 1).f1).length : Int)
                                      · rw [if_pos c24] at H
                                        have c24b0 : decide (1 < (((rd_T24 t109 1).f1).length : Int)) = true := decide_eq_true c24
                                        have c24b1 : decide (1 < ((rd_T24 t109 1).f1).length) = true := decide_eq_true (by omega)
                                        clear c24
                                        obtain rfl := Option.some.inj H
                                        go_enter Tryd.func10, Tryd.ntmps10
                                        go_wp2_with (first | ((with_reducible refine gate_dst (N := 12) rfl ?_); (try (refine gate_guard (by rfl) ?_; dsimp only)); refine Kd.R_lit (Kd.int .i64) _ 3 ?hg (N := 12) ?hd (xs := ([7, (-1)] : List Int)) (inner := [.int .i64 7, .int .i64 (-1)]) (ok := fun _ => True) (okp := fun _ => True) ?hr ?hp (fun _ hk => hk) trivial (Below.refl _ _) (Nat.le_refl _) (by simp) ?_; (case hd => rfl); (case hg => rfl); (case hr => first | (go_simp; done) | (go_simp; rfl)); (case hp => exact (Reps.one (show Kd.M (Kd.int .i64) _ _ _ 7 [.int .i64 7] from rfl) (Reps.one (show Kd.M (Kd.int .i64) _ _ _ (-1) [.int .i64 (-1)] from rfl) (Reps.none _ _)))); intro v102 w25 ho26 hb hg_ hnew_; clear hg_ hnew_; (first | rw [← Ny101.out] at ho26 | (simp only [Int.reduceToNat] at ho26; rw [← Ny101.out] at ho26)); have n0_ := Aside0.mk (Kd.R_lower ho26 (below_size (by repeat (first | (with_reducible first | exact HB.out | apply below_alloc | apply pw_below_drewN | apply below_drew1) | exact HB.out)))); have n1_ := Aside0.mk (below_step (by repeat (first | (with_reducible first | exact HB.out | apply below_alloc | apply pw_below_drewN | apply below_drew1) | exact HB.out)) hb); clear HB; have HO103 := n0_; have HB := n1_; clear n0_ n1_; clear hb ho26; obtain ⟨Ao27, co27, eo27⟩ := Kd.R_slice HO103.out; subst eo27) | ((with_reducible refine gate_dst (N := 1) rfl ?_); (try (refine gate_guard (by rfl) ?_; dsimp only)); refine box_event ?hg (N := 1) ?hd (cs := #[.int .i64 0, .slice none 0 0, .string (⟨#[]⟩ : ByteArray)]) (t := 24) ?hr ?_; (case hd => rfl); (case hg => rfl); (case hr => first | (go_simp; done) | (go_simp; rfl)); intro gb104 hg w28 hbox hb; have n0_ := Aside0.mk (Kd.R_below (by (with_reducible repeat (first | apply Kd.R_alloc | apply Kd.R_drewN | apply Kd.R_drew)); exact HO103.out) hb); have n1_ := Aside0.mk (below_step (by repeat (first | (with_reducible first | exact HB.out | apply below_alloc | apply pw_below_drewN | apply below_drew1) | exact HB.out)) hb); have n2_ := Aside0.mk (hbox); have n3_ := Aside0.mk ((by rw [hg]; exact (below_size (by repeat (first | (with_reducible first | exact HB.out | apply below_alloc | apply pw_below_drewN | apply below_drew1) | exact HB.out))) : w.heap.size ≤ gb104)); have n4_ := Aside0.mk ((by rw [hg]; exact (below_size (by repeat (first | (with_reducible first | exact HB.out | apply below_alloc | apply pw_below_drewN | apply below_drew1) | exact HB.out))) : w.heap.size ≤ gb104)); clear HO103; clear HB; have HO103 := n0_; have HB := n1_; have BK104 := n2_; have GW104 := n3_; have GE104 := n4_; clear n0_ n1_ n2_ n3_ n4_; clear hb hbox hg; have hcz29_0 : w28.cell? ⟨gb104, 0, none⟩ = some (.int .i64 0) := (blk_cell BK104.out 0).trans rfl; have hcz29_1 : w28.cell? ⟨gb104, 1, none⟩ = some (.slice none 0 0) := (blk_cell BK104.out 1).trans rfl; have hcz29_2 : w28.cell? ⟨gb104, 2, none⟩ = some (.string (⟨#[]⟩ : ByteArray)) := (blk_cell BK104.out 2).trans rfl; have hfz29_0 := blk_frozen BK104.out 0; have hfz29_1 := blk_frozen BK104.out 1; have hfz29_2 := blk_frozen BK104.out 2) | ((with_reducible refine gate_callee (f := 11) rfl ?_); refine goesL_ (some 16) rfl rfl Tryd.func11 (by kernel_rfl) rfl #[.agg #[.int .i64 3, .slice Ao27 y101.length co27, .string (⟨#[97]⟩ : ByteArray)]] rfl (by (try simp only [List.map_toArray, List.map_cons, List.map_nil]); first | done | rfl | (simp only [List.length_drop, List.length_take]; rfl)) ?_; (with_reducible refine (frame_Encode.calls 3 _ _ y101 (⟨#[97]⟩ : ByteArray) t105 t106 _ ?side1 ?side2 A1.out (HG.out.below (by repeat (first | (with_reducible first | exact HB.out | apply below_alloc | apply pw_below_drewN | apply below_drew1 | refine below_set ?_ GE104.out) | exact HB.out)))).mono ?_); (case side1 => refine (Kd.R_reads' (e := 3) (base := w.heap.size) (ok := fun k_ => True) (n := y101.length) (c := co27) ?_).2.2; exact (by (with_reducible repeat (first | apply Kd.R_alloc | apply Kd.R_drewN | apply Kd.R_drew)); exact (Kd.R_mono (Kd.R_far (p := ⟨gb104, 2, none⟩) (Kd.R_far (p := ⟨gb104, 1, none⟩) (Kd.R_far (p := ⟨gb104, 0, none⟩) (Kd.R_types HO103.out BK104.out (by decide)) (fun _ hk => hk.2) (.int .i64 3)) (fun _ hk => hk.2) (.slice Ao27 y101.length co27)) (fun _ hk => hk.2) (.string (⟨#[97]⟩ : ByteArray))) (fun _ h_ => h_.1)))); (case side2 => exact (Kd.R_reads' HO103.out).2.1); rintro e w30 ⟨rfl, hb⟩; refine ⟨_, rfl, ?_⟩; have n0_ := Aside0.mk (Kd.R_below (by (with_reducible repeat (first | apply Kd.R_alloc | apply Kd.R_drewN | apply Kd.R_drew)); exact (Kd.R_mono (Kd.R_far (p := ⟨gb104, 2, none⟩) (Kd.R_far (p := ⟨gb104, 1, none⟩) (Kd.R_far (p := ⟨gb104, 0, none⟩) (Kd.R_types HO103.out BK104.out (by decide)) (fun _ hk => hk.2) (.int .i64 3)) (fun _ hk => hk.2) (.slice Ao27 y101.length co27)) (fun _ hk => hk.2) (.string (⟨#[97]⟩ : ByteArray))) (fun _ h_ => h_.1))) hb); have n1_ := Aside0.mk (blk_below (g := gb104) (o := .cells #[.int .i64 3, .slice Ao27 y101.length co27, .string (⟨#[97]⟩ : ByteArray)] 24 (0, 0)) (by (with_reducible repeat (first | refine blk_drewN ?_ _ | refine blk_drew ?_ | refine blk_alloc ?_ _)); refine blk_put (cs := #[.int .i64 3, .slice Ao27 y101.length co27, .string (⟨#[]⟩ : ByteArray)]) ?_ 2 _ rfl; (with_reducible repeat (first | refine blk_drewN ?_ _ | refine blk_drew ?_ | refine blk_alloc ?_ _)); refine blk_put (cs := #[.int .i64 3, .slice none 0 0, .string (⟨#[]⟩ : ByteArray)]) ?_ 1 _ rfl; (with_reducible repeat (first | refine blk_drewN ?_ _ | refine blk_drew ?_ | refine blk_alloc ?_ _)); refine blk_put (cs := #[.int .i64 0, .slice none 0 0, .string (⟨#[]⟩ : ByteArray)]) ?_ 0 _ rfl; (with_reducible repeat (first | refine blk_drewN ?_ _ | refine blk_drew ?_ | refine blk_alloc ?_ _)); exact BK104.out) hb); have n2_ := Aside0.mk (below_step (by repeat (first | (with_reducible first | exact HB.out | apply below_alloc | apply pw_below_drewN | apply below_drew1 | refine below_set ?_ GE104.out) | exact HB.out)) hb); clear HO103; clear BK104; clear HB; have HO103 := n0_; have BK104 := n1_; have HB := n2_; clear n0_ n1_ n2_; (try clear hb); (try clear hb2); (try clear hk); (try clear hi)) | ((with_reducible refine gate_callee (f := 11) rfl ?_); refine goesL_ (some 21) rfl rfl Tryd.func11 (by kernel_rfl) rfl #[.agg #[.int .i64 0, .slice none 0 0, .string (⟨#[]⟩ : ByteArray)]] rfl (by (try simp only [List.map_toArray, List.map_cons, List.map_nil]); first | done | rfl | (simp only [List.length_drop, List.length_take]; rfl)) ?_; (refine (frame_Encode.calls 0 _ _ ([] : List Int) (⟨#[]⟩ : ByteArray) t107 t108 _ ?side1 ?side2 A2.out (HG.out.below (by repeat (first | (with_reducible first | exact HB.out | apply below_alloc | apply pw_below_drewN | apply below_drew1 | refine below_set ?_ GE104.out) | exact HB.out)))).mono ?_); (case side1 => exact Kd.C_nil _ _); (case side2 => exact Nat.le_refl _); rintro e w31 ⟨rfl, hb⟩; refine ⟨_, rfl, ?_⟩; have n0_ := Aside0.mk (Kd.R_below (by (with_reducible repeat (first | apply Kd.R_alloc | apply Kd.R_drewN | apply Kd.R_drew)); exact HO103.out) hb); have n1_ := Aside0.mk (blk_below (g := gb104) (o := .cells #[.int .i64 3, .slice Ao27 y101.length co27, .string (⟨#[97]⟩ : ByteArray)] 24 (0, 0)) (by (with_reducible repeat (first | refine blk_drewN ?_ _ | refine blk_drew ?_ | refine blk_alloc ?_ _)); exact BK104.out) hb); have n2_ := Aside0.mk (below_step (by repeat (first | (with_reducible first | exact HB.out | apply below_alloc | apply pw_below_drewN | apply below_drew1 | refine below_set ?_ GE104.out) | exact HB.out)) hb); clear HO103; clear BK104; clear HB; have HO103 := n0_; have BK104 := n1_; have HB := n2_; clear n0_ n1_ n2_; (try clear hb); (try clear hb2); (try clear hk); (try clear hi)) | ((with_reducible refine gate_callee (f := 17) rfl ?_); refine goesL_ (some 29) rfl rfl Tryd.func17 (by kernel_rfl) rfl #[.string ((t105 ++ t105) ++ (⟨#[0]⟩ : ByteArray))] rfl (by (try simp only [List.map_toArray, List.map_cons, List.map_nil]); first | done | rfl | (simp only [List.length_drop, List.length_take]; rfl)) ?_; (with_reducible refine (frame_Scan.calls ((t105 ++ t105) ++ (⟨#[0]⟩ : ByteArray)) t109 t110 t111 _ A5.out (HG.out.below (by repeat (first | (with_reducible first | exact HB.out | apply below_alloc | apply pw_below_drewN | apply below_drew1 | refine below_set ?_ GE104.out) | exact HB.out)))).mono ?_); rintro e w32 ⟨v112, rfl, ho0, hb⟩; refine ⟨_, rfl, ?_⟩; have n0_ := Aside0.mk (Kd.R_below (by (with_reducible repeat (first | apply Kd.R_alloc | apply Kd.R_drewN | apply Kd.R_drew)); exact HO103.out) hb); have n1_ := Aside0.mk (Kd.S_lower (Kd.S_newB (Kd.S_new' ho0 (Kd.R_lt (by (with_reducible repeat (first | apply Kd.R_alloc | apply Kd.R_drewN | apply Kd.R_drew)); exact HO103.out))) (g := gb104) (o := .cells #[.int .i64 3, .slice Ao27 y101.length co27, .string (⟨#[97]⟩ : ByteArray)] 24 (0, 0)) (by (with_reducible repeat (first | refine blk_drewN ?_ _ | refine blk_drew ?_ | refine blk_alloc ?_ _)); exact BK104.out)) (below_size (by repeat (first | (with_reducible first | exact HB.out | apply below_alloc | apply pw_below_drewN | apply below_drew1 | refine below_set ?_ GE104.out) | exact HB.out)))); have n2_ := Aside0.mk (blk_below (g := gb104) (o := .cells #[.int .i64 3, .slice Ao27 y101.length co27, .string (⟨#[97]⟩ : ByteArray)] 24 (0, 0)) (by (with_reducible repeat (first | refine blk_drewN ?_ _ | refine blk_drew ?_ | refine blk_alloc ?_ _)); exact BK104.out) hb); have n3_ := Aside0.mk (below_step (by repeat (first | (with_reducible first | exact HB.out | apply below_alloc | apply pw_below_drewN | apply below_drew1 | refine below_set ?_ GE104.out) | exact HB.out)) hb); clear HO103; clear BK104; clear HB; have HO103 := n0_; have HO113 := n1_; have BK104 := n2_; have HB := n3_; clear n0_ n1_ n2_ n3_; (try clear hb); (try clear hb2); (try clear hk); (try clear hi); (try clear ho0)) | ((with_reducible refine gate_callee (f := 17) rfl ?_); refine goesL_ (some 34) rfl rfl Tryd.func17 (by kernel_rfl) rfl #[.string (⟨#[0, 1, 120, 97, 98]⟩ : ByteArray)] rfl (by (try simp only [List.map_toArray, List.map_cons, List.map_nil]); first | done | rfl | (simp only [List.length_drop, List.length_take]; rfl)) ?_; (with_reducible refine (frame_Scan.calls (⟨#[0, 1, 120, 97, 98]⟩ : ByteArray) t114 t115 t116 _ A6.out (HG.out.below (by repeat (first | (with_reducible first | exact HB.out | apply below_alloc | apply pw_below_drewN | apply below_drew1 | refine below_set ?_ GE104.out) | exact HB.out)))).mono ?_); rintro e w33 ⟨v117, rfl, ho0, hb⟩; refine ⟨_, rfl, ?_⟩; have n0_ := Aside0.mk (Kd.R_below (by (with_reducible repeat (first | apply Kd.R_alloc | apply Kd.R_drewN | apply Kd.R_drew)); exact HO103.out) hb); have n1_ := Aside0.mk (Kd.S_elder' (by (with_reducible repeat (first | apply Kd.S_alloc | apply Kd.S_drewN | apply Kd.S_drew)); exact HO113.out) (Kd.S_base ho0) hb); have n2_ := Aside0.mk (Kd.S_lower (Kd.S_newB (Kd.S_new' (Kd.S_new' ho0 (Kd.R_lt (by (with_reducible repeat (first | apply Kd.R_alloc | apply Kd.R_drewN | apply Kd.R_drew)); exact HO103.out))) (Kd.S_lt (by (with_reducible repeat (first | apply Kd.S_alloc | apply Kd.S_drewN | apply Kd.S_drew)); exact HO113.out))) (g := gb104) (o := .cells #[.int .i64 3, .slice Ao27 y101.length co27, .string (⟨#[97]⟩ : ByteArray)] 24 (0, 0)) (by (with_reducible repeat (first | refine blk_drewN ?_ _ | refine blk_drew ?_ | refine blk_alloc ?_ _)); exact BK104.out)) (below_size (by repeat (first | (with_reducible first | exact HB.out | apply below_alloc | apply pw_below_drewN | apply below_drew1 | refine below_set ?_ GE104.out) | exact HB.out)))); have n3_ := Aside0.mk (blk_below (g := gb104) (o := .cells #[.int .i64 3, .slice Ao27 y101.length co27, .string (⟨#[97]⟩ : ByteArray)] 24 (0, 0)) (by (with_reducible repeat (first | refine blk_drewN ?_ _ | refine blk_drew ?_ | refine blk_alloc ?_ _)); exact BK104.out) hb); have n4_ := Aside0.mk (below_step (by repeat (first | (with_reducible first | exact HB.out | apply below_alloc | apply pw_below_drewN | apply below_drew1 | refine below_set ?_ GE104.out) | exact HB.out)) hb); clear HO103; clear HO113; clear BK104; clear HB; have HO103 := n0_; have HO113 := n1_; have HO118 := n2_; have BK104 := n3_; have HB := n4_; clear n0_ n1_ n2_ n3_ n4_; (try clear hb); (try clear hb2); (try clear hk); (try clear hi); (try clear ho0); obtain ⟨Ao34, co34, eo34⟩ := Kd.S_slice HO113.out; subst eo34; have hcz35_0 : w33.cell? ⟨gb104, 0, none⟩ = some (.int .i64 3) := (blk_cell BK104.out 0).trans rfl; have hcz35_1 : w33.cell? ⟨gb104, 1, none⟩ = some (.slice Ao27 y101.length co27) := (blk_cell BK104.out 1).trans rfl; have hcz35_2 : w33.cell? ⟨gb104, 2, none⟩ = some (.string (⟨#[97]⟩ : ByteArray)) := (blk_cell BK104.out 2).trans rfl; have hfz35_0 := blk_frozen BK104.out 0; have hfz35_1 := blk_frozen BK104.out 1; have hfz35_2 := blk_frozen BK104.out 2) | (go_at_call 13; (with_reducible refine (frame_Right.calls 3 _ _ y101 (⟨#[97]⟩ : ByteArray) true _ ?side1 ?side2 A21.out).mono ?_); (case side1 => repeat (first | exact (Kd.R_reads' HO103.out).2.2 | (with_reducible refine Kd.C_alloc ?_ _) | (with_reducible refine Kd.C_drewN ?_ _) | (with_reducible refine Kd.C_drew ?_))); (case side2 => exact (Kd.R_reads' HO103.out).2.1); rintro e w36 ⟨rfl, hb⟩; have n0_ := Aside0.mk (Kd.R_below (by (with_reducible repeat (first | apply Kd.R_alloc | apply Kd.R_drewN | apply Kd.R_drew)); exact HO103.out) hb); have n1_ := Aside0.mk (Kd.S_below (by (with_reducible repeat (first | apply Kd.S_alloc | apply Kd.S_drewN | apply Kd.S_drew)); exact HO113.out) hb); have n2_ := Aside0.mk (Kd.S_below (by (with_reducible repeat (first | apply Kd.S_alloc | apply Kd.S_drewN | apply Kd.S_drew)); exact HO118.out) hb); have n3_ := Aside0.mk (blk_below (g := gb104) (o := .cells #[.int .i64 3, .slice Ao27 y101.length co27, .string (⟨#[97]⟩ : ByteArray)] 24 (0, 0)) (by (with_reducible repeat (first | refine blk_drewN ?_ _ | refine blk_drew ?_ | refine blk_alloc ?_ _)); exact BK104.out) hb); have n4_ := Aside0.mk (below_step (by repeat (first | (with_reducible first | exact HB.out | apply below_alloc | apply pw_below_drewN | apply below_drew1 | refine below_set ?_ GE104.out) | exact HB.out)) hb); clear HO103; clear HO113; clear HO118; clear BK104; clear HB; have HO103 := n0_; have HO113 := n1_; have HO118 := n2_; have BK104 := n3_; have HB := n4_; clear n0_ n1_ n2_ n3_ n4_; (try clear hb); (try clear hb2); (try clear hk); (try clear hi); have p120 : 0 ≤ (1 : Int) := (by omega); have q120 : 1 < (t109.length : Int) := of_decide_eq_true (by first | (with_reducible assumption) | assumption); obtain ⟨ad120, A120_1, c120_1, e120, hx120_0, hx120_1, hx120_2, hl120_1, hi120_1⟩ := at_T24 (Kd.S_reads' HO113.out).2.2 1 p120 q120; cases e120; obtain ⟨ce120, hce120, hMe120, hcc120⟩ := Kd.S_get HO113.out z24 1 p120 (by first | exact q120 | exact of_decide_eq_true (by first | (with_reducible assumption) | assumption) | (have e_ := (Kd.S_reads' HO113.out).1; omega)); obtain ⟨ve120_1, rfl, ge120_1⟩ := k24_openM hMe120; have hv120_1 := hcc120 1 _ rfl; rw [add_field _ _ 1 (by omega)] at hv120_1; replace hv120_1 := Option.some.inj (hv120_1.symm.trans hx120_1); rw [hv120_1] at ge120_1; have HL120_1 := Aside0.mk (show Kd.R (Kd.int .i64) 3 _ _ _ _ ((rd_T24 t109 1).f1) from ge120_1); clear hv120_1 ge120_1; clear hcc120 hce120; (try simp only [show (1 : Int).toNat = 1 from rfl, Nat.reduceMul, Nat.reduceEqDiff, Go.Addr.add, ↓reduceIte] at hx120_0); (try simp only [show (1 : Int).toNat = 1 from rfl, Nat.reduceMul, Nat.reduceEqDiff, Go.Addr.add, ↓reduceIte] at hx120_1); (try simp only [show (1 : Int).toNat = 1 from rfl, Nat.reduceMul, Nat.reduceEqDiff, Go.Addr.add, ↓reduceIte] at hx120_2); have qi120 : (1 < t109.length) = True := eq_true (by omega); (try rw [show ((1 : Int)).toNat = 1 from rfl] at hx120_0); (try rw [show 1 * 3 = 3 from rfl] at hx120_0); (try rw [show ((1 : Int)).toNat = 1 from rfl] at hx120_1); (try rw [show 1 * 3 = 3 from rfl] at hx120_1); (try rw [show ((1 : Int)).toNat = 1 from rfl] at hx120_2); (try rw [show 1 * 3 = 3 from rfl] at hx120_2); have HR120_1 := Aside0.mk hi120_1; have HC120_1 := Aside0.mk hl120_1; clear hi120_1 hl120_1; replace p120 := eq_true p120; replace q120 := eq_true q120; have p121 : 0 ≤ (1 : Int) := (by omega); have q121 : 1 < (((rd_T24 t109 1).f1).length : Int) := of_decide_eq_true (by first | (with_reducible assumption) | assumption); obtain ⟨ad121, e121, hx121_0⟩ := Kd.at_int (by repeat (first | (with_reducible exact HR120_1.out) | (with_reducible refine Kd.C_alloc ?_ _) | (with_reducible refine Kd.C_drewN ?_ _) | (with_reducible refine Kd.C_drew ?_) | exact HR120_1.out)) 1 p121 q121; cases e121; (try simp only [show (1 : Int).toNat = 1 from rfl, Nat.reduceMul, Nat.reduceEqDiff, Go.Addr.add, ↓reduceIte] at hx121_0); have qi121 : (1 < ((rd_T24 t109 1).f1).length) = True := eq_true (by omega); (try rw [show ((1 : Int)).toNat = 1 from rfl] at hx121_0); replace p121 := eq_true p121; replace q121 := eq_true q121))
                                        go_ret
                                        exact ⟨by first | rfl | (simp [errW_none, errW_some] <;> rfl) | (simp [*, errW_none, errW_some] <;> rfl), by repeat (first | (with_reducible first | exact HB.out | apply below_alloc | apply pw_below_drewN | apply below_drew1 | refine below_set ?_ GE104.out) | exact HB.out)⟩
                                      · rw [if_neg c24] at H
                                        exact absurd H (by simp)
                                    · rw [if_neg c23] at H
                                      exact absurd H (by simp)
                                  · replace c22 := Bool.eq_false_iff.mpr c22
                                    subst c22
                                    have H1 : (some false) = some r := by rw [if_neg (show ¬ (false = true) by decide)] at H; exact H
                                    clear H
                                    have H := H1
                                    clear H1
                                    exact absurd ((Option.some.inj H).trans hrt.out) (by decide)
                                · rw [if_neg c20] at H
                                  have c20b0 : (t116 == 40) = false := beq_eq_false_iff_ne.mpr c20
                                  have c20b1 : (t116 != 40) = true := bne_iff_ne.mpr c20
                                  exact absurd ((Option.some.inj H).trans hrt.out) (by decide)
                              · rw [if_neg c19] at H
                                have c19b0 : (t115 == 0) = false := beq_eq_false_iff_ne.mpr c19
                                have c19b1 : (t115 != 0) = true := bne_iff_ne.mpr c19
                                exact absurd ((Option.some.inj H).trans hrt.out) (by decide)
                            · rw [if_neg c18] at H
                              have c18b0 : (t111 == 0) = false := beq_eq_false_iff_ne.mpr c18
                              have c18b1 : (t111 != 0) = true := bne_iff_ne.mpr c18
                              exact absurd ((Option.some.inj H).trans hrt.out) (by decide)
                          · rw [if_neg c17] at H
                            have c17b0 : (t110 == 24) = false := beq_eq_false_iff_ne.mpr c17
                            have c17b1 : (t110 != 24) = true := bne_iff_ne.mpr c17
                            exact absurd ((Option.some.inj H).trans hrt.out) (by decide)
                        · rw [if_neg c16] at H
                          have c16b0 : ((t109.length : Int) == 2) = false := beq_eq_false_iff_ne.mpr c16
                          have c16b1 : ((t109.length : Int) != 2) = true := bne_iff_ne.mpr c16
                          exact absurd ((Option.some.inj H).trans hrt.out) (by decide)
                      · rw [if_neg c15] at H
                        have c15b0 : (t108 == 1) = false := beq_eq_false_iff_ne.mpr c15
                        have c15b1 : (t108 != 1) = true := bne_iff_ne.mpr c15
                        exact absurd ((Option.some.inj H).trans hrt.out) (by decide)
                    · rw [if_neg c14] at H
                      have c14b0 : (t106 == 0) = false := beq_eq_false_iff_ne.mpr c14
                      have c14b1 : (t106 != 0) = true := bne_iff_ne.mpr c14
                      exact absurd ((Option.some.inj H).trans hrt.out) (by decide)
                  · rw [if_neg c13] at H
                    have c13b0 : ((t105.extract 0 2).toList == ([0, 8] : List UInt8)) = false := beq_eq_false_iff_ne.mpr c13
                    have c13b1 : ((t105.extract 0 2).toList != ([0, 8] : List UInt8)) = true := bne_iff_ne.mpr c13
                    exact absurd ((Option.some.inj H).trans hrt.out) (by decide)
                · rw [if_neg c12] at H
                  exact absurd H (by simp)
              · rw [if_neg c11] at H
                exact absurd H (by simp)
            · rw [if_neg c10] at H
              have c10b0 : ((t105.extract 2 10).toList == ([51, 32, 55, 32, 45, 49, 58, 97] : List UInt8)) = false := beq_eq_false_iff_ne.mpr c10
              have c10b1 : ((t105.extract 2 10).toList != ([51, 32, 55, 32, 45, 49, 58, 97] : List UInt8)) = true := bne_iff_ne.mpr c10
              exact absurd ((Option.some.inj H).trans hrt.out) (by decide)
          · rw [if_neg c9] at H
            exact absurd H (by simp)
        · rw [if_neg c8] at H
          exact absurd H (by simp)
      · rw [if_neg c7] at H
        have c7b0 : ((t105.size : Int) == 12) = false := beq_eq_false_iff_ne.mpr c7
        have c7b1 : ((t105.size : Int) != 12) = true := bne_iff_ne.mpr c7
        exact absurd ((Option.some.inj H).trans hrt.out) (by decide)
    · rw [if_neg c4] at H
      exact absurd H (by simp)
  · rw [if_neg c3] at H
    exact absurd H (by simp)

/-! ### hagglerref04_Right: function 14 -/
def hagglerref04_Right.l0 : Nat → Int → Int → List Int → ByteArray → Option (Bool)
  | 0, _, _, _, _ => none
  | k + 1, x3, x123000, x123001, x123002 => if x3 < (x123001.length : Int) then (if 0 ≤ x3 then (if (rd x123001 x3) < (-1125899906842624) then (some false) else (if (rd x123001 x3) > 1125899906842624 then (some false) else (hagglerref04_Right.l0 k (wrap64 (x3 + 1)) x123000 x123001 x123002))) else (none)) else (if x123000 ≥ 1 then (if x123000 ≤ 255 then (if (x123001.length : Int) ≤ 20 then (some (decide ((x123002.size : Int) ≤ 2000))) else (some false)) else (some false)) else (some false))
def hagglerref04_Right.f (k : Nat) (a0_0 : Int) (l0_1 : List Int) (a0_2 : ByteArray) : Option (Bool) := hagglerref04_Right.l0 k 0 a0_0 l0_1 a0_2
theorem hagglerref04_Right.mono_l : ∀ k, (∀ y0 y1 y2 y3, LeO (hagglerref04_Right.l0 k y0 y1 y2 y3) (hagglerref04_Right.l0 (k + 1) y0 y1 y2 y3))
  | 0 => fun _ _ _ _ r h => by simp [hagglerref04_Right.l0] at h
  | k + 1 => by
    have ih0 := hagglerref04_Right.mono_l k
    · intro y0 y1 y2 y3
      unfold hagglerref04_Right.l0
      repeat' first
      | (with_reducible exact ih0 _ _ _ _)
      | (with_reducible exact LeO.refl _)
      | (with_reducible exact LeO.none _)
      | (with_reducible refine LeO.ite ?_ ?_)
      | (with_reducible refine LeO.bind ?_ (fun _ => ?_))
      | exact ih0 _ _ _ _
      | exact LeO.none _
      | refine LeO.ite ?_ ?_
      | refine LeO.bind ?_ (fun _ => ?_)
theorem hagglerref04_Right.mono : ∀ a0 a1 a2 k, LeO (hagglerref04_Right.f k a0 a1 a2) (hagglerref04_Right.f (k + 1) a0 a1 a2) := by
  intro a0 a1 a2 k
  have ih0 := hagglerref04_Right.mono_l k
  unfold hagglerref04_Right.f
  repeat' first
      | (with_reducible exact ih0 _ _ _ _)
      | (with_reducible exact LeO.refl _)
      | (with_reducible exact LeO.none _)
      | (with_reducible refine LeO.ite ?_ ?_)
      | (with_reducible refine LeO.bind ?_ (fun _ => ?_))
      | exact ih0 _ _ _ _
      | exact LeO.none _
      | refine LeO.ite ?_ ?_
      | refine LeO.bind ?_ (fun _ => ?_)
set_option maxHeartbeats 8000000 in
set_option maxRecDepth 100000 in
theorem hagglerref04_Right.calls (k : Nat) (a0_0 : Int) (A0_1 : Option Addr) (c0_1 : Nat) (l0_1 : List Int) (a0_2 : ByteArray) (r : Bool) (w : World) (hr0_1 : Kd.C (Kd.int .i64) w A0_1 l0_1.length l0_1) (hc0_1 : l0_1.length ≤ c0_1) (h : hagglerref04_Right.f k a0_0 l0_1 a0_2 = some r) :
    Calls Tryd.prog 14 #[.agg #[.int .i64 a0_0, .slice A0_1 l0_1.length c0_1, .string a0_2]] w fun e w' => e = .returned (.bool r) ∧ Below w.heap.size w w' := by
  have hu24 := Tryd.underlying24
  have HR0_1 := Aside0.mk hr0_1
  have HC0_1 := Aside0.mk hc0_1
  clear hr0_1 hc0_1
  have HB := Aside0.mk (Below.refl w.heap.size w)
  have H : (hagglerref04_Right.l0 k 0 a0_0 l0_1 a0_2) = some r := h
  clear h
  have H' := Aside0.mk H
  clear H
  go_enter Tryd.func14, Tryd.ntmps14
  go_wp2_with (first | ((with_reducible refine gate_dst (N := 1) rfl ?_); (try (refine gate_guard (by rfl) ?_; dsimp only)); refine box_event ?hg (N := 1) ?hd (cs := #[.int .i64 a0_0, .slice A0_1 l0_1.length c0_1, .string a0_2]) (t := 24) ?hr ?_; (case hd => rfl); (case hg => rfl); (case hr => first | (go_simp; done) | (go_simp; rfl)); intro gb122 hg w2 hbox hb; have n0_ := Aside0.mk (below_step (by repeat (first | (with_reducible first | exact HB.out | apply below_alloc | apply pw_below_drewN | apply below_drew1) | exact HB.out)) hb); have n1_ := Aside0.mk (hbox); have n2_ := Aside0.mk ((by rw [hg]; exact (below_size (by repeat (first | (with_reducible first | exact HB.out | apply below_alloc | apply pw_below_drewN | apply below_drew1) | exact HB.out))) : w.heap.size ≤ gb122)); have n3_ := Aside0.mk ((by rw [hg]; exact (below_size (by repeat (first | (with_reducible first | exact HB.out | apply below_alloc | apply pw_below_drewN | apply below_drew1) | exact HB.out))) : w.heap.size ≤ gb122)); clear HB; have HB := n0_; have BK122 := n1_; have GW122 := n2_; have GE122 := n3_; clear n0_ n1_ n2_ n3_; clear hb hbox hg))
  go_loopg [3] k (fun kq v3 w' => ∃ (x3_1 : Int), v3 = .int .i64 x3_1 ∧ Aside0 (hagglerref04_Right.l0 kq x3_1 a0_0 l0_1 a0_2 = some r) ∧ Aside0 (kq ≤ k) ∧ Aside0 (w'.heap[gb122]? = some (.cells #[.int .i64 a0_0, (.slice A0_1 l0_1.length c0_1), .string a0_2] 24 (0, 0))) ∧ Aside0 (Below w.heap.size w w'))
  case atStart => exact ⟨(0), (by first | rfl | (simp; done) | (simp [*]; done)), H', ⟨Nat.le_refl _⟩, ⟨by (with_reducible repeat (first | refine blk_drewN ?_ _ | refine blk_drew ?_ | refine blk_alloc ?_ _)); exact BK122.out⟩, ⟨by repeat (first | (with_reducible first | exact HB.out | apply below_alloc | apply pw_below_drewN | apply below_drew1 | refine below_set ?_ GE122.out) | exact HB.out)⟩⟩
  case round =>
    clear H'
    try clear c1
    try clear p2
    obtain ⟨x3_1, rfl, HA, HK1, BK122, HB⟩ := hrel
    cases gk with
    | zero => exact absurd HA.out (by simp [hagglerref04_Right.l0])
    | succ k1 =>
      have H := HA.out
      clear HA
      simp only [hagglerref04_Right.l0] at H
      by_cases c3 : x3_1 < (l0_1.length : Int)
      · rw [if_pos c3] at H
        have c3b0 : decide (x3_1 < (l0_1.length : Int)) = true := decide_eq_true c3
        clear c3
        by_cases c4 : 0 ≤ x3_1
        · rw [if_pos c4] at H
          have c4b0 : decide (0 ≤ x3_1) = true := decide_eq_true c4
          clear c4
          by_cases c5 : (rd l0_1 x3_1) < (-1125899906842624)
          · rw [if_pos c5] at H
            have c5b0 : decide ((rd l0_1 x3_1) < (-1125899906842624)) = true := decide_eq_true c5
            clear c5
            obtain rfl := Option.some.inj H
            have hcz6_0 : wr.cell? ⟨gb122, 0, none⟩ = some (.int .i64 a0_0) := (blk_cell BK122.out 0).trans rfl
            have hcz6_1 : wr.cell? ⟨gb122, 1, none⟩ = some (.slice A0_1 l0_1.length c0_1) := (blk_cell BK122.out 1).trans rfl
            have hcz6_2 : wr.cell? ⟨gb122, 2, none⟩ = some (.string a0_2) := (blk_cell BK122.out 2).trans rfl
            have hfz6_0 := blk_frozen BK122.out 0
            have hfz6_1 := blk_frozen BK122.out 1
            have hfz6_2 := blk_frozen BK122.out 2
            have p123 : 0 ≤ (x3_1 : Int) := of_decide_eq_true (by first | (with_reducible assumption) | assumption)
            have q123 : x3_1 < (l0_1.length : Int) := of_decide_eq_true (by first | (with_reducible assumption) | assumption)
            obtain ⟨ad123, e123, hx123_0⟩ := Kd.at_int HR0_1.out x3_1 p123 q123
            cases e123
            replace hx123_0 := (HB.out.cell (World.block_lt_of_cell? w _ hx123_0)).trans hx123_0
            replace p123 := eq_true p123
            replace q123 := eq_true q123
            go_wp2
            go_ret
            exact ⟨by first | rfl | (simp [errW_none, errW_some] <;> rfl) | (simp [*, errW_none, errW_some] <;> rfl), by repeat (first | (with_reducible first | exact HB.out | apply below_alloc | apply pw_below_drewN | apply below_drew1 | refine below_set ?_ GE122.out) | exact HB.out)⟩
          · rw [if_neg c5] at H
            have c5b0 : decide ((rd l0_1 x3_1) < (-1125899906842624)) = false := decide_eq_false c5
            clear c5
            by_cases c7 : (rd l0_1 x3_1) > 1125899906842624
            · rw [if_pos c7] at H
              have c7b0 : decide (1125899906842624 < (rd l0_1 x3_1)) = true := decide_eq_true c7
              clear c7
              obtain rfl := Option.some.inj H
              have hcz8_0 : wr.cell? ⟨gb122, 0, none⟩ = some (.int .i64 a0_0) := (blk_cell BK122.out 0).trans rfl
              have hcz8_1 : wr.cell? ⟨gb122, 1, none⟩ = some (.slice A0_1 l0_1.length c0_1) := (blk_cell BK122.out 1).trans rfl
              have hcz8_2 : wr.cell? ⟨gb122, 2, none⟩ = some (.string a0_2) := (blk_cell BK122.out 2).trans rfl
              have hfz8_0 := blk_frozen BK122.out 0
              have hfz8_1 := blk_frozen BK122.out 1
              have hfz8_2 := blk_frozen BK122.out 2
              have p123 : 0 ≤ (x3_1 : Int) := of_decide_eq_true (by first | (with_reducible assumption) | assumption)
              have q123 : x3_1 < (l0_1.length : Int) := of_decide_eq_true (by first | (with_reducible assumption) | assumption)
              obtain ⟨ad123, e123, hx123_0⟩ := Kd.at_int HR0_1.out x3_1 p123 q123
              cases e123
              replace hx123_0 := (HB.out.cell (World.block_lt_of_cell? w _ hx123_0)).trans hx123_0
              replace p123 := eq_true p123
              replace q123 := eq_true q123
              have p124 : 0 ≤ (x3_1 : Int) := of_decide_eq_true (by first | (with_reducible assumption) | assumption)
              have q124 : x3_1 < (l0_1.length : Int) := of_decide_eq_true (by first | (with_reducible assumption) | assumption)
              obtain ⟨ad124, e124, hx124_0⟩ := Kd.at_int HR0_1.out x3_1 p124 q124
              obtain rfl : ad123 = ad124 := (by injection e124)
              replace hx124_0 := (HB.out.cell (World.block_lt_of_cell? w _ hx124_0)).trans hx124_0
              replace p124 := eq_true p124
              replace q124 := eq_true q124
              go_wp2
              go_ret
              exact ⟨by first | rfl | (simp [errW_none, errW_some] <;> rfl) | (simp [*, errW_none, errW_some] <;> rfl), by repeat (first | (with_reducible first | exact HB.out | apply below_alloc | apply pw_below_drewN | apply below_drew1 | refine below_set ?_ GE122.out) | exact HB.out)⟩
            · rw [if_neg c7] at H
              have c7b0 : decide (1125899906842624 < (rd l0_1 x3_1)) = false := decide_eq_false c7
              clear c7
              have H' := Aside0.mk H
              clear H
              have hcz9_0 : wr.cell? ⟨gb122, 0, none⟩ = some (.int .i64 a0_0) := (blk_cell BK122.out 0).trans rfl
              have hcz9_1 : wr.cell? ⟨gb122, 1, none⟩ = some (.slice A0_1 l0_1.length c0_1) := (blk_cell BK122.out 1).trans rfl
              have hcz9_2 : wr.cell? ⟨gb122, 2, none⟩ = some (.string a0_2) := (blk_cell BK122.out 2).trans rfl
              have hfz9_0 := blk_frozen BK122.out 0
              have hfz9_1 := blk_frozen BK122.out 1
              have hfz9_2 := blk_frozen BK122.out 2
              have p123 : 0 ≤ (x3_1 : Int) := of_decide_eq_true (by first | (with_reducible assumption) | assumption)
              have q123 : x3_1 < (l0_1.length : Int) := of_decide_eq_true (by first | (with_reducible assumption) | assumption)
              obtain ⟨ad123, e123, hx123_0⟩ := Kd.at_int HR0_1.out x3_1 p123 q123
              cases e123
              replace hx123_0 := (HB.out.cell (World.block_lt_of_cell? w _ hx123_0)).trans hx123_0
              replace p123 := eq_true p123
              replace q123 := eq_true q123
              have p124 : 0 ≤ (x3_1 : Int) := of_decide_eq_true (by first | (with_reducible assumption) | assumption)
              have q124 : x3_1 < (l0_1.length : Int) := of_decide_eq_true (by first | (with_reducible assumption) | assumption)
              obtain ⟨ad124, e124, hx124_0⟩ := Kd.at_int HR0_1.out x3_1 p124 q124
              obtain rfl : ad123 = ad124 := (by injection e124)
              replace hx124_0 := (HB.out.cell (World.block_lt_of_cell? w _ hx124_0)).trans hx124_0
              replace p124 := eq_true p124
              replace q124 := eq_true q124
              go_wp2
              go_roundg k1
              case measure => have := HK1.out; omega
              case rel => exact ⟨(wrap64 (x3_1 + 1)), (by first | rfl | (simp; done) | (simp [*]; done)), H', ⟨by have := HK1.out; omega⟩, ⟨by (with_reducible repeat (first | refine blk_drewN ?_ _ | refine blk_drew ?_ | refine blk_alloc ?_ _)); exact BK122.out⟩, ⟨by repeat (first | (with_reducible first | exact HB.out | apply below_alloc | apply pw_below_drewN | apply below_drew1 | refine below_set ?_ GE122.out) | exact HB.out)⟩⟩
        · rw [if_neg c4] at H
          exact absurd H (by simp)
      · rw [if_neg c3] at H
        have c3b0 : decide (x3_1 < (l0_1.length : Int)) = false := decide_eq_false c3
        clear c3
        by_cases c10 : a0_0 ≥ 1
        · rw [if_pos c10] at H
          have c10b0 : decide (1 ≤ a0_0) = true := decide_eq_true c10
          clear c10
          by_cases c11 : a0_0 ≤ 255
          · rw [if_pos c11] at H
            have c11b0 : decide (a0_0 ≤ 255) = true := decide_eq_true c11
            clear c11
            by_cases c12 : (l0_1.length : Int) ≤ 20
            · rw [if_pos c12] at H
              have c12b0 : decide ((l0_1.length : Int) ≤ 20) = true := decide_eq_true c12
              have c12b1 : decide (l0_1.length ≤ 20) = true := decide_eq_true (by omega)
              clear c12
              obtain rfl := Option.some.inj H
              have hcz13_0 : wr.cell? ⟨gb122, 0, none⟩ = some (.int .i64 a0_0) := (blk_cell BK122.out 0).trans rfl
              have hcz13_1 : wr.cell? ⟨gb122, 1, none⟩ = some (.slice A0_1 l0_1.length c0_1) := (blk_cell BK122.out 1).trans rfl
              have hcz13_2 : wr.cell? ⟨gb122, 2, none⟩ = some (.string a0_2) := (blk_cell BK122.out 2).trans rfl
              have hfz13_0 := blk_frozen BK122.out 0
              have hfz13_1 := blk_frozen BK122.out 1
              have hfz13_2 := blk_frozen BK122.out 2
              go_wp2
              go_ret
              exact ⟨by first | rfl | (simp [errW_none, errW_some] <;> rfl) | (simp [*, errW_none, errW_some] <;> rfl), by repeat (first | (with_reducible first | exact HB.out | apply below_alloc | apply pw_below_drewN | apply below_drew1 | refine below_set ?_ GE122.out) | exact HB.out)⟩
            · rw [if_neg c12] at H
              have c12b0 : decide ((l0_1.length : Int) ≤ 20) = false := decide_eq_false c12
              have c12b1 : decide (l0_1.length ≤ 20) = false := decide_eq_false (by omega)
              clear c12
              obtain rfl := Option.some.inj H
              have hcz14_0 : wr.cell? ⟨gb122, 0, none⟩ = some (.int .i64 a0_0) := (blk_cell BK122.out 0).trans rfl
              have hcz14_1 : wr.cell? ⟨gb122, 1, none⟩ = some (.slice A0_1 l0_1.length c0_1) := (blk_cell BK122.out 1).trans rfl
              have hcz14_2 : wr.cell? ⟨gb122, 2, none⟩ = some (.string a0_2) := (blk_cell BK122.out 2).trans rfl
              have hfz14_0 := blk_frozen BK122.out 0
              have hfz14_1 := blk_frozen BK122.out 1
              have hfz14_2 := blk_frozen BK122.out 2
              go_wp2
              go_ret
              exact ⟨by first | rfl | (simp [errW_none, errW_some] <;> rfl) | (simp [*, errW_none, errW_some] <;> rfl), by repeat (first | (with_reducible first | exact HB.out | apply below_alloc | apply pw_below_drewN | apply below_drew1 | refine below_set ?_ GE122.out) | exact HB.out)⟩
          · rw [if_neg c11] at H
            have c11b0 : decide (a0_0 ≤ 255) = false := decide_eq_false c11
            clear c11
            obtain rfl := Option.some.inj H
            have hcz15_0 : wr.cell? ⟨gb122, 0, none⟩ = some (.int .i64 a0_0) := (blk_cell BK122.out 0).trans rfl
            have hcz15_1 : wr.cell? ⟨gb122, 1, none⟩ = some (.slice A0_1 l0_1.length c0_1) := (blk_cell BK122.out 1).trans rfl
            have hcz15_2 : wr.cell? ⟨gb122, 2, none⟩ = some (.string a0_2) := (blk_cell BK122.out 2).trans rfl
            have hfz15_0 := blk_frozen BK122.out 0
            have hfz15_1 := blk_frozen BK122.out 1
            have hfz15_2 := blk_frozen BK122.out 2
            go_wp2
            go_ret
            exact ⟨by first | rfl | (simp [errW_none, errW_some] <;> rfl) | (simp [*, errW_none, errW_some] <;> rfl), by repeat (first | (with_reducible first | exact HB.out | apply below_alloc | apply pw_below_drewN | apply below_drew1 | refine below_set ?_ GE122.out) | exact HB.out)⟩
        · rw [if_neg c10] at H
          have c10b0 : decide (1 ≤ a0_0) = false := decide_eq_false c10
          clear c10
          obtain rfl := Option.some.inj H
          have hcz16_0 : wr.cell? ⟨gb122, 0, none⟩ = some (.int .i64 a0_0) := (blk_cell BK122.out 0).trans rfl
          have hcz16_1 : wr.cell? ⟨gb122, 1, none⟩ = some (.slice A0_1 l0_1.length c0_1) := (blk_cell BK122.out 1).trans rfl
          have hcz16_2 : wr.cell? ⟨gb122, 2, none⟩ = some (.string a0_2) := (blk_cell BK122.out 2).trans rfl
          have hfz16_0 := blk_frozen BK122.out 0
          have hfz16_1 := blk_frozen BK122.out 1
          have hfz16_2 := blk_frozen BK122.out 2
          go_wp2
          go_ret
          exact ⟨by first | rfl | (simp [errW_none, errW_some] <;> rfl) | (simp [*, errW_none, errW_some] <;> rfl), by repeat (first | (with_reducible first | exact HB.out | apply below_alloc | apply pw_below_drewN | apply below_drew1 | refine below_set ?_ GE122.out) | exact HB.out)⟩

/-! ### hagglerref02_digits: function 45 -/
def hagglerref02_digits.f : Nat → Int → Option (ByteArray)
  | 0, _ => none
  | k + 1, a0 => (some (([(wrap64 (48 + (Int.tmod a0 10))) % 256] : List Int) : List Int)).bind fun y125 => (if a0 ≥ 10 then ((hagglerref02_digits.f k (wrap64 (Int.tdiv a0 10))).bind fun t128 => (if t128.size + (strOfNums y125).size ≤ 9223372036854775807 then (some (t128 ++ (strOfNums y125))) else (none))) else (some (strOfNums y125)))
theorem hagglerref02_digits.mono_l : ∀ k, (∀ y0, LeO (hagglerref02_digits.f k y0) (hagglerref02_digits.f (k + 1) y0))
  | 0 => fun _ r h => by simp [hagglerref02_digits.f] at h
  | k + 1 => by
    have ih0 := hagglerref02_digits.mono_l k
    · intro y0
      unfold hagglerref02_digits.f
      repeat' first
      | (with_reducible exact ih0 _)
      | (with_reducible exact LeO.refl _)
      | (with_reducible exact LeO.none _)
      | (with_reducible refine LeO.ite ?_ ?_)
      | (with_reducible refine LeO.bind ?_ (fun _ => ?_))
      | exact ih0 _
      | exact LeO.none _
      | refine LeO.ite ?_ ?_
      | refine LeO.bind ?_ (fun _ => ?_)
theorem hagglerref02_digits.mono : ∀ a0 k, LeO (hagglerref02_digits.f k a0) (hagglerref02_digits.f (k + 1) a0) := by
  intro a0 k
  have ih0 := hagglerref02_digits.mono_l k
  exact ih0 a0
set_option maxHeartbeats 8000000 in
set_option maxRecDepth 100000 in
theorem hagglerref02_digits.calls (k : Nat) : ∀ (a0 : Int) (r : ByteArray) (w : World) (h : hagglerref02_digits.f k a0 = some r),
    Calls Tryd.prog 45 #[.int .i64 a0] w fun e w' => e = .returned (.string r) ∧ Below w.heap.size w w' := by
  induction k using Nat.strongRecOn with
  | _ k ih =>
  intro a0 r w h
  cases k with
  | zero => exact absurd h (by simp [hagglerref02_digits.f])
  | succ k =>
  simp only [hagglerref02_digits.f] at h
  have HB := Aside0.mk (Below.refl w.heap.size w)
  have H : ((some (([(wrap64 (48 + (Int.tmod a0 10))) % 256] : List Int) : List Int)).bind fun y125 => (if a0 ≥ 10 then ((hagglerref02_digits.f k (wrap64 (Int.tdiv a0 10))).bind fun t128 => (if t128.size + (strOfNums y125).size ≤ 9223372036854775807 then (some (t128 ++ (strOfNums y125))) else (none))) else (some (strOfNums y125)))) = some r := h
  clear h
  obtain ⟨y125, hy125⟩ : ∃ y_ : List Int, y_ = (([(wrap64 (48 + (Int.tmod a0 10))) % 256] : List Int)) := ⟨_, rfl⟩
  replace H : (if a0 ≥ 10 then ((hagglerref02_digits.f k (wrap64 (Int.tdiv a0 10))).bind fun t128 => (if t128.size + (strOfNums y125).size ≤ 9223372036854775807 then (some (t128 ++ (strOfNums y125))) else (none))) else (some (strOfNums y125))) = some r := by first | (rw [hy125]; with_reducible exact H) | (have H2_ := (Option.bind_some _ _).symm.trans H; rw [hy125]; with_reducible exact H2_) | (have H2_ := (Option.bind_some _ _).symm.trans H; with_reducible exact H2_) | with_reducible exact H | (rw [hy125]; exact H) | exact H
  have Ny125 := Aside0.mk hy125
  clear hy125
  by_cases c2 : a0 ≥ 10
  · rw [if_pos c2] at H
    have c2b0 : decide (10 ≤ a0) = true := decide_eq_true c2
    clear c2
    replace H := Option.bind_eq_some_iff.mp H
    obtain ⟨t128, A30, H⟩ := H
    replace H : (if t128.size + (strOfNums y125).size ≤ 9223372036854775807 then (some (t128 ++ (strOfNums y125))) else (none)) = some r := H
    have A3 := Aside0.mk A30
    clear A30
    by_cases c4 : t128.size + (strOfNums y125).size ≤ 9223372036854775807
    · rw [if_pos c4] at H
      have c4b0 := eq_true c4
      have c4b1 : decide (t128.size + (strOfNums y125).size ≤ 9223372036854775807) = true := decide_eq_true c4
      try have c4b2 : (9223372036854775807 < t128.size + (strOfNums y125).size) = False := eq_false (Nat.not_lt.2 c4)
      obtain rfl := Option.some.inj H
      go_enter Tryd.func45, Tryd.ntmps45
      go_wp2_with (first | ((with_reducible refine gate_dst (N := 8) rfl ?_); refine Kd.R_lit (Kd.int .u8) _ 5 ?hg (N := 8) ?hd (xs := ([(wrap64 (48 + (Int.tmod a0 10))) % 256] : List Int)) (inner := [.int .u8 ((wrap64 (48 + (Int.tmod a0 10))) % 256)]) (ok := fun _ => True) (okp := fun _ => True) ?hr ?hp (fun _ hk => hk) trivial (Below.refl _ _) (Nat.le_refl _) (by simp) ?_; (case hd => rfl); (case hg => rfl); (case hr => first | (go_simp; done) | (go_simp; rfl)); (case hp => exact (Reps.one (show Kd.M (Kd.int .u8) _ _ _ ((wrap64 (48 + (Int.tmod a0 10))) % 256) [.int .u8 ((wrap64 (48 + (Int.tmod a0 10))) % 256)] from rfl) (Reps.none _ _))); intro v126 w5 ho6 hb hg_ hnew_; clear hg_ hnew_; (first | rw [← Ny125.out] at ho6 | (simp only [Int.reduceToNat] at ho6; rw [← Ny125.out] at ho6)); have n0_ := Aside0.mk (Kd.R_lower ho6 (below_size (by repeat (first | (with_reducible first | exact HB.out | apply below_alloc | apply pw_below_drewN | apply below_drew1) | exact HB.out)))); have n1_ := Aside0.mk (below_step (by repeat (first | (with_reducible first | exact HB.out | apply below_alloc | apply pw_below_drewN | apply below_drew1) | exact HB.out)) hb); clear HB; have HO127 := n0_; have HB := n1_; clear n0_ n1_; clear hb ho6; have hcv7 := own_string (P := Tryd.prog) Tryd.underlying43 Tryd.underlying5 Tryd.underlying9 (Kd.own_of_R HO127.out)) | ((with_reducible refine gate_callee (f := 45) rfl ?_); refine goesL_ (some 14) rfl rfl Tryd.func45 (by kernel_rfl) rfl #[.int .i64 (wrap64 (Int.tdiv a0 10))] rfl (by (try simp only [List.map_toArray, List.map_cons, List.map_nil]); first | done | rfl | (simp only [List.length_drop, List.length_take]; rfl)) ?_; (with_reducible refine (ih k (by omega) (wrap64 (Int.tdiv a0 10)) t128 _ A3.out).mono ?_); rintro e w8 ⟨rfl, hb⟩; refine ⟨_, rfl, ?_⟩; have n0_ := Aside0.mk (Kd.R_below (by (with_reducible repeat (first | apply Kd.R_alloc | apply Kd.R_drewN | apply Kd.R_drew)); exact HO127.out) hb); have n1_ := Aside0.mk (below_step (by repeat (first | (with_reducible first | exact HB.out | apply below_alloc | apply pw_below_drewN | apply below_drew1) | exact HB.out)) hb); clear HO127; clear HB; have HO127 := n0_; have HB := n1_; clear n0_ n1_; (try clear hb); (try clear hb2); (try clear hk); (try clear hi)))
      go_ret
      exact ⟨by first | rfl | (simp [errW_none, errW_some] <;> rfl) | (simp [*, errW_none, errW_some] <;> rfl), by repeat (first | (with_reducible first | exact HB.out | apply below_alloc | apply pw_below_drewN | apply below_drew1) | exact HB.out)⟩
    · rw [if_neg c4] at H
      exact absurd H (by simp)
  · rw [if_neg c2] at H
    have c2b0 : decide (10 ≤ a0) = false := decide_eq_false c2
    clear c2
    obtain rfl := Option.some.inj H
    go_enter Tryd.func45, Tryd.ntmps45
    go_wp2_with (first | ((with_reducible refine gate_dst (N := 8) rfl ?_); refine Kd.R_lit (Kd.int .u8) _ 5 ?hg (N := 8) ?hd (xs := ([(wrap64 (48 + (Int.tmod a0 10))) % 256] : List Int)) (inner := [.int .u8 ((wrap64 (48 + (Int.tmod a0 10))) % 256)]) (ok := fun _ => True) (okp := fun _ => True) ?hr ?hp (fun _ hk => hk) trivial (Below.refl _ _) (Nat.le_refl _) (by simp) ?_; (case hd => rfl); (case hg => rfl); (case hr => first | (go_simp; done) | (go_simp; rfl)); (case hp => exact (Reps.one (show Kd.M (Kd.int .u8) _ _ _ ((wrap64 (48 + (Int.tmod a0 10))) % 256) [.int .u8 ((wrap64 (48 + (Int.tmod a0 10))) % 256)] from rfl) (Reps.none _ _))); intro v126 w9 ho10 hb hg_ hnew_; clear hg_ hnew_; (first | rw [← Ny125.out] at ho10 | (simp only [Int.reduceToNat] at ho10; rw [← Ny125.out] at ho10)); have n0_ := Aside0.mk (Kd.R_lower ho10 (below_size (by repeat (first | (with_reducible first | exact HB.out | apply below_alloc | apply pw_below_drewN | apply below_drew1) | exact HB.out)))); have n1_ := Aside0.mk (below_step (by repeat (first | (with_reducible first | exact HB.out | apply below_alloc | apply pw_below_drewN | apply below_drew1) | exact HB.out)) hb); clear HB; have HO127 := n0_; have HB := n1_; clear n0_ n1_; clear hb ho10; have hcv11 := own_string (P := Tryd.prog) Tryd.underlying43 Tryd.underlying5 Tryd.underlying9 (Kd.own_of_R HO127.out)))
    go_ret
    exact ⟨by first | rfl | (simp [errW_none, errW_some] <;> rfl) | (simp [*, errW_none, errW_some] <;> rfl), by repeat (first | (with_reducible first | exact HB.out | apply below_alloc | apply pw_below_drewN | apply below_drew1) | exact HB.out)⟩

/-! ### hagglerref02_Number: function 34 -/
def hagglerref02_Number.f (k : Nat) (a0 : Int) : Option (ByteArray) := if a0 ≥ 0 then ((hagglerref02_digits.f k a0).bind fun t129 => (some t129)) else (if a0 < (-1000000000000000000) then ((hagglerref02_digits.f k (wrap64 (-(wrap64 (Int.tdiv a0 10))))).bind fun t130 => (if 1 + t130.size ≤ 9223372036854775807 then ((hagglerref02_digits.f k (wrap64 (-(Int.tmod a0 10)))).bind fun t131 => (if ((⟨#[45]⟩ : ByteArray) ++ t130).size + t131.size ≤ 9223372036854775807 then (some (((⟨#[45]⟩ : ByteArray) ++ t130) ++ t131)) else (none))) else (none))) else ((hagglerref02_digits.f k (wrap64 (-a0))).bind fun t132 => (if 1 + t132.size ≤ 9223372036854775807 then (some ((⟨#[45]⟩ : ByteArray) ++ t132)) else (none))))
theorem hagglerref02_Number.mono : ∀ a0 k, LeO (hagglerref02_Number.f k a0) (hagglerref02_Number.f (k + 1) a0) := by
  intro a0 k
  unfold hagglerref02_Number.f
  repeat' first
      | (with_reducible exact hagglerref02_digits.mono _ _)
      | (with_reducible exact LeO.refl _)
      | (with_reducible exact LeO.none _)
      | (with_reducible refine LeO.ite ?_ ?_)
      | (with_reducible refine LeO.bind ?_ (fun _ => ?_))
      | exact hagglerref02_digits.mono _ _
      | exact LeO.none _
      | refine LeO.ite ?_ ?_
      | refine LeO.bind ?_ (fun _ => ?_)
set_option maxHeartbeats 8000000 in
set_option maxRecDepth 100000 in
theorem hagglerref02_Number.calls (k : Nat) (a0 : Int) (r : ByteArray) (w : World) (h : hagglerref02_Number.f k a0 = some r) :
    Calls Tryd.prog 34 #[.int .i64 a0] w fun e w' => e = .returned (.string r) ∧ Below w.heap.size w w' := by
  have HB := Aside0.mk (Below.refl w.heap.size w)
  have H : (if a0 ≥ 0 then ((hagglerref02_digits.f k a0).bind fun t129 => (some t129)) else (if a0 < (-1000000000000000000) then ((hagglerref02_digits.f k (wrap64 (-(wrap64 (Int.tdiv a0 10))))).bind fun t130 => (if 1 + t130.size ≤ 9223372036854775807 then ((hagglerref02_digits.f k (wrap64 (-(Int.tmod a0 10)))).bind fun t131 => (if ((⟨#[45]⟩ : ByteArray) ++ t130).size + t131.size ≤ 9223372036854775807 then (some (((⟨#[45]⟩ : ByteArray) ++ t130) ++ t131)) else (none))) else (none))) else ((hagglerref02_digits.f k (wrap64 (-a0))).bind fun t132 => (if 1 + t132.size ≤ 9223372036854775807 then (some ((⟨#[45]⟩ : ByteArray) ++ t132)) else (none))))) = some r := h
  clear h
  by_cases c2 : a0 ≥ 0
  · rw [if_pos c2] at H
    have c2b0 : decide (0 ≤ a0) = true := decide_eq_true c2
    clear c2
    replace H := Option.bind_eq_some_iff.mp H
    obtain ⟨t129, A30, H⟩ := H
    replace H : (some t129) = some r := H
    have A3 := Aside0.mk A30
    clear A30
    obtain rfl := Option.some.inj H
    go_enter Tryd.func34, Tryd.ntmps34
    go_wp2_with (first | ((with_reducible refine gate_callee (f := 45) rfl ?_); refine goesL_ (some 6) rfl rfl Tryd.func45 (by kernel_rfl) rfl #[.int .i64 a0] rfl (by (try simp only [List.map_toArray, List.map_cons, List.map_nil]); first | done | rfl | (simp only [List.length_drop, List.length_take]; rfl)) ?_; (with_reducible refine (hagglerref02_digits.calls k a0 t129 _ A3.out).mono ?_); rintro e w4 ⟨rfl, hb⟩; refine ⟨_, rfl, ?_⟩; have n0_ := Aside0.mk (below_step (by repeat (first | (with_reducible first | exact HB.out | apply below_alloc | apply pw_below_drewN | apply below_drew1) | exact HB.out)) hb); clear HB; have HB := n0_; clear n0_; (try clear hb); (try clear hb2); (try clear hk); (try clear hi)))
    go_ret
    exact ⟨by first | rfl | (simp [errW_none, errW_some] <;> rfl) | (simp [*, errW_none, errW_some] <;> rfl), by repeat (first | (with_reducible first | exact HB.out | apply below_alloc | apply pw_below_drewN | apply below_drew1) | exact HB.out)⟩
  · rw [if_neg c2] at H
    have c2b0 : decide (0 ≤ a0) = false := decide_eq_false c2
    clear c2
    by_cases c5 : a0 < (-1000000000000000000)
    · rw [if_pos c5] at H
      have c5b0 : decide (a0 < (-1000000000000000000)) = true := decide_eq_true c5
      clear c5
      replace H := Option.bind_eq_some_iff.mp H
      obtain ⟨t130, A60, H⟩ := H
      replace H : (if 1 + t130.size ≤ 9223372036854775807 then ((hagglerref02_digits.f k (wrap64 (-(Int.tmod a0 10)))).bind fun t131 => (if ((⟨#[45]⟩ : ByteArray) ++ t130).size + t131.size ≤ 9223372036854775807 then (some (((⟨#[45]⟩ : ByteArray) ++ t130) ++ t131)) else (none))) else (none)) = some r := H
      have A6 := Aside0.mk A60
      clear A60
      by_cases c7 : 1 + t130.size ≤ 9223372036854775807
      · rw [if_pos c7] at H
        have c7b0 := eq_true c7
        have c7b1 : decide (1 + t130.size ≤ 9223372036854775807) = true := decide_eq_true c7
        try have c7b2 : (9223372036854775807 < 1 + t130.size) = False := eq_false (Nat.not_lt.2 c7)
        replace H := Option.bind_eq_some_iff.mp H
        obtain ⟨t131, A80, H⟩ := H
        replace H : (if ((⟨#[45]⟩ : ByteArray) ++ t130).size + t131.size ≤ 9223372036854775807 then (some (((⟨#[45]⟩ : ByteArray) ++ t130) ++ t131)) else (none)) = some r := H
        have A8 := Aside0.mk A80
        clear A80
        by_cases c9 : ((⟨#[45]⟩ : ByteArray) ++ t130).size + t131.size ≤ 9223372036854775807
        · rw [if_pos c9] at H
          have c9b0 := eq_true c9
          have c9b1 : decide (((⟨#[45]⟩ : ByteArray) ++ t130).size + t131.size ≤ 9223372036854775807) = true := decide_eq_true c9
          try have c9b2 : (9223372036854775807 < ((⟨#[45]⟩ : ByteArray) ++ t130).size + t131.size) = False := eq_false (Nat.not_lt.2 c9)
          (try have c9z : (9223372036854775807 < 1 + t130.size + t131.size) = False := eq_false (by have h_ := c9; simp only [ByteArray.size_append, ByteArray.size_extract] at h_; have : (⟨#[45]⟩ : ByteArray).size = 1 := rfl; first | omega | (simp at h_ ⊢; omega)))
          (try have c9n : (9223372036854775807 < (⟨#[45]⟩ : ByteArray).size + t130.size + t131.size) = False := eq_false (by have h_ := c9; simp only [ByteArray.size_append, ByteArray.size_extract] at h_ ⊢; omega))
          obtain rfl := Option.some.inj H
          go_enter Tryd.func34, Tryd.ntmps34
          go_wp2_with (first | ((with_reducible refine gate_callee (f := 45) rfl ?_); refine goesL_ (some 12) rfl rfl Tryd.func45 (by kernel_rfl) rfl #[.int .i64 (wrap64 (-(wrap64 (Int.tdiv a0 10))))] rfl (by (try simp only [List.map_toArray, List.map_cons, List.map_nil]); first | done | rfl | (simp only [List.length_drop, List.length_take]; rfl)) ?_; (with_reducible refine (hagglerref02_digits.calls k (wrap64 (-(wrap64 (Int.tdiv a0 10)))) t130 _ A6.out).mono ?_); rintro e w10 ⟨rfl, hb⟩; refine ⟨_, rfl, ?_⟩; have n0_ := Aside0.mk (below_step (by repeat (first | (with_reducible first | exact HB.out | apply below_alloc | apply pw_below_drewN | apply below_drew1) | exact HB.out)) hb); clear HB; have HB := n0_; clear n0_; (try clear hb); (try clear hb2); (try clear hk); (try clear hi)) | ((with_reducible refine gate_callee (f := 45) rfl ?_); refine goesL_ (some 17) rfl rfl Tryd.func45 (by kernel_rfl) rfl #[.int .i64 (wrap64 (-(Int.tmod a0 10)))] rfl (by (try simp only [List.map_toArray, List.map_cons, List.map_nil]); first | done | rfl | (simp only [List.length_drop, List.length_take]; rfl)) ?_; (with_reducible refine (hagglerref02_digits.calls k (wrap64 (-(Int.tmod a0 10))) t131 _ A8.out).mono ?_); rintro e w11 ⟨rfl, hb⟩; refine ⟨_, rfl, ?_⟩; have n0_ := Aside0.mk (below_step (by repeat (first | (with_reducible first | exact HB.out | apply below_alloc | apply pw_below_drewN | apply below_drew1) | exact HB.out)) hb); clear HB; have HB := n0_; clear n0_; (try clear hb); (try clear hb2); (try clear hk); (try clear hi)))
          go_ret
          exact ⟨by first | rfl | (simp [errW_none, errW_some] <;> rfl) | (simp [*, errW_none, errW_some] <;> rfl), by repeat (first | (with_reducible first | exact HB.out | apply below_alloc | apply pw_below_drewN | apply below_drew1) | exact HB.out)⟩
        · rw [if_neg c9] at H
          exact absurd H (by simp)
      · rw [if_neg c7] at H
        exact absurd H (by simp)
    · rw [if_neg c5] at H
      have c5b0 : decide (a0 < (-1000000000000000000)) = false := decide_eq_false c5
      clear c5
      replace H := Option.bind_eq_some_iff.mp H
      obtain ⟨t132, A120, H⟩ := H
      replace H : (if 1 + t132.size ≤ 9223372036854775807 then (some ((⟨#[45]⟩ : ByteArray) ++ t132)) else (none)) = some r := H
      have A12 := Aside0.mk A120
      clear A120
      by_cases c13 : 1 + t132.size ≤ 9223372036854775807
      · rw [if_pos c13] at H
        have c13b0 := eq_true c13
        have c13b1 : decide (1 + t132.size ≤ 9223372036854775807) = true := decide_eq_true c13
        try have c13b2 : (9223372036854775807 < 1 + t132.size) = False := eq_false (Nat.not_lt.2 c13)
        obtain rfl := Option.some.inj H
        go_enter Tryd.func34, Tryd.ntmps34
        go_wp2_with (first | ((with_reducible refine gate_callee (f := 45) rfl ?_); refine goesL_ (some 21) rfl rfl Tryd.func45 (by kernel_rfl) rfl #[.int .i64 (wrap64 (-a0))] rfl (by (try simp only [List.map_toArray, List.map_cons, List.map_nil]); first | done | rfl | (simp only [List.length_drop, List.length_take]; rfl)) ?_; (with_reducible refine (hagglerref02_digits.calls k (wrap64 (-a0)) t132 _ A12.out).mono ?_); rintro e w14 ⟨rfl, hb⟩; refine ⟨_, rfl, ?_⟩; have n0_ := Aside0.mk (below_step (by repeat (first | (with_reducible first | exact HB.out | apply below_alloc | apply pw_below_drewN | apply below_drew1) | exact HB.out)) hb); clear HB; have HB := n0_; clear n0_; (try clear hb); (try clear hb2); (try clear hk); (try clear hi)))
        go_ret
        exact ⟨by first | rfl | (simp [errW_none, errW_some] <;> rfl) | (simp [*, errW_none, errW_some] <;> rfl), by repeat (first | (with_reducible first | exact HB.out | apply below_alloc | apply pw_below_drewN | apply below_drew1) | exact HB.out)⟩
      · rw [if_neg c13] at H
        exact absurd H (by simp)

/-! ### hagglerref04_body: function 24 -/
def hagglerref04_body.l0 : Nat → ByteArray → Int → Int → List Int → ByteArray → Option (ByteArray)
  | 0, _, _, _, _, _ => none
  | k + 1, x3, x4, x134000, x134001, x134002 => if x4 < (x134001.length : Int) then (if x3.size + 1 ≤ 9223372036854775807 then (if 0 ≤ x4 then ((hagglerref02_Number.f k (rd x134001 x4)).bind fun t136 => (if (x3 ++ (⟨#[32]⟩ : ByteArray)).size + t136.size ≤ 9223372036854775807 then (hagglerref04_body.l0 k ((x3 ++ (⟨#[32]⟩ : ByteArray)) ++ t136) (wrap64 (x4 + 1)) x134000 x134001 x134002) else (none))) else (none)) else (none)) else (if x3.size + 1 ≤ 9223372036854775807 then (if (x3 ++ (⟨#[58]⟩ : ByteArray)).size + x134002.size ≤ 9223372036854775807 then (some ((x3 ++ (⟨#[58]⟩ : ByteArray)) ++ x134002)) else (none)) else (none))
def hagglerref04_body.f (k : Nat) (a0_0 : Int) (l0_1 : List Int) (a0_2 : ByteArray) : Option (ByteArray) := (hagglerref02_Number.f k a0_0).bind fun t134 => (hagglerref04_body.l0 k t134 0 a0_0 l0_1 a0_2)
theorem hagglerref04_body.mono_l : ∀ k, (∀ y0 y1 y2 y3 y4, LeO (hagglerref04_body.l0 k y0 y1 y2 y3 y4) (hagglerref04_body.l0 (k + 1) y0 y1 y2 y3 y4))
  | 0 => fun _ _ _ _ _ r h => by simp [hagglerref04_body.l0] at h
  | k + 1 => by
    have ih0 := hagglerref04_body.mono_l k
    · intro y0 y1 y2 y3 y4
      unfold hagglerref04_body.l0
      repeat' first
      | (with_reducible exact ih0 _ _ _ _ _)
      | (with_reducible exact hagglerref02_Number.mono _ _)
      | (with_reducible exact LeO.refl _)
      | (with_reducible exact LeO.none _)
      | (with_reducible refine LeO.ite ?_ ?_)
      | (with_reducible refine LeO.bind ?_ (fun _ => ?_))
      | exact ih0 _ _ _ _ _
      | exact hagglerref02_Number.mono _ _
      | exact LeO.none _
      | refine LeO.ite ?_ ?_
      | refine LeO.bind ?_ (fun _ => ?_)
theorem hagglerref04_body.mono : ∀ a0 a1 a2 k, LeO (hagglerref04_body.f k a0 a1 a2) (hagglerref04_body.f (k + 1) a0 a1 a2) := by
  intro a0 a1 a2 k
  have ih0 := hagglerref04_body.mono_l k
  unfold hagglerref04_body.f
  repeat' first
      | (with_reducible exact ih0 _ _ _ _ _)
      | (with_reducible exact hagglerref02_Number.mono _ _)
      | (with_reducible exact LeO.refl _)
      | (with_reducible exact LeO.none _)
      | (with_reducible refine LeO.ite ?_ ?_)
      | (with_reducible refine LeO.bind ?_ (fun _ => ?_))
      | exact ih0 _ _ _ _ _
      | exact hagglerref02_Number.mono _ _
      | exact LeO.none _
      | refine LeO.ite ?_ ?_
      | refine LeO.bind ?_ (fun _ => ?_)
set_option maxHeartbeats 8000000 in
set_option maxRecDepth 100000 in
theorem hagglerref04_body.calls (k : Nat) (a0_0 : Int) (A0_1 : Option Addr) (c0_1 : Nat) (l0_1 : List Int) (a0_2 : ByteArray) (r : ByteArray) (w : World) (hr0_1 : Kd.C (Kd.int .i64) w A0_1 l0_1.length l0_1) (hc0_1 : l0_1.length ≤ c0_1) (h : hagglerref04_body.f k a0_0 l0_1 a0_2 = some r) :
    Calls Tryd.prog 24 #[.agg #[.int .i64 a0_0, .slice A0_1 l0_1.length c0_1, .string a0_2]] w fun e w' => e = .returned (.string r) ∧ Below w.heap.size w w' := by
  have hu24 := Tryd.underlying24
  have HR0_1 := Aside0.mk hr0_1
  have HC0_1 := Aside0.mk hc0_1
  clear hr0_1 hc0_1
  have HB := Aside0.mk (Below.refl w.heap.size w)
  have H : ((hagglerref02_Number.f k a0_0).bind fun t134 => (hagglerref04_body.l0 k t134 0 a0_0 l0_1 a0_2)) = some r := h
  clear h
  replace H := Option.bind_eq_some_iff.mp H
  obtain ⟨t134, A20, H⟩ := H
  replace H : (hagglerref04_body.l0 k t134 0 a0_0 l0_1 a0_2) = some r := H
  have A2 := Aside0.mk A20
  clear A20
  have H' := Aside0.mk H
  clear H
  go_enter Tryd.func24, Tryd.ntmps24
  go_wp2_with (first | ((with_reducible refine gate_dst (N := 1) rfl ?_); refine box_event ?hg (N := 1) ?hd (cs := #[.int .i64 a0_0, .slice A0_1 l0_1.length c0_1, .string a0_2]) (t := 24) ?hr ?_; (case hd => rfl); (case hg => rfl); (case hr => first | (go_simp; done) | (go_simp; rfl)); intro gb133 hg w3 hbox hb; have n0_ := Aside0.mk (below_step (by repeat (first | (with_reducible first | exact HB.out | apply below_alloc | apply pw_below_drewN | apply below_drew1) | exact HB.out)) hb); have n1_ := Aside0.mk (hbox); have n2_ := Aside0.mk ((by rw [hg]; exact (below_size (by repeat (first | (with_reducible first | exact HB.out | apply below_alloc | apply pw_below_drewN | apply below_drew1) | exact HB.out))) : w.heap.size ≤ gb133)); have n3_ := Aside0.mk ((by rw [hg]; exact (below_size (by repeat (first | (with_reducible first | exact HB.out | apply below_alloc | apply pw_below_drewN | apply below_drew1) | exact HB.out))) : w.heap.size ≤ gb133)); clear HB; have HB := n0_; have BK133 := n1_; have GW133 := n2_; have GE133 := n3_; clear n0_ n1_ n2_ n3_; clear hb hbox hg; have hcz4_0 : w3.cell? ⟨gb133, 0, none⟩ = some (.int .i64 a0_0) := (blk_cell BK133.out 0).trans rfl; have hcz4_1 : w3.cell? ⟨gb133, 1, none⟩ = some (.slice A0_1 l0_1.length c0_1) := (blk_cell BK133.out 1).trans rfl; have hcz4_2 : w3.cell? ⟨gb133, 2, none⟩ = some (.string a0_2) := (blk_cell BK133.out 2).trans rfl; have hfz4_0 := blk_frozen BK133.out 0; have hfz4_1 := blk_frozen BK133.out 1; have hfz4_2 := blk_frozen BK133.out 2) | ((with_reducible refine gate_callee (f := 34) rfl ?_); refine goesL_ (some 7) rfl rfl Tryd.func34 (by kernel_rfl) rfl #[.int .i64 a0_0] rfl (by (try simp only [List.map_toArray, List.map_cons, List.map_nil]); first | done | rfl | (simp only [List.length_drop, List.length_take]; rfl)) ?_; (with_reducible refine (hagglerref02_Number.calls k a0_0 t134 _ A2.out).mono ?_); rintro e w5 ⟨rfl, hb⟩; refine ⟨_, rfl, ?_⟩; have n0_ := Aside0.mk (blk_below (g := gb133) (o := .cells #[.int .i64 a0_0, .slice A0_1 l0_1.length c0_1, .string a0_2] 24 (0, 0)) (by (with_reducible repeat (first | refine blk_drewN ?_ _ | refine blk_drew ?_ | refine blk_alloc ?_ _)); exact BK133.out) hb); have n1_ := Aside0.mk (below_step (by repeat (first | (with_reducible first | exact HB.out | apply below_alloc | apply pw_below_drewN | apply below_drew1 | refine below_set ?_ GE133.out) | exact HB.out)) hb); clear BK133; clear HB; have BK133 := n0_; have HB := n1_; clear n0_ n1_; (try clear hb); (try clear hb2); (try clear hk); (try clear hi)))
  go_loopg [3, 4] k (fun kq v3 v4 w' => ∃ (x3_1 : ByteArray) (x4_1 : Int), v3 = .string x3_1 ∧ v4 = .int .i64 x4_1 ∧ Aside0 (hagglerref04_body.l0 kq x3_1 x4_1 a0_0 l0_1 a0_2 = some r) ∧ Aside0 (kq ≤ k) ∧ Aside0 (w'.heap[gb133]? = some (.cells #[.int .i64 a0_0, (.slice A0_1 l0_1.length c0_1), .string a0_2] 24 (0, 0))) ∧ Aside0 (Below w.heap.size w w'))
  case atStart => exact ⟨(t134), (0), (by first | rfl | (simp; done) | (simp [*]; done)), (by first | rfl | (simp; done) | (simp [*]; done)), H', ⟨Nat.le_refl _⟩, ⟨by (with_reducible repeat (first | refine blk_drewN ?_ _ | refine blk_drew ?_ | refine blk_alloc ?_ _)); exact BK133.out⟩, ⟨by repeat (first | (with_reducible first | exact HB.out | apply below_alloc | apply pw_below_drewN | apply below_drew1 | refine below_set ?_ GE133.out) | exact HB.out)⟩⟩
  case round =>
    clear H'
    try clear c2
    try clear p2
    try clear c3
    try clear hcz4_0
    try clear hcz4_1
    try clear hcz4_2
    try clear hfz4_0
    try clear hfz4_1
    try clear hfz4_2
    obtain ⟨x3_1, x4_1, rfl, rfl, HA, HK1, BK133, HB⟩ := hrel
    cases gk with
    | zero => exact absurd HA.out (by simp [hagglerref04_body.l0])
    | succ k1 =>
      have H := HA.out
      clear HA
      simp only [hagglerref04_body.l0] at H
      by_cases c6 : x4_1 < (l0_1.length : Int)
      · rw [if_pos c6] at H
        have c6b0 : decide (x4_1 < (l0_1.length : Int)) = true := decide_eq_true c6
        clear c6
        by_cases c7 : x3_1.size + 1 ≤ 9223372036854775807
        · rw [if_pos c7] at H
          have c7b0 := eq_true c7
          have c7b1 : decide (x3_1.size + 1 ≤ 9223372036854775807) = true := decide_eq_true c7
          try have c7b2 : (9223372036854775807 < x3_1.size + 1) = False := eq_false (Nat.not_lt.2 c7)
          by_cases c8 : 0 ≤ x4_1
          · rw [if_pos c8] at H
            have c8b0 : decide (0 ≤ x4_1) = true := decide_eq_true c8
            clear c8
            replace H := Option.bind_eq_some_iff.mp H
            obtain ⟨t136, A90, H⟩ := H
            replace H : (if (x3_1 ++ (⟨#[32]⟩ : ByteArray)).size + t136.size ≤ 9223372036854775807 then (hagglerref04_body.l0 k1 ((x3_1 ++ (⟨#[32]⟩ : ByteArray)) ++ t136) (wrap64 (x4_1 + 1)) a0_0 l0_1 a0_2) else (none)) = some r := H
            have A9 := Aside0.mk A90
            clear A90
            by_cases c10 : (x3_1 ++ (⟨#[32]⟩ : ByteArray)).size + t136.size ≤ 9223372036854775807
            · rw [if_pos c10] at H
              have c10b0 := eq_true c10
              have c10b1 : decide ((x3_1 ++ (⟨#[32]⟩ : ByteArray)).size + t136.size ≤ 9223372036854775807) = true := decide_eq_true c10
              try have c10b2 : (9223372036854775807 < (x3_1 ++ (⟨#[32]⟩ : ByteArray)).size + t136.size) = False := eq_false (Nat.not_lt.2 c10)
              (try have c10z : (9223372036854775807 < x3_1.size + 1 + t136.size) = False := eq_false (by have h_ := c10; simp only [ByteArray.size_append, ByteArray.size_extract] at h_; have : (⟨#[32]⟩ : ByteArray).size = 1 := rfl; first | omega | (simp at h_ ⊢; omega)))
              (try have c10n : (9223372036854775807 < x3_1.size + (⟨#[32]⟩ : ByteArray).size + t136.size) = False := eq_false (by have h_ := c10; simp only [ByteArray.size_append, ByteArray.size_extract] at h_ ⊢; omega))
              have H' := Aside0.mk H
              clear H
              have hcz11_0 : wr.cell? ⟨gb133, 0, none⟩ = some (.int .i64 a0_0) := (blk_cell BK133.out 0).trans rfl
              have hcz11_1 : wr.cell? ⟨gb133, 1, none⟩ = some (.slice A0_1 l0_1.length c0_1) := (blk_cell BK133.out 1).trans rfl
              have hcz11_2 : wr.cell? ⟨gb133, 2, none⟩ = some (.string a0_2) := (blk_cell BK133.out 2).trans rfl
              have hfz11_0 := blk_frozen BK133.out 0
              have hfz11_1 := blk_frozen BK133.out 1
              have hfz11_2 := blk_frozen BK133.out 2
              have p135 : 0 ≤ (x4_1 : Int) := of_decide_eq_true (by first | (with_reducible assumption) | assumption)
              have q135 : x4_1 < (l0_1.length : Int) := of_decide_eq_true (by first | (with_reducible assumption) | assumption)
              obtain ⟨ad135, e135, hx135_0⟩ := Kd.at_int HR0_1.out x4_1 p135 q135
              cases e135
              replace hx135_0 := (HB.out.cell (World.block_lt_of_cell? w _ hx135_0)).trans hx135_0
              replace p135 := eq_true p135
              replace q135 := eq_true q135
              go_wp2_with (first | ((with_reducible refine gate_callee (f := 34) rfl ?_); refine goesL_ (some 22) rfl rfl Tryd.func34 (by kernel_rfl) rfl #[.int .i64 (rd l0_1 x4_1)] rfl (by (try simp only [List.map_toArray, List.map_cons, List.map_nil]); first | done | rfl | (simp only [List.length_drop, List.length_take]; rfl)) ?_; (with_reducible refine (hagglerref02_Number.calls k1 (rd l0_1 x4_1) t136 _ A9.out).mono ?_); rintro e w12 ⟨rfl, hb⟩; refine ⟨_, rfl, ?_⟩; have n0_ := Aside0.mk (blk_below (g := gb133) (o := .cells #[.int .i64 a0_0, .slice (some ad135) l0_1.length c0_1, .string a0_2] 24 (0, 0)) (by (with_reducible repeat (first | refine blk_drewN ?_ _ | refine blk_drew ?_ | refine blk_alloc ?_ _)); exact BK133.out) hb); have n1_ := Aside0.mk (below_step (by repeat (first | (with_reducible first | exact HB.out | apply below_alloc | apply pw_below_drewN | apply below_drew1 | refine below_set ?_ GE133.out) | exact HB.out)) hb); clear BK133; clear HB; have BK133 := n0_; have HB := n1_; clear n0_ n1_; (try clear hb); (try clear hb2); (try clear hk); (try clear hi)))
              go_roundg k1
              case measure => have := HK1.out; omega
              case rel => exact ⟨((x3_1 ++ (⟨#[32]⟩ : ByteArray)) ++ t136), (wrap64 (x4_1 + 1)), (by first | rfl | (simp; done) | (simp [*]; done)), (by first | rfl | (simp; done) | (simp [*]; done)), H', ⟨by have := HK1.out; omega⟩, ⟨by (with_reducible repeat (first | refine blk_drewN ?_ _ | refine blk_drew ?_ | refine blk_alloc ?_ _)); exact BK133.out⟩, ⟨by repeat (first | (with_reducible first | exact HB.out | apply below_alloc | apply pw_below_drewN | apply below_drew1 | refine below_set ?_ GE133.out) | exact HB.out)⟩⟩
            · rw [if_neg c10] at H
              exact absurd H (by simp)
          · rw [if_neg c8] at H
            exact absurd H (by simp)
        · rw [if_neg c7] at H
          exact absurd H (by simp)
      · rw [if_neg c6] at H
        have c6b0 : decide (x4_1 < (l0_1.length : Int)) = false := decide_eq_false c6
        clear c6
        by_cases c13 : x3_1.size + 1 ≤ 9223372036854775807
        · rw [if_pos c13] at H
          have c13b0 := eq_true c13
          have c13b1 : decide (x3_1.size + 1 ≤ 9223372036854775807) = true := decide_eq_true c13
          try have c13b2 : (9223372036854775807 < x3_1.size + 1) = False := eq_false (Nat.not_lt.2 c13)
          by_cases c14 : (x3_1 ++ (⟨#[58]⟩ : ByteArray)).size + a0_2.size ≤ 9223372036854775807
          · rw [if_pos c14] at H
            have c14b0 := eq_true c14
            have c14b1 : decide ((x3_1 ++ (⟨#[58]⟩ : ByteArray)).size + a0_2.size ≤ 9223372036854775807) = true := decide_eq_true c14
            try have c14b2 : (9223372036854775807 < (x3_1 ++ (⟨#[58]⟩ : ByteArray)).size + a0_2.size) = False := eq_false (Nat.not_lt.2 c14)
            (try have c14z : (9223372036854775807 < x3_1.size + 1 + a0_2.size) = False := eq_false (by have h_ := c14; simp only [ByteArray.size_append, ByteArray.size_extract] at h_; have : (⟨#[58]⟩ : ByteArray).size = 1 := rfl; first | omega | (simp at h_ ⊢; omega)))
            (try have c14n : (9223372036854775807 < x3_1.size + (⟨#[58]⟩ : ByteArray).size + a0_2.size) = False := eq_false (by have h_ := c14; simp only [ByteArray.size_append, ByteArray.size_extract] at h_ ⊢; omega))
            obtain rfl := Option.some.inj H
            have hcz15_0 : wr.cell? ⟨gb133, 0, none⟩ = some (.int .i64 a0_0) := (blk_cell BK133.out 0).trans rfl
            have hcz15_1 : wr.cell? ⟨gb133, 1, none⟩ = some (.slice A0_1 l0_1.length c0_1) := (blk_cell BK133.out 1).trans rfl
            have hcz15_2 : wr.cell? ⟨gb133, 2, none⟩ = some (.string a0_2) := (blk_cell BK133.out 2).trans rfl
            have hfz15_0 := blk_frozen BK133.out 0
            have hfz15_1 := blk_frozen BK133.out 1
            have hfz15_2 := blk_frozen BK133.out 2
            go_wp2
            go_ret
            exact ⟨by first | rfl | (simp [errW_none, errW_some] <;> rfl) | (simp [*, errW_none, errW_some] <;> rfl), by repeat (first | (with_reducible first | exact HB.out | apply below_alloc | apply pw_below_drewN | apply below_drew1 | refine below_set ?_ GE133.out) | exact HB.out)⟩
          · rw [if_neg c14] at H
            exact absurd H (by simp)
        · rw [if_neg c13] at H
          exact absurd H (by simp)

/-! ### hagglerref03_Bytes: function 25 -/
def hagglerref03_Bytes.f (a0 : Int) : Option (ByteArray) := if a0 < 0 then (some (⟨#[]⟩ : ByteArray)) else (if a0 > 65535 then (some (⟨#[]⟩ : ByteArray)) else (some (strOfNums (([(wrap64 (Int.tdiv a0 256)) % 256, (Int.tmod a0 256) % 256] : List Int)))))
set_option maxHeartbeats 8000000 in
set_option maxRecDepth 100000 in
theorem hagglerref03_Bytes.calls (a0 : Int) (r : ByteArray) (w : World) (h : hagglerref03_Bytes.f a0 = some r) :
    Calls Tryd.prog 25 #[.int .i64 a0] w fun e w' => e = .returned (.string r) ∧ Below w.heap.size w w' := by
  have HB := Aside0.mk (Below.refl w.heap.size w)
  have H : (if a0 < 0 then (some (⟨#[]⟩ : ByteArray)) else (if a0 > 65535 then (some (⟨#[]⟩ : ByteArray)) else (some (strOfNums (([(wrap64 (Int.tdiv a0 256)) % 256, (Int.tmod a0 256) % 256] : List Int)))))) = some r := h
  clear h
  by_cases c2 : a0 < 0
  · rw [if_pos c2] at H
    have c2b0 : decide (a0 < 0) = true := decide_eq_true c2
    clear c2
    obtain rfl := Option.some.inj H
    go_enter Tryd.func25, Tryd.ntmps25
    go_wp2
    go_ret
    exact ⟨by first | rfl | (simp [errW_none, errW_some] <;> rfl) | (simp [*, errW_none, errW_some] <;> rfl), by repeat (first | (with_reducible first | exact HB.out | apply below_alloc | apply pw_below_drewN | apply below_drew1) | exact HB.out)⟩
  · rw [if_neg c2] at H
    have c2b0 : decide (a0 < 0) = false := decide_eq_false c2
    clear c2
    by_cases c3 : a0 > 65535
    · rw [if_pos c3] at H
      have c3b0 : decide (65535 < a0) = true := decide_eq_true c3
      clear c3
      obtain rfl := Option.some.inj H
      go_enter Tryd.func25, Tryd.ntmps25
      go_wp2
      go_ret
      exact ⟨by first | rfl | (simp [errW_none, errW_some] <;> rfl) | (simp [*, errW_none, errW_some] <;> rfl), by repeat (first | (with_reducible first | exact HB.out | apply below_alloc | apply pw_below_drewN | apply below_drew1) | exact HB.out)⟩
    · rw [if_neg c3] at H
      have c3b0 : decide (65535 < a0) = false := decide_eq_false c3
      clear c3
      obtain ⟨y137, hy137⟩ : ∃ y_ : List Int, y_ = (([(wrap64 (Int.tdiv a0 256)) % 256, (Int.tmod a0 256) % 256] : List Int)) := ⟨_, rfl⟩
      replace H : (some (strOfNums y137)) = some r := by first | (rw [hy137]; with_reducible exact H) | (have H2_ := (Option.bind_some _ _).symm.trans H; rw [hy137]; with_reducible exact H2_) | (have H2_ := (Option.bind_some _ _).symm.trans H; with_reducible exact H2_) | with_reducible exact H | (rw [hy137]; exact H) | exact H
      have Ny137 := Aside0.mk hy137
      clear hy137
      obtain rfl := Option.some.inj H
      go_enter Tryd.func25, Tryd.ntmps25
      go_wp2_with (first | ((with_reducible refine gate_dst (N := 15) rfl ?_); refine Kd.R_lit (Kd.int .u8) _ 5 ?hg (N := 15) ?hd (xs := ([(wrap64 (Int.tdiv a0 256)) % 256, (Int.tmod a0 256) % 256] : List Int)) (inner := [.int .u8 ((wrap64 (Int.tdiv a0 256)) % 256), .int .u8 ((Int.tmod a0 256) % 256)]) (ok := fun _ => True) (okp := fun _ => True) ?hr ?hp (fun _ hk => hk) trivial (Below.refl _ _) (Nat.le_refl _) (by simp) ?_; (case hd => rfl); (case hg => rfl); (case hr => first | (go_simp; done) | (go_simp; rfl)); (case hp => exact (Reps.one (show Kd.M (Kd.int .u8) _ _ _ ((wrap64 (Int.tdiv a0 256)) % 256) [.int .u8 ((wrap64 (Int.tdiv a0 256)) % 256)] from rfl) (Reps.one (show Kd.M (Kd.int .u8) _ _ _ ((Int.tmod a0 256) % 256) [.int .u8 ((Int.tmod a0 256) % 256)] from rfl) (Reps.none _ _)))); intro v138 w4 ho5 hb hg_ hnew_; clear hg_ hnew_; (first | rw [← Ny137.out] at ho5 | (simp only [Int.reduceToNat] at ho5; rw [← Ny137.out] at ho5)); have n0_ := Aside0.mk (Kd.R_lower ho5 (below_size (by repeat (first | (with_reducible first | exact HB.out | apply below_alloc | apply pw_below_drewN | apply below_drew1) | exact HB.out)))); have n1_ := Aside0.mk (below_step (by repeat (first | (with_reducible first | exact HB.out | apply below_alloc | apply pw_below_drewN | apply below_drew1) | exact HB.out)) hb); clear HB; have HO139 := n0_; have HB := n1_; clear n0_ n1_; clear hb ho5; have hcv6 := own_string (P := Tryd.prog) Tryd.underlying43 Tryd.underlying5 Tryd.underlying9 (Kd.own_of_R HO139.out)))
      go_ret
      exact ⟨by first | rfl | (simp [errW_none, errW_some] <;> rfl) | (simp [*, errW_none, errW_some] <;> rfl), by repeat (first | (with_reducible first | exact HB.out | apply below_alloc | apply pw_below_drewN | apply below_drew1) | exact HB.out)⟩

end Go.Proofs.YthidhmfejnjdhaaDoor.HFrameTells
