/- The sums of the program: what is printed of them, and what that comes to. -/
-- Written by a program of ours (cutsum.py) for this claim, over the print of the kit.
import Derived.Test.YthidhmfejnjdhaaDoorProg
import Derived.Below
import Derived.Deep.Draws
import Derived.Deep.AppendLies
import Derived.Maps.AppendAt
import Derived.OwnWalk
import Derived.Laws.BytesArg
import Derived.Laws.MakeOwn
import Derived.Laws.OwnMore
import Derived.Deep.OwnRows
import Derived.Tactics
import Derived.Lib.ConvBytes
import Derived.Laws.Slices
import Derived.WalkKit
import Derived.KernelRfl
import Derived.RowKit3
import Derived.Deep.LoopGhost
import Derived.Deep.QuietTactic
import Derived.BigQuiet
import Derived.WideLaws
import Derived.Deep.DeepCutAuto
import Derived.Deep.CutBlock
import Derived.Deep.RegionHeld3
import Derived.Laws.Rows
import Derived.Lib.AppendStr
import Derived.ArgAppend
import Derived.Laws.IdiomCopy
import Derived.OrdersHeld
import Derived.Laws.BitsLemmas
import Derived.RowKit
import Derived.Test.YthidhmfejnjdhaaDoorWWords
import Derived.Test.YthidhmfejnjdhaaDoorWLast
import Derived.Test.YthidhmfejnjdhaaDoorWTab
import Derived.Test.YthidhmfejnjdhaaDoorWFour
import Derived.Test.YthidhmfejnjdhaaDoorWQPut
import Derived.Test.YthidhmfejnjdhaaDoorWApart
import Derived.Test.YthidhmfejnjdhaaDoorWArr
import Derived.Test.YthidhmfejnjdhaaDoorWZeros
import Derived.Test.YthidhmfejnjdhaaDoorWFoot
import Derived.Test.YthidhmfejnjdhaaDoorWKept
import Derived.Test.YthidhmfejnjdhaaDoorWShare
import Derived.Test.YthidhmfejnjdhaaDoorWN
import Derived.Test.YthidhmfejnjdhaaDoorWFootNe
import Derived.Test.YthidhmfejnjdhaaDoorWAt
import Derived.Test.YthidhmfejnjdhaaDoorWEqStruct
import Derived.Test.YthidhmfejnjdhaaDoorWRepsOne
import Derived.Test.YthidhmfejnjdhaaDoorWInv
import Derived.Test.YthidhmfejnjdhaaDoorWInvWords
import Derived.Test.YthidhmfejnjdhaaDoorWGuard
import Derived.Test.YthidhmfejnjdhaaDoorWNEv
import Derived.Test.YthidhmfejnjdhaaDoorWMore
import Derived.Test.YthidhmfejnjdhaaDoorFrameS
import Derived.Laws.BytesArg
namespace Go.Proofs.YthidhmfejnjdhaaDoor.FrameSum
open Go.RowKit Go.Proofs.YthidhmfejnjdhaaDoorW.PrintWords Go.Proofs.YthidhmfejnjdhaaDoorW.PrintLast Go.Proofs.YthidhmfejnjdhaaDoorW.PrintMore
attribute [local go_sem] max2_int min2_int max_two min_two max_three min_three max_four min_four   -- for this text's walks alone
set_option linter.unusedVariables false
set_option linter.unusedSimpArgs false
theorem info3 : (Tryd.prog.info? 3).map (fun i => (i.zero, i.size, i.bytes)) = some (some (.int .i64 0), 1, 8) := by kernel_rfl
theorem info5 : (Tryd.prog.info? 5).map (fun i => (i.zero, i.size, i.bytes)) = some (some (.int .u8 0), 1, 1) := by kernel_rfl
theorem info24 : (Tryd.prog.info? 24).map (fun i => (i.zero, i.size, i.bytes)) = some (some (.agg #[(.int .i64 0), (.slice none 0 0), (.string ⟨#[]⟩)]), 3, 48) := by kernel_rfl

/-! ### sum_Bytes: function 22 -/
def sum_Bytes.f (a0 : Int) : Option (ByteArray) := if a0 < 0 then (some (⟨#[]⟩ : ByteArray)) else (if a0 > 65535 then (some (⟨#[]⟩ : ByteArray)) else (some (strOfNums (([(a0 / 256) % 256, (a0) % 256] : List Int)))))
set_option maxHeartbeats 8000000 in
set_option maxRecDepth 100000 in
theorem sum_Bytes.calls (a0 : Int) (r : ByteArray) (w : World) (h : sum_Bytes.f a0 = some r) :
    Calls Tryd.prog 22 #[.int .i64 a0] w fun e w' => e = .returned (.string r) ∧ Below w.heap.size w w' := by
  have HB := Aside0.mk (Below.refl w.heap.size w)
  have H : (if a0 < 0 then (some (⟨#[]⟩ : ByteArray)) else (if a0 > 65535 then (some (⟨#[]⟩ : ByteArray)) else (some (strOfNums (([(a0 / 256) % 256, (a0) % 256] : List Int)))))) = some r := h
  clear h
  by_cases c2 : a0 < 0
  · rw [if_pos c2] at H
    have c2b0 : decide (a0 < 0) = true := decide_eq_true c2
    clear c2
    obtain rfl := Option.some.inj H
    go_enter Tryd.func22, Tryd.ntmps22
    go_wp2
    go_ret
    exact ⟨by first | rfl | (simp [errW_none, errW_some] <;> rfl) | (simp [*, errW_none, errW_some] <;> rfl), by repeat (first | (with_reducible first | exact HB.out | apply below_alloc | apply pw_below_drewN | apply below_drew1) | exact HB.out)⟩
  · rw [if_neg c2] at H
    have c2b0 : decide (a0 < 0) = false := decide_eq_false c2
    clear c2
    by_cases c3 : a0 > 65535
    · rw [if_pos c3] at H
      have c3b0 : decide (65535 < a0) = true := decide_eq_true c3
      clear c3
      obtain rfl := Option.some.inj H
      go_enter Tryd.func22, Tryd.ntmps22
      go_wp2
      go_ret
      exact ⟨by first | rfl | (simp [errW_none, errW_some] <;> rfl) | (simp [*, errW_none, errW_some] <;> rfl), by repeat (first | (with_reducible first | exact HB.out | apply below_alloc | apply pw_below_drewN | apply below_drew1) | exact HB.out)⟩
    · rw [if_neg c3] at H
      have c3b0 : decide (65535 < a0) = false := decide_eq_false c3
      clear c3
      obtain ⟨y123, hy123⟩ : ∃ y_ : List Int, y_ = (([(a0 / 256) % 256, (a0) % 256] : List Int)) := ⟨_, rfl⟩
      replace H : (some (strOfNums y123)) = some r := by first | (rw [hy123]; with_reducible exact H) | (have H2_ := (Option.bind_some _ _).symm.trans H; rw [hy123]; with_reducible exact H2_) | (have H2_ := (Option.bind_some _ _).symm.trans H; with_reducible exact H2_) | with_reducible exact H | (rw [hy123]; exact H) | exact H
      have Ny123 := Aside0.mk hy123
      clear hy123
      obtain rfl := Option.some.inj H
      go_enter Tryd.func22, Tryd.ntmps22
      go_wp2_with (first | ((with_reducible refine gate_dst (N := 14) rfl ?_); refine Kd.R_lit (Kd.int .u8) _ 5 ?hg (N := 14) ?hd (xs := ([(a0 / 256) % 256, (a0) % 256] : List Int)) (inner := [.int .u8 ((a0 / 256) % 256), .int .u8 ((a0) % 256)]) (ok := fun _ => True) (okp := fun _ => True) ?hr ?hp (fun _ hk => hk) trivial (Below.refl _ _) (Nat.le_refl _) (by simp) ?_; (case hd => rfl); (case hg => rfl); (case hr => first | (go_simp; done) | (go_simp; rfl)); (case hp => exact (Reps.one (show Kd.M (Kd.int .u8) _ _ _ ((a0 / 256) % 256) [.int .u8 ((a0 / 256) % 256)] from rfl) (Reps.one (show Kd.M (Kd.int .u8) _ _ _ ((a0) % 256) [.int .u8 ((a0) % 256)] from rfl) (Reps.none _ _)))); intro v124 w4 ho5 hb hg_ hnew_; clear hg_ hnew_; (first | rw [← Ny123.out] at ho5 | (simp only [Int.reduceToNat] at ho5; rw [← Ny123.out] at ho5)); have n0_ := Aside0.mk (Kd.R_lower ho5 (below_size (by repeat (first | (with_reducible first | exact HB.out | apply below_alloc | apply pw_below_drewN | apply below_drew1) | exact HB.out)))); have n1_ := Aside0.mk (below_step (by repeat (first | (with_reducible first | exact HB.out | apply below_alloc | apply pw_below_drewN | apply below_drew1) | exact HB.out)) hb); clear HB; have HO125 := n0_; have HB := n1_; clear n0_ n1_; clear hb ho5; have hcv6 := own_string (P := Tryd.prog) Tryd.underlying43 Tryd.underlying5 Tryd.underlying9 (Kd.own_of_R HO125.out)))
      go_ret
      exact ⟨by first | rfl | (simp [errW_none, errW_some] <;> rfl) | (simp [*, errW_none, errW_some] <;> rfl), by repeat (first | (with_reducible first | exact HB.out | apply below_alloc | apply pw_below_drewN | apply below_drew1) | exact HB.out)⟩

/-! ### sum_Of: function 23 -/
mutual
def sum_Of.l0 : Nat → ByteArray → Int → Int → Int → Option (Int)
  | 0, _, _, _, _ => none
  | k + 1, x0, x3, x7, x8 => if x8 < x7 then (if 0 ≤ x8 then (if x8 < (x0.size : Int) then (sum_Of.l1 k x0 (Go.bits .xor .u16 x3 (IntKind.u16.wrap ((IntKind.u16.wrap (bt x0 x8)) * 256))) x7 x8 0) else (none)) else (none)) else (some (wrap64 (x3)))
def sum_Of.l1 : Nat → ByteArray → Int → Int → Int → Int → Option (Int)
  | 0, _, _, _, _, _ => none
  | k + 1, x0, x3, x7, x8, x18 => if x18 < 8 then (if (Go.bits .and .u16 x3 32768) = 0 then (sum_Of.l1 k x0 (IntKind.u16.wrap (x3 * 2)) x7 x8 (wrap64 (x18 + 1))) else (sum_Of.l1 k x0 (Go.bits .xor .u16 (IntKind.u16.wrap (x3 * 2)) 4129) x7 x8 (wrap64 (x18 + 1)))) else (sum_Of.l0 k x0 x3 x7 (wrap64 (x8 + 1)))
end
def sum_Of.f (k : Nat) (a0 : ByteArray) : Option (Int) := sum_Of.l0 k a0 65535 (a0.size : Int) 0
theorem sum_Of.mono_l : ∀ k, (∀ y0 y1 y2 y3, LeO (sum_Of.l0 k y0 y1 y2 y3) (sum_Of.l0 (k + 1) y0 y1 y2 y3)) ∧ (∀ y0 y1 y2 y3 y4, LeO (sum_Of.l1 k y0 y1 y2 y3 y4) (sum_Of.l1 (k + 1) y0 y1 y2 y3 y4))
  | 0 => ⟨fun _ _ _ _ r h => by simp [sum_Of.l0] at h, fun _ _ _ _ _ r h => by simp [sum_Of.l1] at h⟩
  | k + 1 => by
    obtain ⟨ih0, ih1⟩ := sum_Of.mono_l k
    refine ⟨?_, ?_⟩
    · intro y0 y1 y2 y3
      unfold sum_Of.l0
      repeat' first
      | (with_reducible exact ih0 _ _ _ _)
      | (with_reducible exact ih1 _ _ _ _ _)
      | (with_reducible exact LeO.refl _)
      | (with_reducible exact LeO.none _)
      | (with_reducible refine LeO.ite ?_ ?_)
      | (with_reducible refine LeO.bind ?_ (fun _ => ?_))
      | exact ih0 _ _ _ _
      | exact ih1 _ _ _ _ _
      | exact LeO.none _
      | refine LeO.ite ?_ ?_
      | refine LeO.bind ?_ (fun _ => ?_)
    · intro y0 y1 y2 y3 y4
      unfold sum_Of.l1
      repeat' first
      | (with_reducible exact ih0 _ _ _ _)
      | (with_reducible exact ih1 _ _ _ _ _)
      | (with_reducible exact LeO.refl _)
      | (with_reducible exact LeO.none _)
      | (with_reducible refine LeO.ite ?_ ?_)
      | (with_reducible refine LeO.bind ?_ (fun _ => ?_))
      | exact ih0 _ _ _ _
      | exact ih1 _ _ _ _ _
      | exact LeO.none _
      | refine LeO.ite ?_ ?_
      | refine LeO.bind ?_ (fun _ => ?_)
theorem sum_Of.mono : ∀ a0 k, LeO (sum_Of.f k a0) (sum_Of.f (k + 1) a0) := by
  intro a0 k
  obtain ⟨ih0, ih1⟩ := sum_Of.mono_l k
  unfold sum_Of.f
  repeat' first
      | (with_reducible exact ih0 _ _ _ _)
      | (with_reducible exact ih1 _ _ _ _ _)
      | (with_reducible exact LeO.refl _)
      | (with_reducible exact LeO.none _)
      | (with_reducible refine LeO.ite ?_ ?_)
      | (with_reducible refine LeO.bind ?_ (fun _ => ?_))
      | exact ih0 _ _ _ _
      | exact ih1 _ _ _ _ _
      | exact LeO.none _
      | refine LeO.ite ?_ ?_
      | refine LeO.bind ?_ (fun _ => ?_)
set_option maxHeartbeats 8000000 in
set_option maxRecDepth 100000 in
theorem sum_Of.calls (k : Nat) (a0 : ByteArray) (r : Int) (w : World) (h : sum_Of.f k a0 = some r) :
    Calls Tryd.prog 23 #[.string a0] w fun e w' => e = .returned (.int .i64 r) ∧ Drawn0 w w' := by
  have H : (sum_Of.l0 k a0 65535 (a0.size : Int) 0) = some r := h
  clear h
  have H' := Aside0.mk H
  clear H
  go_enter Tryd.func23, Tryd.ntmps23
  go_wp2
  go_loopg [3, 8] k (fun kq v3 v8 w' => ∃ (x3_1 : Int) (x8_1 : Int), v3 = .int .u16 x3_1 ∧ v8 = .int .i64 x8_1 ∧ Aside0 (sum_Of.l0 kq a0 x3_1 (a0.size : Int) x8_1 = some r) ∧ Aside0 (kq ≤ k) ∧ Drawn0 w w')
  case atStart => exact ⟨(65535), (0), (by first | rfl | (simp; done) | (simp [*]; done)), (by first | rfl | (simp; done) | (simp [*]; done)), H', ⟨Nat.le_refl _⟩, by repeat (first | exact Drawn0.refl _ | apply Drawn0.step)⟩
  case round =>
    clear H'
    obtain ⟨x3_1, x8_1, rfl, rfl, HA, HK1, ⟨m1, rfl⟩⟩ := hrel
    cases gk with
    | zero => exact absurd HA.out (by simp [sum_Of.l0])
    | succ k1 =>
      have H := HA.out
      clear HA
      simp only [sum_Of.l0] at H
      by_cases c2 : x8_1 < (a0.size : Int)
      · rw [if_pos c2] at H
        have c2b0 : decide (x8_1 < (a0.size : Int)) = true := decide_eq_true c2
        clear c2
        by_cases c3 : 0 ≤ x8_1
        · rw [if_pos c3] at H
          have c3b0 : decide (0 ≤ x8_1) = true := decide_eq_true c3
          clear c3
          by_cases c4 : x8_1 < (a0.size : Int)
          · rw [if_pos c4] at H
            have c4b0 : decide (x8_1 < (a0.size : Int)) = true := decide_eq_true c4
            clear c4
            have H' := Aside0.mk H
            clear H
            have p5 : 0 ≤ (x8_1 : Int) := of_decide_eq_true (by first | (with_reducible assumption) | assumption)
            have q5 : x8_1 < (a0.size : Int) := of_decide_eq_true (by first | (with_reducible assumption) | assumption)
            have hx5 := bt_at a0 x8_1
            replace p5 := eq_true p5
            replace q5 := eq_true q5
            go_wp2
            go_loopg [3, 18] k1 (fun kq v3 v18 w' => ∃ (x3_2 : Int) (x18_2 : Int), v3 = .int .u16 x3_2 ∧ v18 = .int .i64 x18_2 ∧ Aside0 (sum_Of.l1 kq a0 x3_2 (a0.size : Int) x8_1 x18_2 = some r) ∧ Aside0 (kq ≤ k1) ∧ Drawn0 w w')
            case atStart => exact ⟨(Go.bits .xor .u16 x3_1 (IntKind.u16.wrap ((IntKind.u16.wrap (bt a0 x8_1)) * 256))), (0), (by first | rfl | (simp; done) | (simp [*]; done)), (by first | rfl | (simp; done) | (simp [*]; done)), H', ⟨Nat.le_refl _⟩, by repeat (first | exact Drawn0.refl _ | apply Drawn0.step)⟩
            case round =>
              clear H'
              try clear c2
              try clear c2b0
              try clear p2
              try clear c3
              try clear c3b0
              try clear c4
              try clear c4b0
              try clear p5
              try clear q5
              try clear hx5
              try clear p5
              try clear q5
              obtain ⟨x3_2, x18_2, rfl, rfl, HA, HK2, ⟨m2, rfl⟩⟩ := hrel
              cases gk with
              | zero => exact absurd HA.out (by simp [sum_Of.l1])
              | succ k2 =>
                have H := HA.out
                clear HA
                simp only [sum_Of.l1] at H
                by_cases c6 : x18_2 < 8
                · rw [if_pos c6] at H
                  have c6b0 : decide (x18_2 < 8) = true := decide_eq_true c6
                  clear c6
                  by_cases c7 : (Go.bits .and .u16 x3_2 32768) = 0
                  · rw [if_pos c7] at H
                    have c7b0 : ((Go.bits .and .u16 x3_2 32768) == 0) = true := beq_iff_eq.mpr c7
                    have c7b1 : ((Go.bits .and .u16 x3_2 32768) != 0) = false := bne_eq_false_iff_eq.mpr c7
                    clear c7
                    have H' := Aside0.mk H
                    clear H
                    go_wp2
                    go_roundg k2
                    case measure => have := HK1.out; have := HK2.out; omega
                    case rel => exact ⟨(IntKind.u16.wrap (x3_2 * 2)), (wrap64 (x18_2 + 1)), (by first | rfl | (simp; done) | (simp [*]; done)), (by first | rfl | (simp; done) | (simp [*]; done)), H', ⟨by have := HK1.out; have := HK2.out; omega⟩, by repeat (first | exact Drawn0.refl _ | apply Drawn0.step)⟩
                  · rw [if_neg c7] at H
                    have c7b0 : ((Go.bits .and .u16 x3_2 32768) == 0) = false := beq_eq_false_iff_ne.mpr c7
                    have c7b1 : ((Go.bits .and .u16 x3_2 32768) != 0) = true := bne_iff_ne.mpr c7
                    have H' := Aside0.mk H
                    clear H
                    go_wp2
                    go_roundg k2
                    case measure => have := HK1.out; have := HK2.out; omega
                    case rel => exact ⟨(Go.bits .xor .u16 (IntKind.u16.wrap (x3_2 * 2)) 4129), (wrap64 (x18_2 + 1)), (by first | rfl | (simp; done) | (simp [*]; done)), (by first | rfl | (simp; done) | (simp [*]; done)), H', ⟨by have := HK1.out; have := HK2.out; omega⟩, by repeat (first | exact Drawn0.refl _ | apply Drawn0.step)⟩
                · rw [if_neg c6] at H
                  have c6b0 : decide (x18_2 < 8) = false := decide_eq_false c6
                  clear c6
                  have H' := Aside0.mk H
                  clear H
                  go_wp2
                  go_roundg k2
                  case measure => have := HK1.out; have := HK2.out; omega
                  case rel => exact ⟨(x3_2), (wrap64 (x8_1 + 1)), (by first | rfl | (simp; done) | (simp [*]; done)), (by first | rfl | (simp; done) | (simp [*]; done)), H', ⟨by have := HK1.out; have := HK2.out; omega⟩, by repeat (first | exact Drawn0.refl _ | apply Drawn0.step)⟩
          · rw [if_neg c4] at H
            exact absurd H (by simp)
        · rw [if_neg c3] at H
          exact absurd H (by simp)
      · rw [if_neg c2] at H
        have c2b0 : decide (x8_1 < (a0.size : Int)) = false := decide_eq_false c2
        clear c2
        obtain rfl := Option.some.inj H
        go_wp2
        go_ret
        exact ⟨by first | rfl | (simp; done) | (simp [*]; done), by repeat (first | exact Drawn0.refl _ | apply Drawn0.step)⟩

-- NOT PRINTED: function 11 (frame_Encode)

-- NOT PRINTED: function 29 (frame_reader_next)

-- NOT PRINTED: function 79 (bytealg_IndexByteString)

-- NOT PRINTED: function 66 (stringslite_IndexByte)

-- NOT PRINTED: function 67 (bytealg_IndexString)


open Go.Proofs.YthidhmfejnjdhaaDoor.Crc in
theorem of_l1 (k : Nat) (a : ByteArray) (n : BitVec 16) (s i j : Int) (h : j < 8) (h0 : 0 ≤ j) :
    sum_Of.l1 (k + 1) a (n.toNat : Int) s i j = sum_Of.l1 k a ((stp n).toNat : Int) s i (j + 1) := by
  simp only [sum_Of.l1]
  rw [if_pos h, show wrap64 (j + 1) = j + 1 by unfold wrap64; omega]
  cases hm : n.msb with
  | false =>
    rw [if_pos ((msb16 n).2 hm), dbl16, stp_lo hm]
  | true =>
    rw [if_neg (fun e => by rw [(msb16 n).1 e] at hm; exact absurd hm (by decide)), dbl16]
    rw [show (4129 : Int) = ((0x1021#16).toNat : Int) from rfl, xor16, stp_hi hm]

open Go.Proofs.YthidhmfejnjdhaaDoor.Crc in
theorem of_l18 (k : Nat) (a : ByteArray) (n : BitVec 16) (s i : Int) :
    sum_Of.l1 (k + 9) a (n.toNat : Int) s i 0 = sum_Of.l0 k a ((its 8 n).toNat : Int) s (wrap64 (i + 1)) := by
  rw [of_l1 (k + 8) a n s i 0 (by omega) (by omega), of_l1 (k + 7) _ _ _ _ _ (by omega) (by omega), of_l1 (k + 6) _ _ _ _ _ (by omega) (by omega), of_l1 (k + 5) _ _ _ _ _ (by omega) (by omega), of_l1 (k + 4) _ _ _ _ _ (by omega) (by omega), of_l1 (k + 3) _ _ _ _ _ (by omega) (by omega), of_l1 (k + 2) _ _ _ _ _ (by omega) (by omega), of_l1 (k + 1) _ _ _ _ _ (by omega) (by omega)]
  simp only [sum_Of.l1]
  rw [if_neg (by omega)]
  rfl

open Go.Proofs.YthidhmfejnjdhaaDoor.Crc in
theorem of_l0 (a : ByteArray) (hs : a.size ≤ 9223372036854775800) : ∀ (d m i : Nat) (n : BitVec 16), i + d = a.size →
    sum_Of.l0 (10 * d + 1 + m) a (n.toNat : Int) (a.size : Int) (i : Int) = some ((crc n (a.data.toList.drop i)).toNat : Int) := by
  intro d
  induction d with
  | zero =>
    intro m i n h
    rw [show 10 * 0 + 1 + m = m + 1 by omega]
    simp only [sum_Of.l0]
    rw [if_neg (by omega), List.drop_eq_nil_of_le (by simp; show a.size ≤ i; omega)]
    have := n.isLt
    rw [show wrap64 (n.toNat : Int) = n.toNat by unfold wrap64; omega]
    rfl
  | succ d ih =>
    intro m i n h
    rw [show 10 * (d + 1) + 1 + m = (10 * d + 1 + m + 9) + 1 by omega]
    simp only [sum_Of.l0]
    have hi' : i < a.size := by omega
    rw [if_pos (by omega), if_pos (by omega), if_pos (by omega)]
    have hb : bt a (i : Int) = (a[i].toNat : Int) := by
      unfold bt; rw [dif_pos (by simpa using hi')]; simp
    rw [hb, byte16, xor16, of_l18, show wrap64 ((i : Int) + 1) = ((i + 1 : Nat) : Int) by unfold wrap64; omega, ih m (i + 1) _ (by omega)]
    rw [List.drop_eq_getElem_cons (i := i) (by simpa using hi')]
    rfl

open Go.Proofs.YthidhmfejnjdhaaDoor.FrameS in
theorem of_ok (a : ByteArray) (w : World) (hs : a.size ≤ 9223372036854775800) : Calls Tryd.prog 23 #[.string a] w fun e w' => e = .returned (.int .i64 ((sumL (tl a)).toNat : Int)) ∧ Drawn0 w w' :=
  sum_Of.calls (10 * a.size + 1) a _ w (of_l0 a hs a.size 0 0 0xffff#16 (by omega))
open Go.Proofs.YthidhmfejnjdhaaDoor.FrameS in
theorem bytes_ok (n : Int) (w : World) (h0 : 0 ≤ n) (h1 : n < 65536) : Calls Tryd.prog 22 #[.int .i64 n] w fun e w' => e = .returned (.string ⟨(two n.toNat).toArray⟩) ∧ Below w.heap.size w w' := by
  refine sum_Bytes.calls n _ w ?_
  unfold sum_Bytes.f; rw [if_neg (by omega), if_neg (by omega)]
  congr 1
  apply ByteArray.ext
  show #[UInt8.ofNat ((n / 256) % 256).toNat, UInt8.ofNat (n % 256).toNat] = #[UInt8.ofNat (n.toNat / 256), UInt8.ofNat n.toNat]
  rw [show ((n / 256) % 256).toNat = n.toNat / 256 by omega]
  have : UInt8.ofNat (n % 256).toNat = UInt8.ofNat n.toNat := by apply UInt8.toNat_inj.1; rw [UInt8.toNat_ofNat', UInt8.toNat_ofNat']; omega
  rw [this]
end Go.Proofs.YthidhmfejnjdhaaDoor.FrameSum
