import Derived.Test.YtjbgboaghphaeaaOSumLengthx0
namespace Go.Proofs.Ytjbgboaghphaeaa.OSumLength
open Go.RowKit Go.Proofs.YtjbgboaghphaeaaW.PrintWords Go.Proofs.YtjbgboaghphaeaaW.PrintLast Go.Proofs.YtjbgboaghphaeaaW.PrintMore
attribute [local go_sem] max2_int min2_int max_two min_two max_three min_three max_four min_four   -- for this text's walks alone
set_option linter.unusedVariables false
set_option linter.unusedSimpArgs false

/-! ### sum_Of: function 15 -/
mutual
def sum_Of.l0 : Nat → ByteArray → Int → Int → Int → Option (Int)
  | 0, _, _, _, _ => none
  | k + 1, x0, x3, x7, x8 => if x8 < x7 then (if 0 ≤ x8 then (if x8 < (x0.size : Int) then (sum_Of.l1 k x0 (Go.bits .xor .u16 x3 (IntKind.u16.wrap ((IntKind.u16.wrap (bt x0 x8)) * 256))) x7 x8 0) else (none)) else (none)) else (some (wrap64 (x3)))
def sum_Of.l1 : Nat → ByteArray → Int → Int → Int → Int → Option (Int)
  | 0, _, _, _, _, _ => none
  | k + 1, x0, x3, x7, x8, x18 => if x18 < 8 then (if (Go.bits .and .u16 x3 32768) = 0 then (sum_Of.l1 k x0 (IntKind.u16.wrap (x3 * 2)) x7 x8 (wrap64 (x18 + 1))) else (sum_Of.l1 k x0 (Go.bits .xor .u16 (IntKind.u16.wrap (x3 * 2)) 4129) x7 x8 (wrap64 (x18 + 1)))) else (sum_Of.l0 k x0 x3 x7 (wrap64 (x8 + 1)))
end
def sum_Of.f (k : Nat) (a0 : ByteArray) : Option (Int) := sum_Of.l0 k a0 65535 (a0.size : Int) 0
theorem sum_Of.mono_l : ∀ k, (∀ y0 y1 y2 y3, LeO (sum_Of.l0 k y0 y1 y2 y3) (sum_Of.l0 (k + 1) y0 y1 y2 y3)) ∧ (∀ y0 y1 y2 y3 y4, LeO (sum_Of.l1 k y0 y1 y2 y3 y4) (sum_Of.l1 (k + 1) y0 y1 y2 y3 y4))
  | 0 => ⟨fun _ _ _ _ r h => by simp [sum_Of.l0] at h, fun _ _ _ _ _ r h => by simp [sum_Of.l1] at h⟩
  | k + 1 => by
    obtain ⟨ih0, ih1⟩ := sum_Of.mono_l k
    refine ⟨?_, ?_⟩
    · intro y0 y1 y2 y3
      unfold sum_Of.l0
      repeat' first
      | (with_reducible exact ih0 _ _ _ _)
      | (with_reducible exact ih1 _ _ _ _ _)
      | (with_reducible exact LeO.refl _)
      | (with_reducible exact LeO.none _)
      | (with_reducible refine LeO.ite ?_ ?_)
      | (with_reducible refine LeO.bind ?_ (fun _ => ?_))
      | exact ih0 _ _ _ _
      | exact ih1 _ _ _ _ _
      | exact LeO.none _
      | refine LeO.ite ?_ ?_
      | refine LeO.bind ?_ (fun _ => ?_)
    · intro y0 y1 y2 y3 y4
      unfold sum_Of.l1
      repeat' first
      | (with_reducible exact ih0 _ _ _ _)
      | (with_reducible exact ih1 _ _ _ _ _)
      | (with_reducible exact LeO.refl _)
      | (with_reducible exact LeO.none _)
      | (with_reducible refine LeO.ite ?_ ?_)
      | (with_reducible refine LeO.bind ?_ (fun _ => ?_))
      | exact ih0 _ _ _ _
      | exact ih1 _ _ _ _ _
      | exact LeO.none _
      | refine LeO.ite ?_ ?_
      | refine LeO.bind ?_ (fun _ => ?_)
theorem sum_Of.mono : ∀ a0 k, LeO (sum_Of.f k a0) (sum_Of.f (k + 1) a0) := by
  intro a0 k
  obtain ⟨ih0, ih1⟩ := sum_Of.mono_l k
  unfold sum_Of.f
  repeat' first
      | (with_reducible exact ih0 _ _ _ _)
      | (with_reducible exact ih1 _ _ _ _ _)
      | (with_reducible exact LeO.refl _)
      | (with_reducible exact LeO.none _)
      | (with_reducible refine LeO.ite ?_ ?_)
      | (with_reducible refine LeO.bind ?_ (fun _ => ?_))
      | exact ih0 _ _ _ _
      | exact ih1 _ _ _ _ _
      | exact LeO.none _
      | refine LeO.ite ?_ ?_
      | refine LeO.bind ?_ (fun _ => ?_)
set_option maxHeartbeats 8000000 in
set_option maxRecDepth 100000 in
theorem sum_Of.calls (k : Nat) (a0 : ByteArray) (r : Int) (w : World) (h : sum_Of.f k a0 = some r) :
    Calls Try.prog 15 #[.string a0] w fun e w' => e = .returned (.int .i64 r) ∧ Drawn0 w w' := by
  have H : (sum_Of.l0 k a0 65535 (a0.size : Int) 0) = some r := h
  clear h
  have H' := Aside0.mk H
  clear H
  go_enter Try.func15, Try.ntmps15
  go_wp2
  go_loopg [3, 8] k (fun kq v3 v8 w' => ∃ (x3_1 : Int) (x8_1 : Int), v3 = .int .u16 x3_1 ∧ v8 = .int .i64 x8_1 ∧ Aside0 (sum_Of.l0 kq a0 x3_1 (a0.size : Int) x8_1 = some r) ∧ Aside0 (kq ≤ k) ∧ Drawn0 w w')
  case atStart => exact ⟨(65535), (0), (by first | rfl | (simp; done) | (simp [*]; done)), (by first | rfl | (simp; done) | (simp [*]; done)), H', ⟨Nat.le_refl _⟩, by repeat (first | exact Drawn0.refl _ | apply Drawn0.step)⟩
  case round =>
    clear H'
    try clear c1
    obtain ⟨x3_1, x8_1, rfl, rfl, HA, HK1, ⟨m1, rfl⟩⟩ := hrel
    cases gk with
    | zero => exact absurd HA.out (by simp [sum_Of.l0])
    | succ k1 =>
      have H := HA.out
      clear HA
      simp only [sum_Of.l0] at H
      by_cases c2 : x8_1 < (a0.size : Int)
      · rw [if_pos c2] at H
        have c2b0 : decide (x8_1 < (a0.size : Int)) = true := decide_eq_true c2
        clear c2
        by_cases c3 : 0 ≤ x8_1
        · rw [if_pos c3] at H
          have c3b0 : decide (0 ≤ x8_1) = true := decide_eq_true c3
          clear c3
          by_cases c4 : x8_1 < (a0.size : Int)
          · rw [if_pos c4] at H
            have c4b0 : decide (x8_1 < (a0.size : Int)) = true := decide_eq_true c4
            clear c4
            have H' := Aside0.mk H
            clear H
            have p5 : 0 ≤ (x8_1 : Int) := of_decide_eq_true (by first | (with_reducible assumption) | assumption)
            have q5 : x8_1 < (a0.size : Int) := of_decide_eq_true (by first | (with_reducible assumption) | assumption)
            have hx5 := bt_at a0 x8_1
            replace p5 := eq_true p5
            replace q5 := eq_true q5
            go_wp2
            go_loopg [3, 18] k1 (fun kq v3 v18 w' => ∃ (x3_2 : Int) (x18_2 : Int), v3 = .int .u16 x3_2 ∧ v18 = .int .i64 x18_2 ∧ Aside0 (sum_Of.l1 kq a0 x3_2 (a0.size : Int) x8_1 x18_2 = some r) ∧ Aside0 (kq ≤ k1) ∧ Drawn0 w w')
            case atStart => exact ⟨(Go.bits .xor .u16 x3_1 (IntKind.u16.wrap ((IntKind.u16.wrap (bt a0 x8_1)) * 256))), (0), (by first | rfl | (simp; done) | (simp [*]; done)), (by first | rfl | (simp; done) | (simp [*]; done)), H', ⟨Nat.le_refl _⟩, by repeat (first | exact Drawn0.refl _ | apply Drawn0.step)⟩
            case round =>
              clear H'
              try clear c1
              try clear c2
              try clear c2b0
              try clear p2
              try clear c3
              try clear c3b0
              try clear c4
              try clear c4b0
              try clear p5
              try clear q5
              try clear hx5
              try clear p5
              try clear q5
              obtain ⟨x3_2, x18_2, rfl, rfl, HA, HK2, ⟨m2, rfl⟩⟩ := hrel
              cases gk with
              | zero => exact absurd HA.out (by simp [sum_Of.l1])
              | succ k2 =>
                have H := HA.out
                clear HA
                simp only [sum_Of.l1] at H
                by_cases c6 : x18_2 < 8
                · rw [if_pos c6] at H
                  have c6b0 : decide (x18_2 < 8) = true := decide_eq_true c6
                  clear c6
                  by_cases c7 : (Go.bits .and .u16 x3_2 32768) = 0
                  · rw [if_pos c7] at H
                    have c7b0 : ((Go.bits .and .u16 x3_2 32768) == 0) = true := beq_iff_eq.mpr c7
                    have c7b1 : ((Go.bits .and .u16 x3_2 32768) != 0) = false := bne_eq_false_iff_eq.mpr c7
                    clear c7
                    have H' := Aside0.mk H
                    clear H
                    go_wp2
                    go_roundg k2
                    case measure => have := HK1.out; have := HK2.out; omega
                    case rel => exact ⟨(IntKind.u16.wrap (x3_2 * 2)), (wrap64 (x18_2 + 1)), (by first | rfl | (simp; done) | (simp [*]; done)), (by first | rfl | (simp; done) | (simp [*]; done)), H', ⟨by have := HK1.out; have := HK2.out; omega⟩, by repeat (first | exact Drawn0.refl _ | apply Drawn0.step)⟩
                  · rw [if_neg c7] at H
                    have c7b0 : ((Go.bits .and .u16 x3_2 32768) == 0) = false := beq_eq_false_iff_ne.mpr c7
                    have c7b1 : ((Go.bits .and .u16 x3_2 32768) != 0) = true := bne_iff_ne.mpr c7
                    have H' := Aside0.mk H
                    clear H
                    go_wp2
                    go_roundg k2
                    case measure => have := HK1.out; have := HK2.out; omega
                    case rel => exact ⟨(Go.bits .xor .u16 (IntKind.u16.wrap (x3_2 * 2)) 4129), (wrap64 (x18_2 + 1)), (by first | rfl | (simp; done) | (simp [*]; done)), (by first | rfl | (simp; done) | (simp [*]; done)), H', ⟨by have := HK1.out; have := HK2.out; omega⟩, by repeat (first | exact Drawn0.refl _ | apply Drawn0.step)⟩
                · rw [if_neg c6] at H
                  have c6b0 : decide (x18_2 < 8) = false := decide_eq_false c6
                  clear c6
                  have H' := Aside0.mk H
                  clear H
                  go_wp2
                  go_roundg k2
                  case measure => have := HK1.out; have := HK2.out; omega
                  case rel => exact ⟨(x3_2), (wrap64 (x8_1 + 1)), (by first | rfl | (simp; done) | (simp [*]; done)), (by first | rfl | (simp; done) | (simp [*]; done)), H', ⟨by have := HK1.out; have := HK2.out; omega⟩, by repeat (first | exact Drawn0.refl _ | apply Drawn0.step)⟩
          · rw [if_neg c4] at H
            exact absurd H (by simp)
        · rw [if_neg c3] at H
          exact absurd H (by simp)
      · rw [if_neg c2] at H
        have c2b0 : decide (x8_1 < (a0.size : Int)) = false := decide_eq_false c2
        clear c2
        obtain rfl := Option.some.inj H
        go_wp2
        go_ret
        exact ⟨by first | rfl | (simp; done) | (simp [*]; done), by repeat (first | exact Drawn0.refl _ | apply Drawn0.step)⟩

/-! ### sum_Bytes: function 17 -/
def sum_Bytes.f (a0 : Int) : Option (ByteArray) := if a0 < 0 then (some (⟨#[]⟩ : ByteArray)) else (if a0 > 65535 then (some (⟨#[]⟩ : ByteArray)) else (some (strOfNums (([(a0 / 256) % 256, (a0) % 256] : List Int)))))
set_option maxHeartbeats 8000000 in
set_option maxRecDepth 100000 in
theorem sum_Bytes.calls (a0 : Int) (r : ByteArray) (w : World) (h : sum_Bytes.f a0 = some r) :
    Calls Try.prog 17 #[.int .i64 a0] w fun e w' => e = .returned (.string r) ∧ Below w.heap.size w w' := by
  have HB := Aside0.mk (Below.refl w.heap.size w)
  have H : (if a0 < 0 then (some (⟨#[]⟩ : ByteArray)) else (if a0 > 65535 then (some (⟨#[]⟩ : ByteArray)) else (some (strOfNums (([(a0 / 256) % 256, (a0) % 256] : List Int)))))) = some r := h
  clear h
  by_cases c2 : a0 < 0
  · rw [if_pos c2] at H
    have c2b0 : decide (a0 < 0) = true := decide_eq_true c2
    clear c2
    obtain rfl := Option.some.inj H
    go_enter Try.func17, Try.ntmps17
    go_wp2
    go_ret
    exact ⟨by first | rfl | (simp [errW_none, errW_some] <;> rfl) | (simp [*, errW_none, errW_some] <;> rfl), by repeat (first | (with_reducible first | exact HB.out | apply below_alloc | apply pw_below_drewN | apply below_drew1) | exact HB.out)⟩
  · rw [if_neg c2] at H
    have c2b0 : decide (a0 < 0) = false := decide_eq_false c2
    clear c2
    by_cases c3 : a0 > 65535
    · rw [if_pos c3] at H
      have c3b0 : decide (65535 < a0) = true := decide_eq_true c3
      clear c3
      obtain rfl := Option.some.inj H
      go_enter Try.func17, Try.ntmps17
      go_wp2
      go_ret
      exact ⟨by first | rfl | (simp [errW_none, errW_some] <;> rfl) | (simp [*, errW_none, errW_some] <;> rfl), by repeat (first | (with_reducible first | exact HB.out | apply below_alloc | apply pw_below_drewN | apply below_drew1) | exact HB.out)⟩
    · rw [if_neg c3] at H
      have c3b0 : decide (65535 < a0) = false := decide_eq_false c3
      clear c3
      obtain ⟨y101, hy101⟩ : ∃ y_ : List Int, y_ = (([(a0 / 256) % 256, (a0) % 256] : List Int)) := ⟨_, rfl⟩
      replace H : (some (strOfNums y101)) = some r := by first | (rw [hy101]; with_reducible exact H) | (have H2_ := (Option.bind_some _ _).symm.trans H; rw [hy101]; with_reducible exact H2_) | (have H2_ := (Option.bind_some _ _).symm.trans H; with_reducible exact H2_) | with_reducible exact H | (rw [hy101]; exact H) | exact H
      have Ny101 := Aside0.mk hy101
      clear hy101
      obtain rfl := Option.some.inj H
      go_enter Try.func17, Try.ntmps17
      go_wp2_with (first | ((with_reducible refine gate_dst (N := 14) rfl ?_); refine Kd.R_lit (Kd.int .u8) _ 5 ?hg (N := 14) ?hd (xs := ([(a0 / 256) % 256, (a0) % 256] : List Int)) (inner := [.int .u8 ((a0 / 256) % 256), .int .u8 ((a0) % 256)]) (ok := fun _ => True) (okp := fun _ => True) ?hr ?hp (fun _ hk => hk) trivial (Below.refl _ _) (Nat.le_refl _) (by simp) ?_; (case hd => rfl); (case hg => rfl); (case hr => first | (go_simp; done) | (go_simp; rfl)); (case hp => exact (Reps.one (show Kd.M (Kd.int .u8) _ _ _ ((a0 / 256) % 256) [.int .u8 ((a0 / 256) % 256)] from rfl) (Reps.one (show Kd.M (Kd.int .u8) _ _ _ ((a0) % 256) [.int .u8 ((a0) % 256)] from rfl) (Reps.none _ _)))); intro v102 w4 ho5 hb hg_ hnew_; clear hg_ hnew_; (first | rw [← Ny101.out] at ho5 | (simp only [Int.reduceToNat] at ho5; rw [← Ny101.out] at ho5)); have n0_ := Aside0.mk (Kd.R_lower ho5 (below_size (by repeat (first | (with_reducible first | exact HB.out | apply below_alloc | apply pw_below_drewN | apply below_drew1) | exact HB.out)))); have n1_ := Aside0.mk (below_step (by repeat (first | (with_reducible first | exact HB.out | apply below_alloc | apply pw_below_drewN | apply below_drew1) | exact HB.out)) hb); clear HB; have HO103 := n0_; have HB := n1_; clear n0_ n1_; clear hb ho5; have hcv6 := own_string (P := Try.prog) Try.underlying27 Try.underlying5 Try.underlying9 (Kd.own_of_R HO103.out)))
      go_ret
      exact ⟨by first | rfl | (simp [errW_none, errW_some] <;> rfl) | (simp [*, errW_none, errW_some] <;> rfl), by repeat (first | (with_reducible first | exact HB.out | apply below_alloc | apply pw_below_drewN | apply below_drew1) | exact HB.out)⟩

/-! ### hagglerlaw03_awake: function 14 -/
def hagglerlaw03_awake.f (k : Nat)  : Option (Bool) := (sum_Of.f k (⟨#[49, 50, 51, 52, 53, 54, 55, 56, 57]⟩ : ByteArray)).bind fun t104 => (if t104 = 10673 then ((sum_Of.f k (⟨#[]⟩ : ByteArray)).bind fun t105 => (if t105 = 65535 then ((sum_Bytes.f 10673).bind fun t106 => (if t106.toList = ([41, 177] : List UInt8) then ((sum_Bytes.f (-1)).bind fun t107 => (if t107.toList = ([] : List UInt8) then ((sum_Bytes.f 65536).bind fun t108 => (some (t108.toList == ([] : List UInt8)))) else (some false))) else (some false))) else (some false))) else (some false))
theorem hagglerlaw03_awake.mono : ∀ k, LeO (hagglerlaw03_awake.f k ) (hagglerlaw03_awake.f (k + 1) ) := by
  intro  k
  unfold hagglerlaw03_awake.f
  repeat' first
      | (with_reducible exact sum_Of.mono _ _)
      | (with_reducible exact LeO.refl _)
      | (with_reducible exact LeO.none _)
      | (with_reducible refine LeO.ite ?_ ?_)
      | (with_reducible refine LeO.bind ?_ (fun _ => ?_))
      | exact sum_Of.mono _ _
      | exact LeO.none _
      | refine LeO.ite ?_ ?_
      | refine LeO.bind ?_ (fun _ => ?_)
set_option maxHeartbeats 8000000 in
set_option maxRecDepth 100000 in
theorem hagglerlaw03_awake.calls (k : Nat)  (r : Bool) (w : World) (h : hagglerlaw03_awake.f k  = some r) :
    Calls Try.prog 14 #[] w fun e w' => e = .returned (.bool r) ∧ Below w.heap.size w w' := by
  have HB := Aside0.mk (Below.refl w.heap.size w)
  have H : ((sum_Of.f k (⟨#[49, 50, 51, 52, 53, 54, 55, 56, 57]⟩ : ByteArray)).bind fun t104 => (if t104 = 10673 then ((sum_Of.f k (⟨#[]⟩ : ByteArray)).bind fun t105 => (if t105 = 65535 then ((sum_Bytes.f 10673).bind fun t106 => (if t106.toList = ([41, 177] : List UInt8) then ((sum_Bytes.f (-1)).bind fun t107 => (if t107.toList = ([] : List UInt8) then ((sum_Bytes.f 65536).bind fun t108 => (some (t108.toList == ([] : List UInt8)))) else (some false))) else (some false))) else (some false))) else (some false))) = some r := h
  clear h
  replace H := Option.bind_eq_some_iff.mp H
  obtain ⟨t104, A10, H⟩ := H
  replace H : (if t104 = 10673 then ((sum_Of.f k (⟨#[]⟩ : ByteArray)).bind fun t105 => (if t105 = 65535 then ((sum_Bytes.f 10673).bind fun t106 => (if t106.toList = ([41, 177] : List UInt8) then ((sum_Bytes.f (-1)).bind fun t107 => (if t107.toList = ([] : List UInt8) then ((sum_Bytes.f 65536).bind fun t108 => (some (t108.toList == ([] : List UInt8)))) else (some false))) else (some false))) else (some false))) else (some false)) = some r := H
  have A1 := Aside0.mk A10
  clear A10
  by_cases c2 : t104 = 10673
  · rw [if_pos c2] at H
    have c2b0 : (t104 == 10673) = true := beq_iff_eq.mpr c2
    have c2b1 : (t104 != 10673) = false := bne_eq_false_iff_eq.mpr c2
    clear c2
    replace H := Option.bind_eq_some_iff.mp H
    obtain ⟨t105, A30, H⟩ := H
    replace H : (if t105 = 65535 then ((sum_Bytes.f 10673).bind fun t106 => (if t106.toList = ([41, 177] : List UInt8) then ((sum_Bytes.f (-1)).bind fun t107 => (if t107.toList = ([] : List UInt8) then ((sum_Bytes.f 65536).bind fun t108 => (some (t108.toList == ([] : List UInt8)))) else (some false))) else (some false))) else (some false)) = some r := H
    have A3 := Aside0.mk A30
    clear A30
    by_cases c4 : t105 = 65535
    · rw [if_pos c4] at H
      have c4b0 : (t105 == 65535) = true := beq_iff_eq.mpr c4
      have c4b1 : (t105 != 65535) = false := bne_eq_false_iff_eq.mpr c4
      clear c4
      replace H := Option.bind_eq_some_iff.mp H
      obtain ⟨t106, A50, H⟩ := H
      replace H : (if t106.toList = ([41, 177] : List UInt8) then ((sum_Bytes.f (-1)).bind fun t107 => (if t107.toList = ([] : List UInt8) then ((sum_Bytes.f 65536).bind fun t108 => (some (t108.toList == ([] : List UInt8)))) else (some false))) else (some false)) = some r := H
      have A5 := Aside0.mk A50
      clear A50
      by_cases c6 : t106.toList = ([41, 177] : List UInt8)
      · rw [if_pos c6] at H
        have c6b0 : (t106.toList == ([41, 177] : List UInt8)) = true := beq_iff_eq.mpr c6
        have c6b1 : (t106.toList != ([41, 177] : List UInt8)) = false := bne_eq_false_iff_eq.mpr c6
        clear c6
        replace H := Option.bind_eq_some_iff.mp H
        obtain ⟨t107, A70, H⟩ := H
        replace H : (if t107.toList = ([] : List UInt8) then ((sum_Bytes.f 65536).bind fun t108 => (some (t108.toList == ([] : List UInt8)))) else (some false)) = some r := H
        have A7 := Aside0.mk A70
        clear A70
        by_cases c8 : t107.toList = ([] : List UInt8)
        · rw [if_pos c8] at H
          have c8b0 : (t107.toList == ([] : List UInt8)) = true := beq_iff_eq.mpr c8
          have c8b1 : (t107.toList != ([] : List UInt8)) = false := bne_eq_false_iff_eq.mpr c8
          clear c8
          replace H := Option.bind_eq_some_iff.mp H
          obtain ⟨t108, A90, H⟩ := H
          replace H : (some (t108.toList == ([] : List UInt8))) = some r := H
          have A9 := Aside0.mk A90
          clear A90
          obtain rfl := Option.some.inj H
          go_enter Try.func14, Try.ntmps14
          go_wp2_with (first | ((with_reducible refine gate_callee (f := 15) rfl ?_); refine goesL_ (some 1) rfl rfl Try.func15 (by kernel_rfl) rfl #[.string (⟨#[49, 50, 51, 52, 53, 54, 55, 56, 57]⟩ : ByteArray)] rfl (by (try simp only [List.map_toArray, List.map_cons, List.map_nil]); first | done | rfl | (simp only [List.length_drop, List.length_take]; rfl)) ?_; (with_reducible refine (sum_Of.calls k (⟨#[49, 50, 51, 52, 53, 54, 55, 56, 57]⟩ : ByteArray) t104 _ A1.out).mono ?_); rintro e w' ⟨rfl, ⟨nd, rfl⟩⟩; refine ⟨_, rfl, ?_⟩) | (go_at_call 15; (with_reducible refine (sum_Of.calls k (⟨#[]⟩ : ByteArray) t105 _ A3.out).mono ?_); rintro e w' ⟨rfl, ⟨nd, rfl⟩⟩) | (go_at_call 17; (with_reducible refine (sum_Bytes.calls 10673 t106 _ A5.out).mono ?_); rintro e w10 ⟨rfl, hb⟩; have n0_ := Aside0.mk (below_step (by repeat (first | (with_reducible first | exact HB.out | apply below_alloc | apply pw_below_drewN | apply below_drew1) | exact HB.out)) hb); clear HB; have HB := n0_; clear n0_; (try clear hb); (try clear hb2); (try clear hk); (try clear hi)) | (go_at_call 17; (with_reducible refine (sum_Bytes.calls (-1) t107 _ A7.out).mono ?_); rintro e w11 ⟨rfl, hb⟩; have n0_ := Aside0.mk (below_step (by repeat (first | (with_reducible first | exact HB.out | apply below_alloc | apply pw_below_drewN | apply below_drew1) | exact HB.out)) hb); clear HB; have HB := n0_; clear n0_; (try clear hb); (try clear hb2); (try clear hk); (try clear hi)) | (go_at_call 17; (with_reducible refine (sum_Bytes.calls 65536 t108 _ A9.out).mono ?_); rintro e w12 ⟨rfl, hb⟩; have n0_ := Aside0.mk (below_step (by repeat (first | (with_reducible first | exact HB.out | apply below_alloc | apply pw_below_drewN | apply below_drew1) | exact HB.out)) hb); clear HB; have HB := n0_; clear n0_; (try clear hb); (try clear hb2); (try clear hk); (try clear hi)))
          go_ret
          exact ⟨by first | rfl | (simp [errW_none, errW_some] <;> rfl) | (simp [*, errW_none, errW_some] <;> rfl), by repeat (first | (with_reducible first | exact HB.out | apply below_alloc | apply pw_below_drewN | apply below_drew1) | exact HB.out)⟩
        · rw [if_neg c8] at H
          have c8b0 : (t107.toList == ([] : List UInt8)) = false := beq_eq_false_iff_ne.mpr c8
          have c8b1 : (t107.toList != ([] : List UInt8)) = true := bne_iff_ne.mpr c8
          obtain rfl := Option.some.inj H
          go_enter Try.func14, Try.ntmps14
          go_wp2_with (first | ((with_reducible refine gate_callee (f := 15) rfl ?_); refine goesL_ (some 1) rfl rfl Try.func15 (by kernel_rfl) rfl #[.string (⟨#[49, 50, 51, 52, 53, 54, 55, 56, 57]⟩ : ByteArray)] rfl (by (try simp only [List.map_toArray, List.map_cons, List.map_nil]); first | done | rfl | (simp only [List.length_drop, List.length_take]; rfl)) ?_; (with_reducible refine (sum_Of.calls k (⟨#[49, 50, 51, 52, 53, 54, 55, 56, 57]⟩ : ByteArray) t104 _ A1.out).mono ?_); rintro e w' ⟨rfl, ⟨nd, rfl⟩⟩; refine ⟨_, rfl, ?_⟩) | (go_at_call 15; (with_reducible refine (sum_Of.calls k (⟨#[]⟩ : ByteArray) t105 _ A3.out).mono ?_); rintro e w' ⟨rfl, ⟨nd, rfl⟩⟩) | (go_at_call 17; (with_reducible refine (sum_Bytes.calls 10673 t106 _ A5.out).mono ?_); rintro e w13 ⟨rfl, hb⟩; have n0_ := Aside0.mk (below_step (by repeat (first | (with_reducible first | exact HB.out | apply below_alloc | apply pw_below_drewN | apply below_drew1) | exact HB.out)) hb); clear HB; have HB := n0_; clear n0_; (try clear hb); (try clear hb2); (try clear hk); (try clear hi)) | (go_at_call 17; (with_reducible refine (sum_Bytes.calls (-1) t107 _ A7.out).mono ?_); rintro e w14 ⟨rfl, hb⟩; have n0_ := Aside0.mk (below_step (by repeat (first | (with_reducible first | exact HB.out | apply below_alloc | apply pw_below_drewN | apply below_drew1) | exact HB.out)) hb); clear HB; have HB := n0_; clear n0_; (try clear hb); (try clear hb2); (try clear hk); (try clear hi)))
          go_ret
          exact ⟨by first | rfl | (simp [errW_none, errW_some] <;> rfl) | (simp [*, errW_none, errW_some] <;> rfl), by repeat (first | (with_reducible first | exact HB.out | apply below_alloc | apply pw_below_drewN | apply below_drew1) | exact HB.out)⟩
      · rw [if_neg c6] at H
        have c6b0 : (t106.toList == ([41, 177] : List UInt8)) = false := beq_eq_false_iff_ne.mpr c6
        have c6b1 : (t106.toList != ([41, 177] : List UInt8)) = true := bne_iff_ne.mpr c6
        obtain rfl := Option.some.inj H
        go_enter Try.func14, Try.ntmps14
        go_wp2_with (first | ((with_reducible refine gate_callee (f := 15) rfl ?_); refine goesL_ (some 1) rfl rfl Try.func15 (by kernel_rfl) rfl #[.string (⟨#[49, 50, 51, 52, 53, 54, 55, 56, 57]⟩ : ByteArray)] rfl (by (try simp only [List.map_toArray, List.map_cons, List.map_nil]); first | done | rfl | (simp only [List.length_drop, List.length_take]; rfl)) ?_; (with_reducible refine (sum_Of.calls k (⟨#[49, 50, 51, 52, 53, 54, 55, 56, 57]⟩ : ByteArray) t104 _ A1.out).mono ?_); rintro e w' ⟨rfl, ⟨nd, rfl⟩⟩; refine ⟨_, rfl, ?_⟩) | (go_at_call 15; (with_reducible refine (sum_Of.calls k (⟨#[]⟩ : ByteArray) t105 _ A3.out).mono ?_); rintro e w' ⟨rfl, ⟨nd, rfl⟩⟩) | (go_at_call 17; (with_reducible refine (sum_Bytes.calls 10673 t106 _ A5.out).mono ?_); rintro e w15 ⟨rfl, hb⟩; have n0_ := Aside0.mk (below_step (by repeat (first | (with_reducible first | exact HB.out | apply below_alloc | apply pw_below_drewN | apply below_drew1) | exact HB.out)) hb); clear HB; have HB := n0_; clear n0_; (try clear hb); (try clear hb2); (try clear hk); (try clear hi)))
        go_ret
        exact ⟨by first | rfl | (simp [errW_none, errW_some] <;> rfl) | (simp [*, errW_none, errW_some] <;> rfl), by repeat (first | (with_reducible first | exact HB.out | apply below_alloc | apply pw_below_drewN | apply below_drew1) | exact HB.out)⟩
    · rw [if_neg c4] at H
      have c4b0 : (t105 == 65535) = false := beq_eq_false_iff_ne.mpr c4
      have c4b1 : (t105 != 65535) = true := bne_iff_ne.mpr c4
      obtain rfl := Option.some.inj H
      go_enter Try.func14, Try.ntmps14
      go_wp2_with (first | ((with_reducible refine gate_callee (f := 15) rfl ?_); refine goesL_ (some 1) rfl rfl Try.func15 (by kernel_rfl) rfl #[.string (⟨#[49, 50, 51, 52, 53, 54, 55, 56, 57]⟩ : ByteArray)] rfl (by (try simp only [List.map_toArray, List.map_cons, List.map_nil]); first | done | rfl | (simp only [List.length_drop, List.length_take]; rfl)) ?_; (with_reducible refine (sum_Of.calls k (⟨#[49, 50, 51, 52, 53, 54, 55, 56, 57]⟩ : ByteArray) t104 _ A1.out).mono ?_); rintro e w' ⟨rfl, ⟨nd, rfl⟩⟩; refine ⟨_, rfl, ?_⟩) | (go_at_call 15; (with_reducible refine (sum_Of.calls k (⟨#[]⟩ : ByteArray) t105 _ A3.out).mono ?_); rintro e w' ⟨rfl, ⟨nd, rfl⟩⟩))
      go_ret
      exact ⟨by first | rfl | (simp [errW_none, errW_some] <;> rfl) | (simp [*, errW_none, errW_some] <;> rfl), by repeat (first | (with_reducible first | exact HB.out | apply below_alloc | apply pw_below_drewN | apply below_drew1) | exact HB.out)⟩
  · rw [if_neg c2] at H
    have c2b0 : (t104 == 10673) = false := beq_eq_false_iff_ne.mpr c2
    have c2b1 : (t104 != 10673) = true := bne_iff_ne.mpr c2
    obtain rfl := Option.some.inj H
    go_enter Try.func14, Try.ntmps14
    go_wp2_with (first | ((with_reducible refine gate_callee (f := 15) rfl ?_); refine goesL_ (some 1) rfl rfl Try.func15 (by kernel_rfl) rfl #[.string (⟨#[49, 50, 51, 52, 53, 54, 55, 56, 57]⟩ : ByteArray)] rfl (by (try simp only [List.map_toArray, List.map_cons, List.map_nil]); first | done | rfl | (simp only [List.length_drop, List.length_take]; rfl)) ?_; (with_reducible refine (sum_Of.calls k (⟨#[49, 50, 51, 52, 53, 54, 55, 56, 57]⟩ : ByteArray) t104 _ A1.out).mono ?_); rintro e w' ⟨rfl, ⟨nd, rfl⟩⟩; refine ⟨_, rfl, ?_⟩))
    go_ret
    exact ⟨by first | rfl | (simp [errW_none, errW_some] <;> rfl) | (simp [*, errW_none, errW_some] <;> rfl), by repeat (first | (with_reducible first | exact HB.out | apply below_alloc | apply pw_below_drewN | apply below_drew1) | exact HB.out)⟩

/-! ### hagglerlaw03_pick: function 19 -/
def hagglerlaw03_pick.f (a0 : Int) (a1 : Int) : Option (Int) := if a0 < 0 then (if a1 = 0 then (none) else (some (Int.tmod (wrap64 (-(wrap64 (a0 + 1)))) a1))) else (if a1 = 0 then (none) else (some (Int.tmod a0 a1)))
set_option maxHeartbeats 8000000 in
set_option maxRecDepth 100000 in
theorem hagglerlaw03_pick.calls (a0 : Int) (a1 : Int) (r : Int) (w : World) (h : hagglerlaw03_pick.f a0 a1 = some r) :
    Calls Try.prog 19 #[.int .i64 a0, .int .i64 a1] w fun e w' => e = .returned (.int .i64 r) ∧ Drawn0 w w' := by
  have H : (if a0 < 0 then (if a1 = 0 then (none) else (some (Int.tmod (wrap64 (-(wrap64 (a0 + 1)))) a1))) else (if a1 = 0 then (none) else (some (Int.tmod a0 a1)))) = some r := h
  clear h
  by_cases c3 : a0 < 0
  · rw [if_pos c3] at H
    have c3b0 : decide (a0 < 0) = true := decide_eq_true c3
    clear c3
    by_cases c4 : a1 = 0
    · rw [if_pos c4] at H
      exact absurd H (by simp)
    · rw [if_neg c4] at H
      have c4b0 : (a1 == 0) = false := beq_eq_false_iff_ne.mpr c4
      have c4b1 : (a1 != 0) = true := bne_iff_ne.mpr c4
      obtain rfl := Option.some.inj H
      go_enter Try.func19, Try.ntmps19
      go_wp2
      go_ret
      exact ⟨by first | rfl | (simp; done) | (simp [*]; done), by repeat (first | exact Drawn0.refl _ | apply Drawn0.step)⟩
  · rw [if_neg c3] at H
    have c3b0 : decide (a0 < 0) = false := decide_eq_false c3
    clear c3
    by_cases c5 : a1 = 0
    · rw [if_pos c5] at H
      exact absurd H (by simp)
    · rw [if_neg c5] at H
      have c5b0 : (a1 == 0) = false := beq_eq_false_iff_ne.mpr c5
      have c5b1 : (a1 != 0) = true := bne_iff_ne.mpr c5
      obtain rfl := Option.some.inj H
      go_enter Try.func19, Try.ntmps19
      go_wp2
      go_ret
      exact ⟨by first | rfl | (simp; done) | (simp [*]; done), by repeat (first | exact Drawn0.refl _ | apply Drawn0.step)⟩

/-! ### hagglerlaw03_SumLength: function 8 -/
def hagglerlaw03_SumLength.f (k : Nat) (a0 : ByteArray) (a1 : Int) (a2 : Int) : Option (Bool) := (hagglerlaw03_awake.f k).bind fun t109 => (if 0 ≤ (mn (a0.size : Int) 1000) then (if (mn (a0.size : Int) 1000) ≤ (a0.size : Int) then ((hagglerlaw03_pick.f a1 256).bind fun t110 => ((some (([(t110) % 256] : List Int) : List Int)).bind fun y111 => ((hagglerlaw03_pick.f a2 256).bind fun t114 => ((some (([(t114) % 256] : List Int) : List Int)).bind fun y115 => (if t109 = true then (if (a0.extract 0 ((mn (a0.size : Int) 1000) : Int).toNat).size + (strOfNums y111).size ≤ 9223372036854775807 then ((sum_Of.f k ((a0.extract 0 ((mn (a0.size : Int) 1000) : Int).toNat) ++ (strOfNums y111))).bind fun t118 => (if (a0.extract 0 ((mn (a0.size : Int) 1000) : Int).toNat).size + (strOfNums y115).size ≤ 9223372036854775807 then ((sum_Of.f k ((a0.extract 0 ((mn (a0.size : Int) 1000) : Int).toNat) ++ (strOfNums y115))).bind fun t119 => (if ((t118 == t119) == ((strOfNums y111).toList == (strOfNums y115).toList)) = true then ((sum_Of.f k (a0.extract 0 ((mn (a0.size : Int) 1000) : Int).toNat)).bind fun t120 => (if t120 ≥ 0 then ((sum_Of.f k (a0.extract 0 ((mn (a0.size : Int) 1000) : Int).toNat)).bind fun t121 => (if t121 ≤ 65535 then (if (strOfNums y111).size + (a0.extract 0 ((mn (a0.size : Int) 1000) : Int).toNat).size ≤ 9223372036854775807 then ((sum_Of.f k ((strOfNums y111) ++ (a0.extract 0 ((mn (a0.size : Int) 1000) : Int).toNat))).bind fun t122 => (if (strOfNums y115).size + (a0.extract 0 ((mn (a0.size : Int) 1000) : Int).toNat).size ≤ 9223372036854775807 then ((sum_Of.f k ((strOfNums y115) ++ (a0.extract 0 ((mn (a0.size : Int) 1000) : Int).toNat))).bind fun t123 => (some ((t122 == t123) == ((strOfNums y111).toList == (strOfNums y115).toList)))) else (none))) else (none)) else (some false))) else (some false))) else (some false))) else (none))) else (none)) else (some false)))))) else (none)) else (none))
theorem hagglerlaw03_SumLength.mono : ∀ a0 a1 a2 k, LeO (hagglerlaw03_SumLength.f k a0 a1 a2) (hagglerlaw03_SumLength.f (k + 1) a0 a1 a2) := by
  intro a0 a1 a2 k
  unfold hagglerlaw03_SumLength.f
  repeat' first
      | (with_reducible exact hagglerlaw03_awake.mono _)
      | (with_reducible exact sum_Of.mono _ _)
      | (with_reducible exact LeO.refl _)
      | (with_reducible exact LeO.none _)
      | (with_reducible refine LeO.ite ?_ ?_)
      | (with_reducible refine LeO.bind ?_ (fun _ => ?_))
      | exact hagglerlaw03_awake.mono _
      | exact sum_Of.mono _ _
      | exact LeO.none _
      | refine LeO.ite ?_ ?_
      | refine LeO.bind ?_ (fun _ => ?_)
set_option maxHeartbeats 8000000 in
set_option maxRecDepth 100000 in
theorem hagglerlaw03_SumLength.calls (k : Nat) (a0 : ByteArray) (a1 : Int) (a2 : Int) (r : Bool) (w : World) (h : hagglerlaw03_SumLength.f k a0 a1 a2 = some r) :
    Calls Try.prog 8 #[.string a0, .int .i64 a1, .int .i64 a2] w fun e w' => e = .returned (.bool r) ∧ Below w.heap.size w w' := by
  have HB := Aside0.mk (Below.refl w.heap.size w)
  have H : ((hagglerlaw03_awake.f k).bind fun t109 => (if 0 ≤ (mn (a0.size : Int) 1000) then (if (mn (a0.size : Int) 1000) ≤ (a0.size : Int) then ((hagglerlaw03_pick.f a1 256).bind fun t110 => ((some (([(t110) % 256] : List Int) : List Int)).bind fun y111 => ((hagglerlaw03_pick.f a2 256).bind fun t114 => ((some (([(t114) % 256] : List Int) : List Int)).bind fun y115 => (if t109 = true then (if (a0.extract 0 ((mn (a0.size : Int) 1000) : Int).toNat).size + (strOfNums y111).size ≤ 9223372036854775807 then ((sum_Of.f k ((a0.extract 0 ((mn (a0.size : Int) 1000) : Int).toNat) ++ (strOfNums y111))).bind fun t118 => (if (a0.extract 0 ((mn (a0.size : Int) 1000) : Int).toNat).size + (strOfNums y115).size ≤ 9223372036854775807 then ((sum_Of.f k ((a0.extract 0 ((mn (a0.size : Int) 1000) : Int).toNat) ++ (strOfNums y115))).bind fun t119 => (if ((t118 == t119) == ((strOfNums y111).toList == (strOfNums y115).toList)) = true then ((sum_Of.f k (a0.extract 0 ((mn (a0.size : Int) 1000) : Int).toNat)).bind fun t120 => (if t120 ≥ 0 then ((sum_Of.f k (a0.extract 0 ((mn (a0.size : Int) 1000) : Int).toNat)).bind fun t121 => (if t121 ≤ 65535 then (if (strOfNums y111).size + (a0.extract 0 ((mn (a0.size : Int) 1000) : Int).toNat).size ≤ 9223372036854775807 then ((sum_Of.f k ((strOfNums y111) ++ (a0.extract 0 ((mn (a0.size : Int) 1000) : Int).toNat))).bind fun t122 => (if (strOfNums y115).size + (a0.extract 0 ((mn (a0.size : Int) 1000) : Int).toNat).size ≤ 9223372036854775807 then ((sum_Of.f k ((strOfNums y115) ++ (a0.extract 0 ((mn (a0.size : Int) 1000) : Int).toNat))).bind fun t123 => (some ((t122 == t123) == ((strOfNums y111).toList == (strOfNums y115).toList)))) else (none))) else (none)) else (some false))) else (some false))) else (some false))) else (none))) else (none)) else (some false)))))) else (none)) else (none))) = some r := h
  clear h
  replace H := Option.bind_eq_some_iff.mp H
  obtain ⟨t109, A40, H⟩ := H
  replace H : (if 0 ≤ (mn (a0.size : Int) 1000) then (if (mn (a0.size : Int) 1000) ≤ (a0.size : Int) then ((hagglerlaw03_pick.f a1 256).bind fun t110 => ((some (([(t110) % 256] : List Int) : List Int)).bind fun y111 => ((hagglerlaw03_pick.f a2 256).bind fun t114 => ((some (([(t114) % 256] : List Int) : List Int)).bind fun y115 => (if t109 = true then (if (a0.extract 0 ((mn (a0.size : Int) 1000) : Int).toNat).size + (strOfNums y111).size ≤ 9223372036854775807 then ((sum_Of.f k ((a0.extract 0 ((mn (a0.size : Int) 1000) : Int).toNat) ++ (strOfNums y111))).bind fun t118 => (if (a0.extract 0 ((mn (a0.size : Int) 1000) : Int).toNat).size + (strOfNums y115).size ≤ 9223372036854775807 then ((sum_Of.f k ((a0.extract 0 ((mn (a0.size : Int) 1000) : Int).toNat) ++ (strOfNums y115))).bind fun t119 => (if ((t118 == t119) == ((strOfNums y111).toList == (strOfNums y115).toList)) = true then ((sum_Of.f k (a0.extract 0 ((mn (a0.size : Int) 1000) : Int).toNat)).bind fun t120 => (if t120 ≥ 0 then ((sum_Of.f k (a0.extract 0 ((mn (a0.size : Int) 1000) : Int).toNat)).bind fun t121 => (if t121 ≤ 65535 then (if (strOfNums y111).size + (a0.extract 0 ((mn (a0.size : Int) 1000) : Int).toNat).size ≤ 9223372036854775807 then ((sum_Of.f k ((strOfNums y111) ++ (a0.extract 0 ((mn (a0.size : Int) 1000) : Int).toNat))).bind fun t122 => (if (strOfNums y115).size + (a0.extract 0 ((mn (a0.size : Int) 1000) : Int).toNat).size ≤ 9223372036854775807 then ((sum_Of.f k ((strOfNums y115) ++ (a0.extract 0 ((mn (a0.size : Int) 1000) : Int).toNat))).bind fun t123 => (some ((t122 == t123) == ((strOfNums y111).toList == (strOfNums y115).toList)))) else (none))) else (none)) else (some false))) else (some false))) else (some false))) else (none))) else (none)) else (some false)))))) else (none)) else (none)) = some r := H
  have A4 := Aside0.mk A40
  clear A40
  obtain ⟨ji5, hji5⟩ : ∃ j_ : Int, (mn (a0.size : Int) 1000) = j_ := ⟨_, rfl⟩
  replace H : (if 0 ≤ (ji5) then (if (ji5) ≤ (a0.size : Int) then ((hagglerlaw03_pick.f a1 256).bind fun t110 => ((some (([(t110) % 256] : List Int) : List Int)).bind fun y111 => ((hagglerlaw03_pick.f a2 256).bind fun t114 => ((some (([(t114) % 256] : List Int) : List Int)).bind fun y115 => (if t109 = true then (if (a0.extract 0 ((ji5) : Int).toNat).size + (strOfNums y111).size ≤ 9223372036854775807 then ((sum_Of.f k ((a0.extract 0 ((ji5) : Int).toNat) ++ (strOfNums y111))).bind fun t118 => (if (a0.extract 0 ((ji5) : Int).toNat).size + (strOfNums y115).size ≤ 9223372036854775807 then ((sum_Of.f k ((a0.extract 0 ((ji5) : Int).toNat) ++ (strOfNums y115))).bind fun t119 => (if ((t118 == t119) == ((strOfNums y111).toList == (strOfNums y115).toList)) = true then ((sum_Of.f k (a0.extract 0 ((ji5) : Int).toNat)).bind fun t120 => (if t120 ≥ 0 then ((sum_Of.f k (a0.extract 0 ((ji5) : Int).toNat)).bind fun t121 => (if t121 ≤ 65535 then (if (strOfNums y111).size + (a0.extract 0 ((ji5) : Int).toNat).size ≤ 9223372036854775807 then ((sum_Of.f k ((strOfNums y111) ++ (a0.extract 0 ((ji5) : Int).toNat))).bind fun t122 => (if (strOfNums y115).size + (a0.extract 0 ((ji5) : Int).toNat).size ≤ 9223372036854775807 then ((sum_Of.f k ((strOfNums y115) ++ (a0.extract 0 ((ji5) : Int).toNat))).bind fun t123 => (some ((t122 == t123) == ((strOfNums y111).toList == (strOfNums y115).toList)))) else (none))) else (none)) else (some false))) else (some false))) else (some false))) else (none))) else (none)) else (some false)))))) else (none)) else (none)) = some r := by first | (rw [hji5] at H; exact H) | (simp only [hji5] at H ⊢; exact H)
  (try rw [hji5] at A4)
  (try (have hji5h : ji5 ≤ 1000 := by (rw [← hji5]; unfold mn; (repeat' split) <;> omega)))
  (try (have hji5g : ji5 ≤ 64 := by omega))
  (try (have hji5l : 0 ≤ ji5 := by (rw [← hji5]; unfold mn; (repeat' split) <;> omega)))
  (try (have hji5m : 0 ≤ ji5 := by omega))
  have hji5_ : (if 1000 < (a0.size : Int) then 1000 else (a0.size : Int)) = ji5 := hji5
  by_cases c6 : 0 ≤ (ji5)
  · rw [if_pos c6] at H
    have c6b0 := eq_true c6
    have c6b1 : decide (0 ≤ (ji5)) = true := decide_eq_true c6
    clear c6
    by_cases c7 : (ji5) ≤ (a0.size : Int)
    · rw [if_pos c7] at H
      have c7b0 := eq_true c7
      have c7b1 : decide ((ji5) ≤ (a0.size : Int)) = true := decide_eq_true c7
      clear c7
      replace H := Option.bind_eq_some_iff.mp H
      obtain ⟨t110, A80, H⟩ := H
      replace H : ((some (([(t110) % 256] : List Int) : List Int)).bind fun y111 => ((hagglerlaw03_pick.f a2 256).bind fun t114 => ((some (([(t114) % 256] : List Int) : List Int)).bind fun y115 => (if t109 = true then (if (a0.extract 0 ((ji5) : Int).toNat).size + (strOfNums y111).size ≤ 9223372036854775807 then ((sum_Of.f k ((a0.extract 0 ((ji5) : Int).toNat) ++ (strOfNums y111))).bind fun t118 => (if (a0.extract 0 ((ji5) : Int).toNat).size + (strOfNums y115).size ≤ 9223372036854775807 then ((sum_Of.f k ((a0.extract 0 ((ji5) : Int).toNat) ++ (strOfNums y115))).bind fun t119 => (if ((t118 == t119) == ((strOfNums y111).toList == (strOfNums y115).toList)) = true then ((sum_Of.f k (a0.extract 0 ((ji5) : Int).toNat)).bind fun t120 => (if t120 ≥ 0 then ((sum_Of.f k (a0.extract 0 ((ji5) : Int).toNat)).bind fun t121 => (if t121 ≤ 65535 then (if (strOfNums y111).size + (a0.extract 0 ((ji5) : Int).toNat).size ≤ 9223372036854775807 then ((sum_Of.f k ((strOfNums y111) ++ (a0.extract 0 ((ji5) : Int).toNat))).bind fun t122 => (if (strOfNums y115).size + (a0.extract 0 ((ji5) : Int).toNat).size ≤ 9223372036854775807 then ((sum_Of.f k ((strOfNums y115) ++ (a0.extract 0 ((ji5) : Int).toNat))).bind fun t123 => (some ((t122 == t123) == ((strOfNums y111).toList == (strOfNums y115).toList)))) else (none))) else (none)) else (some false))) else (some false))) else (some false))) else (none))) else (none)) else (some false))))) = some r := H
      have A8 := Aside0.mk A80
      clear A80
      obtain ⟨y111, hy111⟩ : ∃ y_ : List Int, y_ = (([(t110) % 256] : List Int)) := ⟨_, rfl⟩
      replace H : ((hagglerlaw03_pick.f a2 256).bind fun t114 => ((some (([(t114) % 256] : List Int) : List Int)).bind fun y115 => (if t109 = true then (if (a0.extract 0 ((ji5) : Int).toNat).size + (strOfNums y111).size ≤ 9223372036854775807 then ((sum_Of.f k ((a0.extract 0 ((ji5) : Int).toNat) ++ (strOfNums y111))).bind fun t118 => (if (a0.extract 0 ((ji5) : Int).toNat).size + (strOfNums y115).size ≤ 9223372036854775807 then ((sum_Of.f k ((a0.extract 0 ((ji5) : Int).toNat) ++ (strOfNums y115))).bind fun t119 => (if ((t118 == t119) == ((strOfNums y111).toList == (strOfNums y115).toList)) = true then ((sum_Of.f k (a0.extract 0 ((ji5) : Int).toNat)).bind fun t120 => (if t120 ≥ 0 then ((sum_Of.f k (a0.extract 0 ((ji5) : Int).toNat)).bind fun t121 => (if t121 ≤ 65535 then (if (strOfNums y111).size + (a0.extract 0 ((ji5) : Int).toNat).size ≤ 9223372036854775807 then ((sum_Of.f k ((strOfNums y111) ++ (a0.extract 0 ((ji5) : Int).toNat))).bind fun t122 => (if (strOfNums y115).size + (a0.extract 0 ((ji5) : Int).toNat).size ≤ 9223372036854775807 then ((sum_Of.f k ((strOfNums y115) ++ (a0.extract 0 ((ji5) : Int).toNat))).bind fun t123 => (some ((t122 == t123) == ((strOfNums y111).toList == (strOfNums y115).toList)))) else (none))) else (none)) else (some false))) else (some false))) else (some false))) else (none))) else (none)) else (some false)))) = some r := by first | (rw [hy111]; with_reducible exact H) | (have H2_ := (Option.bind_some _ _).symm.trans H; rw [hy111]; with_reducible exact H2_) | (have H2_ := (Option.bind_some _ _).symm.trans H; with_reducible exact H2_) | with_reducible exact H | (rw [hy111]; exact H) | exact H
      have Ny111 := Aside0.mk hy111
      clear hy111
      replace H := Option.bind_eq_some_iff.mp H
      obtain ⟨t114, A90, H⟩ := H
      replace H : ((some (([(t114) % 256] : List Int) : List Int)).bind fun y115 => (if t109 = true then (if (a0.extract 0 ((ji5) : Int).toNat).size + (strOfNums y111).size ≤ 9223372036854775807 then ((sum_Of.f k ((a0.extract 0 ((ji5) : Int).toNat) ++ (strOfNums y111))).bind fun t118 => (if (a0.extract 0 ((ji5) : Int).toNat).size + (strOfNums y115).size ≤ 9223372036854775807 then ((sum_Of.f k ((a0.extract 0 ((ji5) : Int).toNat) ++ (strOfNums y115))).bind fun t119 => (if ((t118 == t119) == ((strOfNums y111).toList == (strOfNums y115).toList)) = true then ((sum_Of.f k (a0.extract 0 ((ji5) : Int).toNat)).bind fun t120 => (if t120 ≥ 0 then ((sum_Of.f k (a0.extract 0 ((ji5) : Int).toNat)).bind fun t121 => (if t121 ≤ 65535 then (if (strOfNums y111).size + (a0.extract 0 ((ji5) : Int).toNat).size ≤ 9223372036854775807 then ((sum_Of.f k ((strOfNums y111) ++ (a0.extract 0 ((ji5) : Int).toNat))).bind fun t122 => (if (strOfNums y115).size + (a0.extract 0 ((ji5) : Int).toNat).size ≤ 9223372036854775807 then ((sum_Of.f k ((strOfNums y115) ++ (a0.extract 0 ((ji5) : Int).toNat))).bind fun t123 => (some ((t122 == t123) == ((strOfNums y111).toList == (strOfNums y115).toList)))) else (none))) else (none)) else (some false))) else (some false))) else (some false))) else (none))) else (none)) else (some false))) = some r := H
      have A9 := Aside0.mk A90
      clear A90
      obtain ⟨y115, hy115⟩ : ∃ y_ : List Int, y_ = (([(t114) % 256] : List Int)) := ⟨_, rfl⟩
      replace H : (if t109 = true then (if (a0.extract 0 ((ji5) : Int).toNat).size + (strOfNums y111).size ≤ 9223372036854775807 then ((sum_Of.f k ((a0.extract 0 ((ji5) : Int).toNat) ++ (strOfNums y111))).bind fun t118 => (if (a0.extract 0 ((ji5) : Int).toNat).size + (strOfNums y115).size ≤ 9223372036854775807 then ((sum_Of.f k ((a0.extract 0 ((ji5) : Int).toNat) ++ (strOfNums y115))).bind fun t119 => (if ((t118 == t119) == ((strOfNums y111).toList == (strOfNums y115).toList)) = true then ((sum_Of.f k (a0.extract 0 ((ji5) : Int).toNat)).bind fun t120 => (if t120 ≥ 0 then ((sum_Of.f k (a0.extract 0 ((ji5) : Int).toNat)).bind fun t121 => (if t121 ≤ 65535 then (if (strOfNums y111).size + (a0.extract 0 ((ji5) : Int).toNat).size ≤ 9223372036854775807 then ((sum_Of.f k ((strOfNums y111) ++ (a0.extract 0 ((ji5) : Int).toNat))).bind fun t122 => (if (strOfNums y115).size + (a0.extract 0 ((ji5) : Int).toNat).size ≤ 9223372036854775807 then ((sum_Of.f k ((strOfNums y115) ++ (a0.extract 0 ((ji5) : Int).toNat))).bind fun t123 => (some ((t122 == t123) == ((strOfNums y111).toList == (strOfNums y115).toList)))) else (none))) else (none)) else (some false))) else (some false))) else (some false))) else (none))) else (none)) else (some false)) = some r := by first | (rw [hy115]; with_reducible exact H) | (have H2_ := (Option.bind_some _ _).symm.trans H; rw [hy115]; with_reducible exact H2_) | (have H2_ := (Option.bind_some _ _).symm.trans H; with_reducible exact H2_) | with_reducible exact H | (rw [hy115]; exact H) | exact H
      have Ny115 := Aside0.mk hy115
      clear hy115
      by_cases c10 : t109 = true
      · subst c10
        have H1 : (if (a0.extract 0 ((ji5) : Int).toNat).size + (strOfNums y111).size ≤ 9223372036854775807 then ((sum_Of.f k ((a0.extract 0 ((ji5) : Int).toNat) ++ (strOfNums y111))).bind fun t118 => (if (a0.extract 0 ((ji5) : Int).toNat).size + (strOfNums y115).size ≤ 9223372036854775807 then ((sum_Of.f k ((a0.extract 0 ((ji5) : Int).toNat) ++ (strOfNums y115))).bind fun t119 => (if ((t118 == t119) == ((strOfNums y111).toList == (strOfNums y115).toList)) = true then ((sum_Of.f k (a0.extract 0 ((ji5) : Int).toNat)).bind fun t120 => (if t120 ≥ 0 then ((sum_Of.f k (a0.extract 0 ((ji5) : Int).toNat)).bind fun t121 => (if t121 ≤ 65535 then (if (strOfNums y111).size + (a0.extract 0 ((ji5) : Int).toNat).size ≤ 9223372036854775807 then ((sum_Of.f k ((strOfNums y111) ++ (a0.extract 0 ((ji5) : Int).toNat))).bind fun t122 => (if (strOfNums y115).size + (a0.extract 0 ((ji5) : Int).toNat).size ≤ 9223372036854775807 then ((sum_Of.f k ((strOfNums y115) ++ (a0.extract 0 ((ji5) : Int).toNat))).bind fun t123 => (some ((t122 == t123) == ((strOfNums y111).toList == (strOfNums y115).toList)))) else (none))) else (none)) else (some false))) else (some false))) else (some false))) else (none))) else (none)) = some r := by rw [if_pos rfl] at H; exact H
        clear H
        have H := H1
        clear H1
        by_cases c11 : (a0.extract 0 ((ji5) : Int).toNat).size + (strOfNums y111).size ≤ 9223372036854775807
        · rw [if_pos c11] at H
          have c11b0 := eq_true c11
          have c11b1 : decide ((a0.extract 0 ((ji5) : Int).toNat).size + (strOfNums y111).size ≤ 9223372036854775807) = true := decide_eq_true c11
          try have c11b2 : (9223372036854775807 < (a0.extract 0 ((ji5) : Int).toNat).size + (strOfNums y111).size) = False := eq_false (Nat.not_lt.2 c11)
          have c11n : (9223372036854775807 < ji5.toNat + (strOfNums y111).size) = False := eq_false (by have h_ := c11; simp only [ByteArray.size_append, ByteArray.size_extract] at h_; omega)
          replace H := Option.bind_eq_some_iff.mp H
          obtain ⟨t118, A120, H⟩ := H
          replace H : (if (a0.extract 0 ((ji5) : Int).toNat).size + (strOfNums y115).size ≤ 9223372036854775807 then ((sum_Of.f k ((a0.extract 0 ((ji5) : Int).toNat) ++ (strOfNums y115))).bind fun t119 => (if ((t118 == t119) == ((strOfNums y111).toList == (strOfNums y115).toList)) = true then ((sum_Of.f k (a0.extract 0 ((ji5) : Int).toNat)).bind fun t120 => (if t120 ≥ 0 then ((sum_Of.f k (a0.extract 0 ((ji5) : Int).toNat)).bind fun t121 => (if t121 ≤ 65535 then (if (strOfNums y111).size + (a0.extract 0 ((ji5) : Int).toNat).size ≤ 9223372036854775807 then ((sum_Of.f k ((strOfNums y111) ++ (a0.extract 0 ((ji5) : Int).toNat))).bind fun t122 => (if (strOfNums y115).size + (a0.extract 0 ((ji5) : Int).toNat).size ≤ 9223372036854775807 then ((sum_Of.f k ((strOfNums y115) ++ (a0.extract 0 ((ji5) : Int).toNat))).bind fun t123 => (some ((t122 == t123) == ((strOfNums y111).toList == (strOfNums y115).toList)))) else (none))) else (none)) else (some false))) else (some false))) else (some false))) else (none)) = some r := H
          have A12 := Aside0.mk A120
          clear A120
          by_cases c13 : (a0.extract 0 ((ji5) : Int).toNat).size + (strOfNums y115).size ≤ 9223372036854775807
          · rw [if_pos c13] at H
            have c13b0 := eq_true c13
            have c13b1 : decide ((a0.extract 0 ((ji5) : Int).toNat).size + (strOfNums y115).size ≤ 9223372036854775807) = true := decide_eq_true c13
            try have c13b2 : (9223372036854775807 < (a0.extract 0 ((ji5) : Int).toNat).size + (strOfNums y115).size) = False := eq_false (Nat.not_lt.2 c13)
            have c13n : (9223372036854775807 < ji5.toNat + (strOfNums y115).size) = False := eq_false (by have h_ := c13; simp only [ByteArray.size_append, ByteArray.size_extract] at h_; omega)
            replace H := Option.bind_eq_some_iff.mp H
            obtain ⟨t119, A140, H⟩ := H
            replace H : (if ((t118 == t119) == ((strOfNums y111).toList == (strOfNums y115).toList)) = true then ((sum_Of.f k (a0.extract 0 ((ji5) : Int).toNat)).bind fun t120 => (if t120 ≥ 0 then ((sum_Of.f k (a0.extract 0 ((ji5) : Int).toNat)).bind fun t121 => (if t121 ≤ 65535 then (if (strOfNums y111).size + (a0.extract 0 ((ji5) : Int).toNat).size ≤ 9223372036854775807 then ((sum_Of.f k ((strOfNums y111) ++ (a0.extract 0 ((ji5) : Int).toNat))).bind fun t122 => (if (strOfNums y115).size + (a0.extract 0 ((ji5) : Int).toNat).size ≤ 9223372036854775807 then ((sum_Of.f k ((strOfNums y115) ++ (a0.extract 0 ((ji5) : Int).toNat))).bind fun t123 => (some ((t122 == t123) == ((strOfNums y111).toList == (strOfNums y115).toList)))) else (none))) else (none)) else (some false))) else (some false))) else (some false)) = some r := H
            have A14 := Aside0.mk A140
            clear A140
            by_cases c15 : ((t118 == t119) == ((strOfNums y111).toList == (strOfNums y115).toList)) = true
            · rw [if_pos c15] at H
              have c15b0 : ((t118 == t119) == ((strOfNums y111).toList == (strOfNums y115).toList)) = true := c15
              (try (have c15b1 : decide ((t118 == t119) = ((strOfNums y111).toList == (strOfNums y115).toList)) = true := by simpa using c15))
              (try (have c15b2 : ((t118 == t119) == ((strOfNums y111).toList == (strOfNums y115).toList)) = true := by simpa using c15))
              clear c15
              replace H := Option.bind_eq_some_iff.mp H
              obtain ⟨t120, A160, H⟩ := H
              replace H : (if t120 ≥ 0 then ((sum_Of.f k (a0.extract 0 ((ji5) : Int).toNat)).bind fun t121 => (if t121 ≤ 65535 then (if (strOfNums y111).size + (a0.extract 0 ((ji5) : Int).toNat).size ≤ 9223372036854775807 then ((sum_Of.f k ((strOfNums y111) ++ (a0.extract 0 ((ji5) : Int).toNat))).bind fun t122 => (if (strOfNums y115).size + (a0.extract 0 ((ji5) : Int).toNat).size ≤ 9223372036854775807 then ((sum_Of.f k ((strOfNums y115) ++ (a0.extract 0 ((ji5) : Int).toNat))).bind fun t123 => (some ((t122 == t123) == ((strOfNums y111).toList == (strOfNums y115).toList)))) else (none))) else (none)) else (some false))) else (some false)) = some r := H
              have A16 := Aside0.mk A160
              clear A160
              by_cases c17 : t120 ≥ 0
              · rw [if_pos c17] at H
                have c17b0 : decide (0 ≤ t120) = true := decide_eq_true c17
                clear c17
                replace H := Option.bind_eq_some_iff.mp H
                obtain ⟨t121, A180, H⟩ := H
                replace H : (if t121 ≤ 65535 then (if (strOfNums y111).size + (a0.extract 0 ((ji5) : Int).toNat).size ≤ 9223372036854775807 then ((sum_Of.f k ((strOfNums y111) ++ (a0.extract 0 ((ji5) : Int).toNat))).bind fun t122 => (if (strOfNums y115).size + (a0.extract 0 ((ji5) : Int).toNat).size ≤ 9223372036854775807 then ((sum_Of.f k ((strOfNums y115) ++ (a0.extract 0 ((ji5) : Int).toNat))).bind fun t123 => (some ((t122 == t123) == ((strOfNums y111).toList == (strOfNums y115).toList)))) else (none))) else (none)) else (some false)) = some r := H
                have A18 := Aside0.mk A180
                clear A180
                have e_ : t120 = t121 := Option.some.inj (A16.out.symm.trans A18.out)
                subst e_
                by_cases c19 : t120 ≤ 65535
                · rw [if_pos c19] at H
                  have c19b0 : decide (t120 ≤ 65535) = true := decide_eq_true c19
                  clear c19
                  by_cases c20 : (strOfNums y111).size + (a0.extract 0 ((ji5) : Int).toNat).size ≤ 9223372036854775807
                  · rw [if_pos c20] at H
                    have c20b0 := eq_true c20
                    have c20b1 : decide ((strOfNums y111).size + (a0.extract 0 ((ji5) : Int).toNat).size ≤ 9223372036854775807) = true := decide_eq_true c20
                    try have c20b2 : (9223372036854775807 < (strOfNums y111).size + (a0.extract 0 ((ji5) : Int).toNat).size) = False := eq_false (Nat.not_lt.2 c20)
                    have c20n : (9223372036854775807 < (strOfNums y111).size + ji5.toNat) = False := eq_false (by have h_ := c20; simp only [ByteArray.size_append, ByteArray.size_extract] at h_; omega)
                    replace H := Option.bind_eq_some_iff.mp H
                    obtain ⟨t122, A210, H⟩ := H
                    replace H : (if (strOfNums y115).size + (a0.extract 0 ((ji5) : Int).toNat).size ≤ 9223372036854775807 then ((sum_Of.f k ((strOfNums y115) ++ (a0.extract 0 ((ji5) : Int).toNat))).bind fun t123 => (some ((t122 == t123) == ((strOfNums y111).toList == (strOfNums y115).toList)))) else (none)) = some r := H
                    have A21 := Aside0.mk A210
                    clear A210
                    by_cases c22 : (strOfNums y115).size + (a0.extract 0 ((ji5) : Int).toNat).size ≤ 9223372036854775807
                    · rw [if_pos c22] at H
                      have c22b0 := eq_true c22
                      have c22b1 : decide ((strOfNums y115).size + (a0.extract 0 ((ji5) : Int).toNat).size ≤ 9223372036854775807) = true := decide_eq_true c22
                      try have c22b2 : (9223372036854775807 < (strOfNums y115).size + (a0.extract 0 ((ji5) : Int).toNat).size) = False := eq_false (Nat.not_lt.2 c22)
                      have c22n : (9223372036854775807 < (strOfNums y115).size + ji5.toNat) = False := eq_false (by have h_ := c22; simp only [ByteArray.size_append, ByteArray.size_extract] at h_; omega)
                      replace H := Option.bind_eq_some_iff.mp H
                      obtain ⟨t123, A230, H⟩ := H
                      replace H : (some ((t122 == t123) == ((strOfNums y111).toList == (strOfNums y115).toList))) = some r := H
                      have A23 := Aside0.mk A230
                      clear A230
                      obtain rfl := Option.some.inj H
                      go_enter Try.func8, Try.ntmps8
                      go_wp2_with (first | ((with_reducible refine gate_callee (f := 14) rfl ?_); refine goesL_ (some 11) rfl rfl Try.func14 (by kernel_rfl) rfl #[] rfl (by (try simp only [List.map_toArray, List.map_cons, List.map_nil]); first | done | rfl | (simp only [List.length_drop, List.length_take]; rfl)) ?_; (with_reducible refine (hagglerlaw03_awake.calls k  true _ A4.out).mono ?_); rintro e w24 ⟨rfl, hb⟩; refine ⟨_, rfl, ?_⟩; have n0_ := Aside0.mk (below_step (by repeat (first | (with_reducible first | exact HB.out | apply below_alloc | apply pw_below_drewN | apply below_drew1) | exact HB.out)) hb); clear HB; have HB := n0_; clear n0_; (try clear hb); (try clear hb2); (try clear hk); (try clear hi)) | ((with_reducible refine gate_callee (f := 19) rfl ?_); refine goesL_ (some 18) rfl rfl Try.func19 (by kernel_rfl) rfl #[.int .i64 a1, .int .i64 256] rfl (by (try simp only [List.map_toArray, List.map_cons, List.map_nil]); first | done | rfl | (simp only [List.length_drop, List.length_take]; rfl)) ?_; (with_reducible refine (hagglerlaw03_pick.calls a1 256 t110 _ A8.out).mono ?_); rintro e w' ⟨rfl, ⟨nd, rfl⟩⟩; refine ⟨_, rfl, ?_⟩) | ((with_reducible refine gate_dst (N := 20) rfl ?_); refine Kd.R_lit (Kd.int .u8) _ 5 ?hg (N := 20) ?hd (xs := ([(t110) % 256] : List Int)) (inner := [.int .u8 ((t110) % 256)]) (ok := fun _ => True) (okp := fun _ => True) ?hr ?hp (fun _ hk => hk) trivial (Below.refl _ _) (Nat.le_refl _) (by simp) ?_; (case hd => rfl); (case hg => rfl); (case hr => first | (go_simp; done) | (go_simp; rfl)); (case hp => exact (Reps.one (show Kd.M (Kd.int .u8) _ _ _ ((t110) % 256) [.int .u8 ((t110) % 256)] from rfl) (Reps.none _ _))); intro v112 w25 ho26 hb hg_ hnew_; clear hg_ hnew_; (first | rw [← Ny111.out] at ho26 | (simp only [Int.reduceToNat] at ho26; rw [← Ny111.out] at ho26)); have n0_ := Aside0.mk (Kd.R_lower ho26 (below_size (by repeat (first | (with_reducible first | exact HB.out | apply below_alloc | apply pw_below_drewN | apply below_drew1) | exact HB.out)))); have n1_ := Aside0.mk (below_step (by repeat (first | (with_reducible first | exact HB.out | apply below_alloc | apply pw_below_drewN | apply below_drew1) | exact HB.out)) hb); clear HB; have HO113 := n0_; have HB := n1_; clear n0_ n1_; clear hb ho26; have hcv27 := own_string (P := Try.prog) Try.underlying27 Try.underlying5 Try.underlying9 (Kd.own_of_R HO113.out)) | ((with_reducible refine gate_callee (f := 19) rfl ?_); refine goesL_ (some 23) rfl rfl Try.func19 (by kernel_rfl) rfl #[.int .i64 a2, .int .i64 256] rfl (by (try simp only [List.map_toArray, List.map_cons, List.map_nil]); first | done | rfl | (simp only [List.length_drop, List.length_take]; rfl)) ?_; (with_reducible refine (hagglerlaw03_pick.calls a2 256 t114 _ A9.out).mono ?_); rintro e w' ⟨rfl, ⟨nd, rfl⟩⟩; refine ⟨_, rfl, ?_⟩) | ((with_reducible refine gate_dst (N := 25) rfl ?_); refine Kd.R_lit (Kd.int .u8) _ 5 ?hg (N := 25) ?hd (xs := ([(t114) % 256] : List Int)) (inner := [.int .u8 ((t114) % 256)]) (ok := fun _ => True) (okp := fun _ => True) ?hr ?hp (fun _ hk => hk) trivial (Below.refl _ _) (Nat.le_refl _) (by simp) ?_; (case hd => rfl); (case hg => rfl); (case hr => first | (go_simp; done) | (go_simp; rfl)); (case hp => exact (Reps.one (show Kd.M (Kd.int .u8) _ _ _ ((t114) % 256) [.int .u8 ((t114) % 256)] from rfl) (Reps.none _ _))); intro v116 w28 ho29 hb hg_ hnew_; clear hg_ hnew_; (first | rw [← Ny115.out] at ho29 | (simp only [Int.reduceToNat] at ho29; rw [← Ny115.out] at ho29)); have n0_ := Aside0.mk (Kd.R_elder' (by (with_reducible repeat (first | apply Kd.R_alloc | apply Kd.R_drewN | apply Kd.R_drew)); exact HO113.out) (Kd.R_base ho29) hb); have n1_ := Aside0.mk (Kd.R_lower (Kd.R_new' ho29 (Kd.R_lt (by (with_reducible repeat (first | apply Kd.R_alloc | apply Kd.R_drewN | apply Kd.R_drew)); exact HO113.out))) (below_size (by repeat (first | (with_reducible first | exact HB.out | apply below_alloc | apply pw_below_drewN | apply below_drew1) | exact HB.out)))); have n2_ := Aside0.mk (below_step (by repeat (first | (with_reducible first | exact HB.out | apply below_alloc | apply pw_below_drewN | apply below_drew1) | exact HB.out)) hb); clear HO113; clear HB; have HO113 := n0_; have HO117 := n1_; have HB := n2_; clear n0_ n1_ n2_; clear hb ho29; have hcv30 := own_string (P := Try.prog) Try.underlying27 Try.underlying5 Try.underlying9 (Kd.own_of_R HO117.out)) | (go_at_call 15; (with_reducible refine (sum_Of.calls k ((a0.extract 0 ((ji5) : Int).toNat) ++ (strOfNums y111)) t118 _ A12.out).mono ?_); rintro e w' ⟨rfl, ⟨nd, rfl⟩⟩) | (go_at_call 15; (with_reducible refine (sum_Of.calls k ((a0.extract 0 ((ji5) : Int).toNat) ++ (strOfNums y115)) t119 _ A14.out).mono ?_); rintro e w' ⟨rfl, ⟨nd, rfl⟩⟩) | (go_at_call 15; (with_reducible refine (sum_Of.calls k (a0.extract 0 ((ji5) : Int).toNat) t120 _ A16.out).mono ?_); rintro e w' ⟨rfl, ⟨nd, rfl⟩⟩) | (go_at_call 15; (with_reducible refine (sum_Of.calls k (a0.extract 0 ((ji5) : Int).toNat) t120 _ A18.out).mono ?_); rintro e w' ⟨rfl, ⟨nd, rfl⟩⟩) | (go_at_call 15; (with_reducible refine (sum_Of.calls k ((strOfNums y111) ++ (a0.extract 0 ((ji5) : Int).toNat)) t122 _ A21.out).mono ?_); rintro e w' ⟨rfl, ⟨nd, rfl⟩⟩) | (go_at_call 15; (with_reducible refine (sum_Of.calls k ((strOfNums y115) ++ (a0.extract 0 ((ji5) : Int).toNat)) t123 _ A23.out).mono ?_); rintro e w' ⟨rfl, ⟨nd, rfl⟩⟩))
                      go_ret
                      exact ⟨by first | rfl | (simp [errW_none, errW_some] <;> rfl) | (simp only [← hji5]; first | rfl | (simp [errW_none, errW_some] <;> rfl)) | (simp [*, errW_none, errW_some] <;> rfl), by repeat (first | (with_reducible first | exact HB.out | apply below_alloc | apply pw_below_drewN | apply below_drew1) | exact HB.out)⟩
                    · rw [if_neg c22] at H
                      exact absurd H (by simp)
                  · rw [if_neg c20] at H
                    exact absurd H (by simp)
                · rw [if_neg c19] at H
                  have c19b0 : decide (t120 ≤ 65535) = false := decide_eq_false c19
                  clear c19
                  obtain rfl := Option.some.inj H
                  go_enter Try.func8, Try.ntmps8
                  go_wp2_with (first | ((with_reducible refine gate_callee (f := 14) rfl ?_); refine goesL_ (some 11) rfl rfl Try.func14 (by kernel_rfl) rfl #[] rfl (by (try simp only [List.map_toArray, List.map_cons, List.map_nil]); first | done | rfl | (simp only [List.length_drop, List.length_take]; rfl)) ?_; (with_reducible refine (hagglerlaw03_awake.calls k  true _ A4.out).mono ?_); rintro e w31 ⟨rfl, hb⟩; refine ⟨_, rfl, ?_⟩; have n0_ := Aside0.mk (below_step (by repeat (first | (with_reducible first | exact HB.out | apply below_alloc | apply pw_below_drewN | apply below_drew1) | exact HB.out)) hb); clear HB; have HB := n0_; clear n0_; (try clear hb); (try clear hb2); (try clear hk); (try clear hi)) | ((with_reducible refine gate_callee (f := 19) rfl ?_); refine goesL_ (some 18) rfl rfl Try.func19 (by kernel_rfl) rfl #[.int .i64 a1, .int .i64 256] rfl (by (try simp only [List.map_toArray, List.map_cons, List.map_nil]); first | done | rfl | (simp only [List.length_drop, List.length_take]; rfl)) ?_; (with_reducible refine (hagglerlaw03_pick.calls a1 256 t110 _ A8.out).mono ?_); rintro e w' ⟨rfl, ⟨nd, rfl⟩⟩; refine ⟨_, rfl, ?_⟩) | ((with_reducible refine gate_dst (N := 20) rfl ?_); refine Kd.R_lit (Kd.int .u8) _ 5 ?hg (N := 20) ?hd (xs := ([(t110) % 256] : List Int)) (inner := [.int .u8 ((t110) % 256)]) (ok := fun _ => True) (okp := fun _ => True) ?hr ?hp (fun _ hk => hk) trivial (Below.refl _ _) (Nat.le_refl _) (by simp) ?_; (case hd => rfl); (case hg => rfl); (case hr => first | (go_simp; done) | (go_simp; rfl)); (case hp => exact (Reps.one (show Kd.M (Kd.int .u8) _ _ _ ((t110) % 256) [.int .u8 ((t110) % 256)] from rfl) (Reps.none _ _))); intro v112 w32 ho33 hb hg_ hnew_; clear hg_ hnew_; (first | rw [← Ny111.out] at ho33 | (simp only [Int.reduceToNat] at ho33; rw [← Ny111.out] at ho33)); have n0_ := Aside0.mk (Kd.R_lower ho33 (below_size (by repeat (first | (with_reducible first | exact HB.out | apply below_alloc | apply pw_below_drewN | apply below_drew1) | exact HB.out)))); have n1_ := Aside0.mk (below_step (by repeat (first | (with_reducible first | exact HB.out | apply below_alloc | apply pw_below_drewN | apply below_drew1) | exact HB.out)) hb); clear HB; have HO113 := n0_; have HB := n1_; clear n0_ n1_; clear hb ho33; have hcv34 := own_string (P := Try.prog) Try.underlying27 Try.underlying5 Try.underlying9 (Kd.own_of_R HO113.out)) | ((with_reducible refine gate_callee (f := 19) rfl ?_); refine goesL_ (some 23) rfl rfl Try.func19 (by kernel_rfl) rfl #[.int .i64 a2, .int .i64 256] rfl (by (try simp only [List.map_toArray, List.map_cons, List.map_nil]); first | done | rfl | (simp only [List.length_drop, List.length_take]; rfl)) ?_; (with_reducible refine (hagglerlaw03_pick.calls a2 256 t114 _ A9.out).mono ?_); rintro e w' ⟨rfl, ⟨nd, rfl⟩⟩; refine ⟨_, rfl, ?_⟩) | ((with_reducible refine gate_dst (N := 25) rfl ?_); refine Kd.R_lit (Kd.int .u8) _ 5 ?hg (N := 25) ?hd (xs := ([(t114) % 256] : List Int)) (inner := [.int .u8 ((t114) % 256)]) (ok := fun _ => True) (okp := fun _ => True) ?hr ?hp (fun _ hk => hk) trivial (Below.refl _ _) (Nat.le_refl _) (by simp) ?_; (case hd => rfl); (case hg => rfl); (case hr => first | (go_simp; done) | (go_simp; rfl)); (case hp => exact (Reps.one (show Kd.M (Kd.int .u8) _ _ _ ((t114) % 256) [.int .u8 ((t114) % 256)] from rfl) (Reps.none _ _))); intro v116 w35 ho36 hb hg_ hnew_; clear hg_ hnew_; (first | rw [← Ny115.out] at ho36 | (simp only [Int.reduceToNat] at ho36; rw [← Ny115.out] at ho36)); have n0_ := Aside0.mk (Kd.R_elder' (by (with_reducible repeat (first | apply Kd.R_alloc | apply Kd.R_drewN | apply Kd.R_drew)); exact HO113.out) (Kd.R_base ho36) hb); have n1_ := Aside0.mk (Kd.R_lower (Kd.R_new' ho36 (Kd.R_lt (by (with_reducible repeat (first | apply Kd.R_alloc | apply Kd.R_drewN | apply Kd.R_drew)); exact HO113.out))) (below_size (by repeat (first | (with_reducible first | exact HB.out | apply below_alloc | apply pw_below_drewN | apply below_drew1) | exact HB.out)))); have n2_ := Aside0.mk (below_step (by repeat (first | (with_reducible first | exact HB.out | apply below_alloc | apply pw_below_drewN | apply below_drew1) | exact HB.out)) hb); clear HO113; clear HB; have HO113 := n0_; have HO117 := n1_; have HB := n2_; clear n0_ n1_ n2_; clear hb ho36; have hcv37 := own_string (P := Try.prog) Try.underlying27 Try.underlying5 Try.underlying9 (Kd.own_of_R HO117.out)) | (go_at_call 15; (with_reducible refine (sum_Of.calls k ((a0.extract 0 ((ji5) : Int).toNat) ++ (strOfNums y111)) t118 _ A12.out).mono ?_); rintro e w' ⟨rfl, ⟨nd, rfl⟩⟩) | (go_at_call 15; (with_reducible refine (sum_Of.calls k ((a0.extract 0 ((ji5) : Int).toNat) ++ (strOfNums y115)) t119 _ A14.out).mono ?_); rintro e w' ⟨rfl, ⟨nd, rfl⟩⟩) | (go_at_call 15; (with_reducible refine (sum_Of.calls k (a0.extract 0 ((ji5) : Int).toNat) t120 _ A16.out).mono ?_); rintro e w' ⟨rfl, ⟨nd, rfl⟩⟩) | (go_at_call 15; (with_reducible refine (sum_Of.calls k (a0.extract 0 ((ji5) : Int).toNat) t120 _ A18.out).mono ?_); rintro e w' ⟨rfl, ⟨nd, rfl⟩⟩))
                  go_ret
                  exact ⟨by first | rfl | (simp [errW_none, errW_some] <;> rfl) | (simp only [← hji5]; first | rfl | (simp [errW_none, errW_some] <;> rfl)) | (simp [*, errW_none, errW_some] <;> rfl), by repeat (first | (with_reducible first | exact HB.out | apply below_alloc | apply pw_below_drewN | apply below_drew1) | exact HB.out)⟩
              · rw [if_neg c17] at H
                have c17b0 : decide (0 ≤ t120) = false := decide_eq_false c17
                clear c17
                obtain rfl := Option.some.inj H
                go_enter Try.func8, Try.ntmps8
                go_wp2_with (first | ((with_reducible refine gate_callee (f := 14) rfl ?_); refine goesL_ (some 11) rfl rfl Try.func14 (by kernel_rfl) rfl #[] rfl (by (try simp only [List.map_toArray, List.map_cons, List.map_nil]); first | done | rfl | (simp only [List.length_drop, List.length_take]; rfl)) ?_; (with_reducible refine (hagglerlaw03_awake.calls k  true _ A4.out).mono ?_); rintro e w38 ⟨rfl, hb⟩; refine ⟨_, rfl, ?_⟩; have n0_ := Aside0.mk (below_step (by repeat (first | (with_reducible first | exact HB.out | apply below_alloc | apply pw_below_drewN | apply below_drew1) | exact HB.out)) hb); clear HB; have HB := n0_; clear n0_; (try clear hb); (try clear hb2); (try clear hk); (try clear hi)) | ((with_reducible refine gate_callee (f := 19) rfl ?_); refine goesL_ (some 18) rfl rfl Try.func19 (by kernel_rfl) rfl #[.int .i64 a1, .int .i64 256] rfl (by (try simp only [List.map_toArray, List.map_cons, List.map_nil]); first | done | rfl | (simp only [List.length_drop, List.length_take]; rfl)) ?_; (with_reducible refine (hagglerlaw03_pick.calls a1 256 t110 _ A8.out).mono ?_); rintro e w' ⟨rfl, ⟨nd, rfl⟩⟩; refine ⟨_, rfl, ?_⟩) | ((with_reducible refine gate_dst (N := 20) rfl ?_); refine Kd.R_lit (Kd.int .u8) _ 5 ?hg (N := 20) ?hd (xs := ([(t110) % 256] : List Int)) (inner := [.int .u8 ((t110) % 256)]) (ok := fun _ => True) (okp := fun _ => True) ?hr ?hp (fun _ hk => hk) trivial (Below.refl _ _) (Nat.le_refl _) (by simp) ?_; (case hd => rfl); (case hg => rfl); (case hr => first | (go_simp; done) | (go_simp; rfl)); (case hp => exact (Reps.one (show Kd.M (Kd.int .u8) _ _ _ ((t110) % 256) [.int .u8 ((t110) % 256)] from rfl) (Reps.none _ _))); intro v112 w39 ho40 hb hg_ hnew_; clear hg_ hnew_; (first | rw [← Ny111.out] at ho40 | (simp only [Int.reduceToNat] at ho40; rw [← Ny111.out] at ho40)); have n0_ := Aside0.mk (Kd.R_lower ho40 (below_size (by repeat (first | (with_reducible first | exact HB.out | apply below_alloc | apply pw_below_drewN | apply below_drew1) | exact HB.out)))); have n1_ := Aside0.mk (below_step (by repeat (first | (with_reducible first | exact HB.out | apply below_alloc | apply pw_below_drewN | apply below_drew1) | exact HB.out)) hb); clear HB; have HO113 := n0_; have HB := n1_; clear n0_ n1_; clear hb ho40; have hcv41 := own_string (P := Try.prog) Try.underlying27 Try.underlying5 Try.underlying9 (Kd.own_of_R HO113.out)) | ((with_reducible refine gate_callee (f := 19) rfl ?_); refine goesL_ (some 23) rfl rfl Try.func19 (by kernel_rfl) rfl #[.int .i64 a2, .int .i64 256] rfl (by (try simp only [List.map_toArray, List.map_cons, List.map_nil]); first | done | rfl | (simp only [List.length_drop, List.length_take]; rfl)) ?_; (with_reducible refine (hagglerlaw03_pick.calls a2 256 t114 _ A9.out).mono ?_); rintro e w' ⟨rfl, ⟨nd, rfl⟩⟩; refine ⟨_, rfl, ?_⟩) | ((with_reducible refine gate_dst (N := 25) rfl ?_); refine Kd.R_lit (Kd.int .u8) _ 5 ?hg (N := 25) ?hd (xs := ([(t114) % 256] : List Int)) (inner := [.int .u8 ((t114) % 256)]) (ok := fun _ => True) (okp := fun _ => True) ?hr ?hp (fun _ hk => hk) trivial (Below.refl _ _) (Nat.le_refl _) (by simp) ?_; (case hd => rfl); (case hg => rfl); (case hr => first | (go_simp; done) | (go_simp; rfl)); (case hp => exact (Reps.one (show Kd.M (Kd.int .u8) _ _ _ ((t114) % 256) [.int .u8 ((t114) % 256)] from rfl) (Reps.none _ _))); intro v116 w42 ho43 hb hg_ hnew_; clear hg_ hnew_; (first | rw [← Ny115.out] at ho43 | (simp only [Int.reduceToNat] at ho43; rw [← Ny115.out] at ho43)); have n0_ := Aside0.mk (Kd.R_elder' (by (with_reducible repeat (first | apply Kd.R_alloc | apply Kd.R_drewN | apply Kd.R_drew)); exact HO113.out) (Kd.R_base ho43) hb); have n1_ := Aside0.mk (Kd.R_lower (Kd.R_new' ho43 (Kd.R_lt (by (with_reducible repeat (first | apply Kd.R_alloc | apply Kd.R_drewN | apply Kd.R_drew)); exact HO113.out))) (below_size (by repeat (first | (with_reducible first | exact HB.out | apply below_alloc | apply pw_below_drewN | apply below_drew1) | exact HB.out)))); have n2_ := Aside0.mk (below_step (by repeat (first | (with_reducible first | exact HB.out | apply below_alloc | apply pw_below_drewN | apply below_drew1) | exact HB.out)) hb); clear HO113; clear HB; have HO113 := n0_; have HO117 := n1_; have HB := n2_; clear n0_ n1_ n2_; clear hb ho43; have hcv44 := own_string (P := Try.prog) Try.underlying27 Try.underlying5 Try.underlying9 (Kd.own_of_R HO117.out)) | (go_at_call 15; (with_reducible refine (sum_Of.calls k ((a0.extract 0 ((ji5) : Int).toNat) ++ (strOfNums y111)) t118 _ A12.out).mono ?_); rintro e w' ⟨rfl, ⟨nd, rfl⟩⟩) | (go_at_call 15; (with_reducible refine (sum_Of.calls k ((a0.extract 0 ((ji5) : Int).toNat) ++ (strOfNums y115)) t119 _ A14.out).mono ?_); rintro e w' ⟨rfl, ⟨nd, rfl⟩⟩) | (go_at_call 15; (with_reducible refine (sum_Of.calls k (a0.extract 0 ((ji5) : Int).toNat) t120 _ A16.out).mono ?_); rintro e w' ⟨rfl, ⟨nd, rfl⟩⟩))
                go_ret
                exact ⟨by first | rfl | (simp [errW_none, errW_some] <;> rfl) | (simp only [← hji5]; first | rfl | (simp [errW_none, errW_some] <;> rfl)) | (simp [*, errW_none, errW_some] <;> rfl), by repeat (first | (with_reducible first | exact HB.out | apply below_alloc | apply pw_below_drewN | apply below_drew1) | exact HB.out)⟩
            · rw [if_neg c15] at H
              have c15b0 : ((t118 == t119) == ((strOfNums y111).toList == (strOfNums y115).toList)) = false := by simpa using c15
              (try (have c15b1 : decide ((t118 == t119) = ((strOfNums y111).toList == (strOfNums y115).toList)) = false := by simpa using c15))
              (try (have c15b2 : ((t118 == t119) == ((strOfNums y111).toList == (strOfNums y115).toList)) = false := by simpa using c15))
              (try (have c15b3 : ¬ ((t118 == t119) = ((strOfNums y111).toList == (strOfNums y115).toList)) := by simpa using c15))
              clear c15
              obtain rfl := Option.some.inj H
              go_enter Try.func8, Try.ntmps8
              go_wp2_with (first | ((with_reducible refine gate_callee (f := 14) rfl ?_); refine goesL_ (some 11) rfl rfl Try.func14 (by kernel_rfl) rfl #[] rfl (by (try simp only [List.map_toArray, List.map_cons, List.map_nil]); first | done | rfl | (simp only [List.length_drop, List.length_take]; rfl)) ?_; (with_reducible refine (hagglerlaw03_awake.calls k  true _ A4.out).mono ?_); rintro e w45 ⟨rfl, hb⟩; refine ⟨_, rfl, ?_⟩; have n0_ := Aside0.mk (below_step (by repeat (first | (with_reducible first | exact HB.out | apply below_alloc | apply pw_below_drewN | apply below_drew1) | exact HB.out)) hb); clear HB; have HB := n0_; clear n0_; (try clear hb); (try clear hb2); (try clear hk); (try clear hi)) | ((with_reducible refine gate_callee (f := 19) rfl ?_); refine goesL_ (some 18) rfl rfl Try.func19 (by kernel_rfl) rfl #[.int .i64 a1, .int .i64 256] rfl (by (try simp only [List.map_toArray, List.map_cons, List.map_nil]); first | done | rfl | (simp only [List.length_drop, List.length_take]; rfl)) ?_; (with_reducible refine (hagglerlaw03_pick.calls a1 256 t110 _ A8.out).mono ?_); rintro e w' ⟨rfl, ⟨nd, rfl⟩⟩; refine ⟨_, rfl, ?_⟩) | ((with_reducible refine gate_dst (N := 20) rfl ?_); refine Kd.R_lit (Kd.int .u8) _ 5 ?hg (N := 20) ?hd (xs := ([(t110) % 256] : List Int)) (inner := [.int .u8 ((t110) % 256)]) (ok := fun _ => True) (okp := fun _ => True) ?hr ?hp (fun _ hk => hk) trivial (Below.refl _ _) (Nat.le_refl _) (by simp) ?_; (case hd => rfl); (case hg => rfl); (case hr => first | (go_simp; done) | (go_simp; rfl)); (case hp => exact (Reps.one (show Kd.M (Kd.int .u8) _ _ _ ((t110) % 256) [.int .u8 ((t110) % 256)] from rfl) (Reps.none _ _))); intro v112 w46 ho47 hb hg_ hnew_; clear hg_ hnew_; (first | rw [← Ny111.out] at ho47 | (simp only [Int.reduceToNat] at ho47; rw [← Ny111.out] at ho47)); have n0_ := Aside0.mk (Kd.R_lower ho47 (below_size (by repeat (first | (with_reducible first | exact HB.out | apply below_alloc | apply pw_below_drewN | apply below_drew1) | exact HB.out)))); have n1_ := Aside0.mk (below_step (by repeat (first | (with_reducible first | exact HB.out | apply below_alloc | apply pw_below_drewN | apply below_drew1) | exact HB.out)) hb); clear HB; have HO113 := n0_; have HB := n1_; clear n0_ n1_; clear hb ho47; have hcv48 := own_string (P := Try.prog) Try.underlying27 Try.underlying5 Try.underlying9 (Kd.own_of_R HO113.out)) | ((with_reducible refine gate_callee (f := 19) rfl ?_); refine goesL_ (some 23) rfl rfl Try.func19 (by kernel_rfl) rfl #[.int .i64 a2, .int .i64 256] rfl (by (try simp only [List.map_toArray, List.map_cons, List.map_nil]); first | done | rfl | (simp only [List.length_drop, List.length_take]; rfl)) ?_; (with_reducible refine (hagglerlaw03_pick.calls a2 256 t114 _ A9.out).mono ?_); rintro e w' ⟨rfl, ⟨nd, rfl⟩⟩; refine ⟨_, rfl, ?_⟩) | ((with_reducible refine gate_dst (N := 25) rfl ?_); refine Kd.R_lit (Kd.int .u8) _ 5 ?hg (N := 25) ?hd (xs := ([(t114) % 256] : List Int)) (inner := [.int .u8 ((t114) % 256)]) (ok := fun _ => True) (okp := fun _ => True) ?hr ?hp (fun _ hk => hk) trivial (Below.refl _ _) (Nat.le_refl _) (by simp) ?_; (case hd => rfl); (case hg => rfl); (case hr => first | (go_simp; done) | (go_simp; rfl)); (case hp => exact (Reps.one (show Kd.M (Kd.int .u8) _ _ _ ((t114) % 256) [.int .u8 ((t114) % 256)] from rfl) (Reps.none _ _))); intro v116 w49 ho50 hb hg_ hnew_; clear hg_ hnew_; (first | rw [← Ny115.out] at ho50 | (simp only [Int.reduceToNat] at ho50; rw [← Ny115.out] at ho50)); have n0_ := Aside0.mk (Kd.R_elder' (by (with_reducible repeat (first | apply Kd.R_alloc | apply Kd.R_drewN | apply Kd.R_drew)); exact HO113.out) (Kd.R_base ho50) hb); have n1_ := Aside0.mk (Kd.R_lower (Kd.R_new' ho50 (Kd.R_lt (by (with_reducible repeat (first | apply Kd.R_alloc | apply Kd.R_drewN | apply Kd.R_drew)); exact HO113.out))) (below_size (by repeat (first | (with_reducible first | exact HB.out | apply below_alloc | apply pw_below_drewN | apply below_drew1) | exact HB.out)))); have n2_ := Aside0.mk (below_step (by repeat (first | (with_reducible first | exact HB.out | apply below_alloc | apply pw_below_drewN | apply below_drew1) | exact HB.out)) hb); clear HO113; clear HB; have HO113 := n0_; have HO117 := n1_; have HB := n2_; clear n0_ n1_ n2_; clear hb ho50; have hcv51 := own_string (P := Try.prog) Try.underlying27 Try.underlying5 Try.underlying9 (Kd.own_of_R HO117.out)) | (go_at_call 15; (with_reducible refine (sum_Of.calls k ((a0.extract 0 ((ji5) : Int).toNat) ++ (strOfNums y111)) t118 _ A12.out).mono ?_); rintro e w' ⟨rfl, ⟨nd, rfl⟩⟩) | (go_at_call 15; (with_reducible refine (sum_Of.calls k ((a0.extract 0 ((ji5) : Int).toNat) ++ (strOfNums y115)) t119 _ A14.out).mono ?_); rintro e w' ⟨rfl, ⟨nd, rfl⟩⟩))
              go_ret
              exact ⟨by first | rfl | (simp [errW_none, errW_some] <;> rfl) | (simp only [← hji5]; first | rfl | (simp [errW_none, errW_some] <;> rfl)) | (simp [*, errW_none, errW_some] <;> rfl), by repeat (first | (with_reducible first | exact HB.out | apply below_alloc | apply pw_below_drewN | apply below_drew1) | exact HB.out)⟩
          · rw [if_neg c13] at H
            exact absurd H (by simp)
        · rw [if_neg c11] at H
          exact absurd H (by simp)
      · replace c10 := Bool.eq_false_iff.mpr c10
        subst c10
        have H1 : (some false) = some r := by rw [if_neg (show ¬ (false = true) by decide)] at H; exact H
        clear H
        have H := H1
        clear H1
        obtain rfl := Option.some.inj H
        go_enter Try.func8, Try.ntmps8
        go_wp2_with (first | ((with_reducible refine gate_callee (f := 14) rfl ?_); refine goesL_ (some 11) rfl rfl Try.func14 (by kernel_rfl) rfl #[] rfl (by (try simp only [List.map_toArray, List.map_cons, List.map_nil]); first | done | rfl | (simp only [List.length_drop, List.length_take]; rfl)) ?_; (with_reducible refine (hagglerlaw03_awake.calls k  false _ A4.out).mono ?_); rintro e w52 ⟨rfl, hb⟩; refine ⟨_, rfl, ?_⟩; have n0_ := Aside0.mk (below_step (by repeat (first | (with_reducible first | exact HB.out | apply below_alloc | apply pw_below_drewN | apply below_drew1) | exact HB.out)) hb); clear HB; have HB := n0_; clear n0_; (try clear hb); (try clear hb2); (try clear hk); (try clear hi)) | ((with_reducible refine gate_callee (f := 19) rfl ?_); refine goesL_ (some 18) rfl rfl Try.func19 (by kernel_rfl) rfl #[.int .i64 a1, .int .i64 256] rfl (by (try simp only [List.map_toArray, List.map_cons, List.map_nil]); first | done | rfl | (simp only [List.length_drop, List.length_take]; rfl)) ?_; (with_reducible refine (hagglerlaw03_pick.calls a1 256 t110 _ A8.out).mono ?_); rintro e w' ⟨rfl, ⟨nd, rfl⟩⟩; refine ⟨_, rfl, ?_⟩) | ((with_reducible refine gate_dst (N := 20) rfl ?_); refine Kd.R_lit (Kd.int .u8) _ 5 ?hg (N := 20) ?hd (xs := ([(t110) % 256] : List Int)) (inner := [.int .u8 ((t110) % 256)]) (ok := fun _ => True) (okp := fun _ => True) ?hr ?hp (fun _ hk => hk) trivial (Below.refl _ _) (Nat.le_refl _) (by simp) ?_; (case hd => rfl); (case hg => rfl); (case hr => first | (go_simp; done) | (go_simp; rfl)); (case hp => exact (Reps.one (show Kd.M (Kd.int .u8) _ _ _ ((t110) % 256) [.int .u8 ((t110) % 256)] from rfl) (Reps.none _ _))); intro v112 w53 ho54 hb hg_ hnew_; clear hg_ hnew_; (first | rw [← Ny111.out] at ho54 | (simp only [Int.reduceToNat] at ho54; rw [← Ny111.out] at ho54)); have n0_ := Aside0.mk (Kd.R_lower ho54 (below_size (by repeat (first | (with_reducible first | exact HB.out | apply below_alloc | apply pw_below_drewN | apply below_drew1) | exact HB.out)))); have n1_ := Aside0.mk (below_step (by repeat (first | (with_reducible first | exact HB.out | apply below_alloc | apply pw_below_drewN | apply below_drew1) | exact HB.out)) hb); clear HB; have HO113 := n0_; have HB := n1_; clear n0_ n1_; clear hb ho54; have hcv55 := own_string (P := Try.prog) Try.underlying27 Try.underlying5 Try.underlying9 (Kd.own_of_R HO113.out)) | ((with_reducible refine gate_callee (f := 19) rfl ?_); refine goesL_ (some 23) rfl rfl Try.func19 (by kernel_rfl) rfl #[.int .i64 a2, .int .i64 256] rfl (by (try simp only [List.map_toArray, List.map_cons, List.map_nil]); first | done | rfl | (simp only [List.length_drop, List.length_take]; rfl)) ?_; (with_reducible refine (hagglerlaw03_pick.calls a2 256 t114 _ A9.out).mono ?_); rintro e w' ⟨rfl, ⟨nd, rfl⟩⟩; refine ⟨_, rfl, ?_⟩) | ((with_reducible refine gate_dst (N := 25) rfl ?_); refine Kd.R_lit (Kd.int .u8) _ 5 ?hg (N := 25) ?hd (xs := ([(t114) % 256] : List Int)) (inner := [.int .u8 ((t114) % 256)]) (ok := fun _ => True) (okp := fun _ => True) ?hr ?hp (fun _ hk => hk) trivial (Below.refl _ _) (Nat.le_refl _) (by simp) ?_; (case hd => rfl); (case hg => rfl); (case hr => first | (go_simp; done) | (go_simp; rfl)); (case hp => exact (Reps.one (show Kd.M (Kd.int .u8) _ _ _ ((t114) % 256) [.int .u8 ((t114) % 256)] from rfl) (Reps.none _ _))); intro v116 w56 ho57 hb hg_ hnew_; clear hg_ hnew_; (first | rw [← Ny115.out] at ho57 | (simp only [Int.reduceToNat] at ho57; rw [← Ny115.out] at ho57)); have n0_ := Aside0.mk (Kd.R_elder' (by (with_reducible repeat (first | apply Kd.R_alloc | apply Kd.R_drewN | apply Kd.R_drew)); exact HO113.out) (Kd.R_base ho57) hb); have n1_ := Aside0.mk (Kd.R_lower (Kd.R_new' ho57 (Kd.R_lt (by (with_reducible repeat (first | apply Kd.R_alloc | apply Kd.R_drewN | apply Kd.R_drew)); exact HO113.out))) (below_size (by repeat (first | (with_reducible first | exact HB.out | apply below_alloc | apply pw_below_drewN | apply below_drew1) | exact HB.out)))); have n2_ := Aside0.mk (below_step (by repeat (first | (with_reducible first | exact HB.out | apply below_alloc | apply pw_below_drewN | apply below_drew1) | exact HB.out)) hb); clear HO113; clear HB; have HO113 := n0_; have HO117 := n1_; have HB := n2_; clear n0_ n1_ n2_; clear hb ho57; have hcv58 := own_string (P := Try.prog) Try.underlying27 Try.underlying5 Try.underlying9 (Kd.own_of_R HO117.out)))
        go_ret
        exact ⟨by first | rfl | (simp [errW_none, errW_some] <;> rfl) | (simp only [← hji5]; first | rfl | (simp [errW_none, errW_some] <;> rfl)) | (simp [*, errW_none, errW_some] <;> rfl), by repeat (first | (with_reducible first | exact HB.out | apply below_alloc | apply pw_below_drewN | apply below_drew1) | exact HB.out)⟩
    · rw [if_neg c7] at H
      exact absurd H (by simp)
  · rw [if_neg c6] at H
    exact absurd H (by simp)

/-- THE ONE PURE STATEMENT of hagglerlaw03_SumLength: yours. -/
def hagglerlaw03_SumLength.Pure : Prop := ∀ (a0 : ByteArray) (a1 : Int) (a2 : Int), a0.size ≤ 140737488351232 → (Lit.int .i64 a1).wf = true → (Lit.int .i64 a2).wf = true → ∃ k, hagglerlaw03_SumLength.f k a0 a1 a2 = some true
theorem hagglerlaw03_SumLength.walk (P : hagglerlaw03_SumLength.Pure) (a0 : ByteArray) (a1 : Int) (a2 : Int) (w : World) (w0 : a0.size ≤ 140737488351232) (w1 : (Lit.int .i64 a1).wf = true) (w2 : (Lit.int .i64 a2).wf = true) :
    Calls Try.prog 8 #[.string a0, .int .i64 a1, .int .i64 a2] w fun e w' => e = .returned (.bool true) ∧ Below w.heap.size w w' := by
  obtain ⟨k, h⟩ := P a0 a1 a2 w0 w1 w2
  refine (hagglerlaw03_SumLength.calls k a0 a1 a2 true w h).mono ?_
  rintro e w' ⟨rfl, hd⟩
  exact ⟨rfl, hd⟩

end Go.Proofs.Ytjbgboaghphaeaa.OSumLength
