import Derived.Test.YtjbgboaghphaeaaOSumPartsx0
namespace Go.Proofs.Ytjbgboaghphaeaa.OSumParts
open Go.RowKit Go.Proofs.YtjbgboaghphaeaaW.PrintWords Go.Proofs.YtjbgboaghphaeaaW.PrintLast Go.Proofs.YtjbgboaghphaeaaW.PrintMore
attribute [local go_sem] max2_int min2_int max_two min_two max_three min_three max_four min_four   -- for this text's walks alone
set_option linter.unusedVariables false
set_option linter.unusedSimpArgs false

/-! ### sum_Of: function 15 -/
mutual
def sum_Of.l0 : Nat → ByteArray → Int → Int → Int → Option (Int)
  | 0, _, _, _, _ => none
  | k + 1, x0, x3, x7, x8 => if x8 < x7 then (if 0 ≤ x8 then (if x8 < (x0.size : Int) then (sum_Of.l1 k x0 (Go.bits .xor .u16 x3 (IntKind.u16.wrap ((IntKind.u16.wrap (bt x0 x8)) * 256))) x7 x8 0) else (none)) else (none)) else (some (wrap64 (x3)))
def sum_Of.l1 : Nat → ByteArray → Int → Int → Int → Int → Option (Int)
  | 0, _, _, _, _, _ => none
  | k + 1, x0, x3, x7, x8, x18 => if x18 < 8 then (if (Go.bits .and .u16 x3 32768) = 0 then (sum_Of.l1 k x0 (IntKind.u16.wrap (x3 * 2)) x7 x8 (wrap64 (x18 + 1))) else (sum_Of.l1 k x0 (Go.bits .xor .u16 (IntKind.u16.wrap (x3 * 2)) 4129) x7 x8 (wrap64 (x18 + 1)))) else (sum_Of.l0 k x0 x3 x7 (wrap64 (x8 + 1)))
end
def sum_Of.f (k : Nat) (a0 : ByteArray) : Option (Int) := sum_Of.l0 k a0 65535 (a0.size : Int) 0
theorem sum_Of.mono_l : ∀ k, (∀ y0 y1 y2 y3, LeO (sum_Of.l0 k y0 y1 y2 y3) (sum_Of.l0 (k + 1) y0 y1 y2 y3)) ∧ (∀ y0 y1 y2 y3 y4, LeO (sum_Of.l1 k y0 y1 y2 y3 y4) (sum_Of.l1 (k + 1) y0 y1 y2 y3 y4))
  | 0 => ⟨fun _ _ _ _ r h => by simp [sum_Of.l0] at h, fun _ _ _ _ _ r h => by simp [sum_Of.l1] at h⟩
  | k + 1 => by
    obtain ⟨ih0, ih1⟩ := sum_Of.mono_l k
    refine ⟨?_, ?_⟩
    · intro y0 y1 y2 y3
      unfold sum_Of.l0
      repeat' first
      | (with_reducible exact ih0 _ _ _ _)
      | (with_reducible exact ih1 _ _ _ _ _)
      | (with_reducible exact LeO.refl _)
      | (with_reducible exact LeO.none _)
      | (with_reducible refine LeO.ite ?_ ?_)
      | (with_reducible refine LeO.bind ?_ (fun _ => ?_))
      | exact ih0 _ _ _ _
      | exact ih1 _ _ _ _ _
      | exact LeO.none _
      | refine LeO.ite ?_ ?_
      | refine LeO.bind ?_ (fun _ => ?_)
    · intro y0 y1 y2 y3 y4
      unfold sum_Of.l1
      repeat' first
      | (with_reducible exact ih0 _ _ _ _)
      | (with_reducible exact ih1 _ _ _ _ _)
      | (with_reducible exact LeO.refl _)
      | (with_reducible exact LeO.none _)
      | (with_reducible refine LeO.ite ?_ ?_)
      | (with_reducible refine LeO.bind ?_ (fun _ => ?_))
      | exact ih0 _ _ _ _
      | exact ih1 _ _ _ _ _
      | exact LeO.none _
      | refine LeO.ite ?_ ?_
      | refine LeO.bind ?_ (fun _ => ?_)
theorem sum_Of.mono : ∀ a0 k, LeO (sum_Of.f k a0) (sum_Of.f (k + 1) a0) := by
  intro a0 k
  obtain ⟨ih0, ih1⟩ := sum_Of.mono_l k
  unfold sum_Of.f
  repeat' first
      | (with_reducible exact ih0 _ _ _ _)
      | (with_reducible exact ih1 _ _ _ _ _)
      | (with_reducible exact LeO.refl _)
      | (with_reducible exact LeO.none _)
      | (with_reducible refine LeO.ite ?_ ?_)
      | (with_reducible refine LeO.bind ?_ (fun _ => ?_))
      | exact ih0 _ _ _ _
      | exact ih1 _ _ _ _ _
      | exact LeO.none _
      | refine LeO.ite ?_ ?_
      | refine LeO.bind ?_ (fun _ => ?_)
set_option maxHeartbeats 8000000 in
set_option maxRecDepth 100000 in
theorem sum_Of.calls (k : Nat) (a0 : ByteArray) (r : Int) (w : World) (h : sum_Of.f k a0 = some r) :
    Calls Try.prog 15 #[.string a0] w fun e w' => e = .returned (.int .i64 r) ∧ Drawn0 w w' := by
  have H : (sum_Of.l0 k a0 65535 (a0.size : Int) 0) = some r := h
  clear h
  have H' := Aside0.mk H
  clear H
  go_enter Try.func15, Try.ntmps15
  go_wp2
  go_loopg [3, 8] k (fun kq v3 v8 w' => ∃ (x3_1 : Int) (x8_1 : Int), v3 = .int .u16 x3_1 ∧ v8 = .int .i64 x8_1 ∧ Aside0 (sum_Of.l0 kq a0 x3_1 (a0.size : Int) x8_1 = some r) ∧ Aside0 (kq ≤ k) ∧ Drawn0 w w')
  case atStart => exact ⟨(65535), (0), (by first | rfl | (simp; done) | (simp [*]; done)), (by first | rfl | (simp; done) | (simp [*]; done)), H', ⟨Nat.le_refl _⟩, by repeat (first | exact Drawn0.refl _ | apply Drawn0.step)⟩
  case round =>
    clear H'
    try clear c1
    obtain ⟨x3_1, x8_1, rfl, rfl, HA, HK1, ⟨m1, rfl⟩⟩ := hrel
    cases gk with
    | zero => exact absurd HA.out (by simp [sum_Of.l0])
    | succ k1 =>
      have H := HA.out
      clear HA
      simp only [sum_Of.l0] at H
      by_cases c2 : x8_1 < (a0.size : Int)
      · rw [if_pos c2] at H
        have c2b0 : decide (x8_1 < (a0.size : Int)) = true := decide_eq_true c2
        clear c2
        by_cases c3 : 0 ≤ x8_1
        · rw [if_pos c3] at H
          have c3b0 : decide (0 ≤ x8_1) = true := decide_eq_true c3
          clear c3
          by_cases c4 : x8_1 < (a0.size : Int)
          · rw [if_pos c4] at H
            have c4b0 : decide (x8_1 < (a0.size : Int)) = true := decide_eq_true c4
            clear c4
            have H' := Aside0.mk H
            clear H
            have p5 : 0 ≤ (x8_1 : Int) := of_decide_eq_true (by first | (with_reducible assumption) | assumption)
            have q5 : x8_1 < (a0.size : Int) := of_decide_eq_true (by first | (with_reducible assumption) | assumption)
            have hx5 := bt_at a0 x8_1
            replace p5 := eq_true p5
            replace q5 := eq_true q5
            go_wp2
            go_loopg [3, 18] k1 (fun kq v3 v18 w' => ∃ (x3_2 : Int) (x18_2 : Int), v3 = .int .u16 x3_2 ∧ v18 = .int .i64 x18_2 ∧ Aside0 (sum_Of.l1 kq a0 x3_2 (a0.size : Int) x8_1 x18_2 = some r) ∧ Aside0 (kq ≤ k1) ∧ Drawn0 w w')
            case atStart => exact ⟨(Go.bits .xor .u16 x3_1 (IntKind.u16.wrap ((IntKind.u16.wrap (bt a0 x8_1)) * 256))), (0), (by first | rfl | (simp; done) | (simp [*]; done)), (by first | rfl | (simp; done) | (simp [*]; done)), H', ⟨Nat.le_refl _⟩, by repeat (first | exact Drawn0.refl _ | apply Drawn0.step)⟩
            case round =>
              clear H'
              try clear c1
              try clear c2
              try clear c2b0
              try clear p2
              try clear c3
              try clear c3b0
              try clear c4
              try clear c4b0
              try clear p5
              try clear q5
              try clear hx5
              try clear p5
              try clear q5
              obtain ⟨x3_2, x18_2, rfl, rfl, HA, HK2, ⟨m2, rfl⟩⟩ := hrel
              cases gk with
              | zero => exact absurd HA.out (by simp [sum_Of.l1])
              | succ k2 =>
                have H := HA.out
                clear HA
                simp only [sum_Of.l1] at H
                by_cases c6 : x18_2 < 8
                · rw [if_pos c6] at H
                  have c6b0 : decide (x18_2 < 8) = true := decide_eq_true c6
                  clear c6
                  by_cases c7 : (Go.bits .and .u16 x3_2 32768) = 0
                  · rw [if_pos c7] at H
                    have c7b0 : ((Go.bits .and .u16 x3_2 32768) == 0) = true := beq_iff_eq.mpr c7
                    have c7b1 : ((Go.bits .and .u16 x3_2 32768) != 0) = false := bne_eq_false_iff_eq.mpr c7
                    clear c7
                    have H' := Aside0.mk H
                    clear H
                    go_wp2
                    go_roundg k2
                    case measure => have := HK1.out; have := HK2.out; omega
                    case rel => exact ⟨(IntKind.u16.wrap (x3_2 * 2)), (wrap64 (x18_2 + 1)), (by first | rfl | (simp; done) | (simp [*]; done)), (by first | rfl | (simp; done) | (simp [*]; done)), H', ⟨by have := HK1.out; have := HK2.out; omega⟩, by repeat (first | exact Drawn0.refl _ | apply Drawn0.step)⟩
                  · rw [if_neg c7] at H
                    have c7b0 : ((Go.bits .and .u16 x3_2 32768) == 0) = false := beq_eq_false_iff_ne.mpr c7
                    have c7b1 : ((Go.bits .and .u16 x3_2 32768) != 0) = true := bne_iff_ne.mpr c7
                    have H' := Aside0.mk H
                    clear H
                    go_wp2
                    go_roundg k2
                    case measure => have := HK1.out; have := HK2.out; omega
                    case rel => exact ⟨(Go.bits .xor .u16 (IntKind.u16.wrap (x3_2 * 2)) 4129), (wrap64 (x18_2 + 1)), (by first | rfl | (simp; done) | (simp [*]; done)), (by first | rfl | (simp; done) | (simp [*]; done)), H', ⟨by have := HK1.out; have := HK2.out; omega⟩, by repeat (first | exact Drawn0.refl _ | apply Drawn0.step)⟩
                · rw [if_neg c6] at H
                  have c6b0 : decide (x18_2 < 8) = false := decide_eq_false c6
                  clear c6
                  have H' := Aside0.mk H
                  clear H
                  go_wp2
                  go_roundg k2
                  case measure => have := HK1.out; have := HK2.out; omega
                  case rel => exact ⟨(x3_2), (wrap64 (x8_1 + 1)), (by first | rfl | (simp; done) | (simp [*]; done)), (by first | rfl | (simp; done) | (simp [*]; done)), H', ⟨by have := HK1.out; have := HK2.out; omega⟩, by repeat (first | exact Drawn0.refl _ | apply Drawn0.step)⟩
          · rw [if_neg c4] at H
            exact absurd H (by simp)
        · rw [if_neg c3] at H
          exact absurd H (by simp)
      · rw [if_neg c2] at H
        have c2b0 : decide (x8_1 < (a0.size : Int)) = false := decide_eq_false c2
        clear c2
        obtain rfl := Option.some.inj H
        go_wp2
        go_ret
        exact ⟨by first | rfl | (simp; done) | (simp [*]; done), by repeat (first | exact Drawn0.refl _ | apply Drawn0.step)⟩

/-! ### sum_Bytes: function 17 -/
def sum_Bytes.f (a0 : Int) : Option (ByteArray) := if a0 < 0 then (some (⟨#[]⟩ : ByteArray)) else (if a0 > 65535 then (some (⟨#[]⟩ : ByteArray)) else (some (strOfNums (([(a0 / 256) % 256, (a0) % 256] : List Int)))))
set_option maxHeartbeats 8000000 in
set_option maxRecDepth 100000 in
theorem sum_Bytes.calls (a0 : Int) (r : ByteArray) (w : World) (h : sum_Bytes.f a0 = some r) :
    Calls Try.prog 17 #[.int .i64 a0] w fun e w' => e = .returned (.string r) ∧ Below w.heap.size w w' := by
  have HB := Aside0.mk (Below.refl w.heap.size w)
  have H : (if a0 < 0 then (some (⟨#[]⟩ : ByteArray)) else (if a0 > 65535 then (some (⟨#[]⟩ : ByteArray)) else (some (strOfNums (([(a0 / 256) % 256, (a0) % 256] : List Int)))))) = some r := h
  clear h
  by_cases c2 : a0 < 0
  · rw [if_pos c2] at H
    have c2b0 : decide (a0 < 0) = true := decide_eq_true c2
    clear c2
    obtain rfl := Option.some.inj H
    go_enter Try.func17, Try.ntmps17
    go_wp2
    go_ret
    exact ⟨by first | rfl | (simp [errW_none, errW_some] <;> rfl) | (simp [*, errW_none, errW_some] <;> rfl), by repeat (first | (with_reducible first | exact HB.out | apply below_alloc | apply pw_below_drewN | apply below_drew1) | exact HB.out)⟩
  · rw [if_neg c2] at H
    have c2b0 : decide (a0 < 0) = false := decide_eq_false c2
    clear c2
    by_cases c3 : a0 > 65535
    · rw [if_pos c3] at H
      have c3b0 : decide (65535 < a0) = true := decide_eq_true c3
      clear c3
      obtain rfl := Option.some.inj H
      go_enter Try.func17, Try.ntmps17
      go_wp2
      go_ret
      exact ⟨by first | rfl | (simp [errW_none, errW_some] <;> rfl) | (simp [*, errW_none, errW_some] <;> rfl), by repeat (first | (with_reducible first | exact HB.out | apply below_alloc | apply pw_below_drewN | apply below_drew1) | exact HB.out)⟩
    · rw [if_neg c3] at H
      have c3b0 : decide (65535 < a0) = false := decide_eq_false c3
      clear c3
      obtain ⟨y101, hy101⟩ : ∃ y_ : List Int, y_ = (([(a0 / 256) % 256, (a0) % 256] : List Int)) := ⟨_, rfl⟩
      replace H : (some (strOfNums y101)) = some r := by first | (rw [hy101]; with_reducible exact H) | (have H2_ := (Option.bind_some _ _).symm.trans H; rw [hy101]; with_reducible exact H2_) | (have H2_ := (Option.bind_some _ _).symm.trans H; with_reducible exact H2_) | with_reducible exact H | (rw [hy101]; exact H) | exact H
      have Ny101 := Aside0.mk hy101
      clear hy101
      obtain rfl := Option.some.inj H
      go_enter Try.func17, Try.ntmps17
      go_wp2_with (first | ((with_reducible refine gate_dst (N := 14) rfl ?_); refine Kd.R_lit (Kd.int .u8) _ 5 ?hg (N := 14) ?hd (xs := ([(a0 / 256) % 256, (a0) % 256] : List Int)) (inner := [.int .u8 ((a0 / 256) % 256), .int .u8 ((a0) % 256)]) (ok := fun _ => True) (okp := fun _ => True) ?hr ?hp (fun _ hk => hk) trivial (Below.refl _ _) (Nat.le_refl _) (by simp) ?_; (case hd => rfl); (case hg => rfl); (case hr => first | (go_simp; done) | (go_simp; rfl)); (case hp => exact (Reps.one (show Kd.M (Kd.int .u8) _ _ _ ((a0 / 256) % 256) [.int .u8 ((a0 / 256) % 256)] from rfl) (Reps.one (show Kd.M (Kd.int .u8) _ _ _ ((a0) % 256) [.int .u8 ((a0) % 256)] from rfl) (Reps.none _ _)))); intro v102 w4 ho5 hb hg_ hnew_; clear hg_ hnew_; (first | rw [← Ny101.out] at ho5 | (simp only [Int.reduceToNat] at ho5; rw [← Ny101.out] at ho5)); have n0_ := Aside0.mk (Kd.R_lower ho5 (below_size (by repeat (first | (with_reducible first | exact HB.out | apply below_alloc | apply pw_below_drewN | apply below_drew1) | exact HB.out)))); have n1_ := Aside0.mk (below_step (by repeat (first | (with_reducible first | exact HB.out | apply below_alloc | apply pw_below_drewN | apply below_drew1) | exact HB.out)) hb); clear HB; have HO103 := n0_; have HB := n1_; clear n0_ n1_; clear hb ho5; have hcv6 := own_string (P := Try.prog) Try.underlying27 Try.underlying5 Try.underlying9 (Kd.own_of_R HO103.out)))
      go_ret
      exact ⟨by first | rfl | (simp [errW_none, errW_some] <;> rfl) | (simp [*, errW_none, errW_some] <;> rfl), by repeat (first | (with_reducible first | exact HB.out | apply below_alloc | apply pw_below_drewN | apply below_drew1) | exact HB.out)⟩

/-! ### hagglerlaw03_awake: function 14 -/
def hagglerlaw03_awake.f (k : Nat)  : Option (Bool) := (sum_Of.f k (⟨#[49, 50, 51, 52, 53, 54, 55, 56, 57]⟩ : ByteArray)).bind fun t104 => (if t104 = 10673 then ((sum_Of.f k (⟨#[]⟩ : ByteArray)).bind fun t105 => (if t105 = 65535 then ((sum_Bytes.f 10673).bind fun t106 => (if t106.toList = ([41, 177] : List UInt8) then ((sum_Bytes.f (-1)).bind fun t107 => (if t107.toList = ([] : List UInt8) then ((sum_Bytes.f 65536).bind fun t108 => (some (t108.toList == ([] : List UInt8)))) else (some false))) else (some false))) else (some false))) else (some false))
theorem hagglerlaw03_awake.mono : ∀ k, LeO (hagglerlaw03_awake.f k ) (hagglerlaw03_awake.f (k + 1) ) := by
  intro  k
  unfold hagglerlaw03_awake.f
  repeat' first
      | (with_reducible exact sum_Of.mono _ _)
      | (with_reducible exact LeO.refl _)
      | (with_reducible exact LeO.none _)
      | (with_reducible refine LeO.ite ?_ ?_)
      | (with_reducible refine LeO.bind ?_ (fun _ => ?_))
      | exact sum_Of.mono _ _
      | exact LeO.none _
      | refine LeO.ite ?_ ?_
      | refine LeO.bind ?_ (fun _ => ?_)
set_option maxHeartbeats 8000000 in
set_option maxRecDepth 100000 in
theorem hagglerlaw03_awake.calls (k : Nat)  (r : Bool) (w : World) (h : hagglerlaw03_awake.f k  = some r) :
    Calls Try.prog 14 #[] w fun e w' => e = .returned (.bool r) ∧ Below w.heap.size w w' := by
  have HB := Aside0.mk (Below.refl w.heap.size w)
  have H : ((sum_Of.f k (⟨#[49, 50, 51, 52, 53, 54, 55, 56, 57]⟩ : ByteArray)).bind fun t104 => (if t104 = 10673 then ((sum_Of.f k (⟨#[]⟩ : ByteArray)).bind fun t105 => (if t105 = 65535 then ((sum_Bytes.f 10673).bind fun t106 => (if t106.toList = ([41, 177] : List UInt8) then ((sum_Bytes.f (-1)).bind fun t107 => (if t107.toList = ([] : List UInt8) then ((sum_Bytes.f 65536).bind fun t108 => (some (t108.toList == ([] : List UInt8)))) else (some false))) else (some false))) else (some false))) else (some false))) = some r := h
  clear h
  replace H := Option.bind_eq_some_iff.mp H
  obtain ⟨t104, A10, H⟩ := H
  replace H : (if t104 = 10673 then ((sum_Of.f k (⟨#[]⟩ : ByteArray)).bind fun t105 => (if t105 = 65535 then ((sum_Bytes.f 10673).bind fun t106 => (if t106.toList = ([41, 177] : List UInt8) then ((sum_Bytes.f (-1)).bind fun t107 => (if t107.toList = ([] : List UInt8) then ((sum_Bytes.f 65536).bind fun t108 => (some (t108.toList == ([] : List UInt8)))) else (some false))) else (some false))) else (some false))) else (some false)) = some r := H
  have A1 := Aside0.mk A10
  clear A10
  by_cases c2 : t104 = 10673
  · rw [if_pos c2] at H
    have c2b0 : (t104 == 10673) = true := beq_iff_eq.mpr c2
    have c2b1 : (t104 != 10673) = false := bne_eq_false_iff_eq.mpr c2
    clear c2
    replace H := Option.bind_eq_some_iff.mp H
    obtain ⟨t105, A30, H⟩ := H
    replace H : (if t105 = 65535 then ((sum_Bytes.f 10673).bind fun t106 => (if t106.toList = ([41, 177] : List UInt8) then ((sum_Bytes.f (-1)).bind fun t107 => (if t107.toList = ([] : List UInt8) then ((sum_Bytes.f 65536).bind fun t108 => (some (t108.toList == ([] : List UInt8)))) else (some false))) else (some false))) else (some false)) = some r := H
    have A3 := Aside0.mk A30
    clear A30
    by_cases c4 : t105 = 65535
    · rw [if_pos c4] at H
      have c4b0 : (t105 == 65535) = true := beq_iff_eq.mpr c4
      have c4b1 : (t105 != 65535) = false := bne_eq_false_iff_eq.mpr c4
      clear c4
      replace H := Option.bind_eq_some_iff.mp H
      obtain ⟨t106, A50, H⟩ := H
      replace H : (if t106.toList = ([41, 177] : List UInt8) then ((sum_Bytes.f (-1)).bind fun t107 => (if t107.toList = ([] : List UInt8) then ((sum_Bytes.f 65536).bind fun t108 => (some (t108.toList == ([] : List UInt8)))) else (some false))) else (some false)) = some r := H
      have A5 := Aside0.mk A50
      clear A50
      by_cases c6 : t106.toList = ([41, 177] : List UInt8)
      · rw [if_pos c6] at H
        have c6b0 : (t106.toList == ([41, 177] : List UInt8)) = true := beq_iff_eq.mpr c6
        have c6b1 : (t106.toList != ([41, 177] : List UInt8)) = false := bne_eq_false_iff_eq.mpr c6
        clear c6
        replace H := Option.bind_eq_some_iff.mp H
        obtain ⟨t107, A70, H⟩ := H
        replace H : (if t107.toList = ([] : List UInt8) then ((sum_Bytes.f 65536).bind fun t108 => (some (t108.toList == ([] : List UInt8)))) else (some false)) = some r := H
        have A7 := Aside0.mk A70
        clear A70
        by_cases c8 : t107.toList = ([] : List UInt8)
        · rw [if_pos c8] at H
          have c8b0 : (t107.toList == ([] : List UInt8)) = true := beq_iff_eq.mpr c8
          have c8b1 : (t107.toList != ([] : List UInt8)) = false := bne_eq_false_iff_eq.mpr c8
          clear c8
          replace H := Option.bind_eq_some_iff.mp H
          obtain ⟨t108, A90, H⟩ := H
          replace H : (some (t108.toList == ([] : List UInt8))) = some r := H
          have A9 := Aside0.mk A90
          clear A90
          obtain rfl := Option.some.inj H
          go_enter Try.func14, Try.ntmps14
          go_wp2_with (first | ((with_reducible refine gate_callee (f := 15) rfl ?_); refine goesL_ (some 1) rfl rfl Try.func15 (by kernel_rfl) rfl #[.string (⟨#[49, 50, 51, 52, 53, 54, 55, 56, 57]⟩ : ByteArray)] rfl (by (try simp only [List.map_toArray, List.map_cons, List.map_nil]); first | done | rfl | (simp only [List.length_drop, List.length_take]; rfl)) ?_; (with_reducible refine (sum_Of.calls k (⟨#[49, 50, 51, 52, 53, 54, 55, 56, 57]⟩ : ByteArray) t104 _ A1.out).mono ?_); rintro e w' ⟨rfl, ⟨nd, rfl⟩⟩; refine ⟨_, rfl, ?_⟩) | (go_at_call 15; (with_reducible refine (sum_Of.calls k (⟨#[]⟩ : ByteArray) t105 _ A3.out).mono ?_); rintro e w' ⟨rfl, ⟨nd, rfl⟩⟩) | (go_at_call 17; (with_reducible refine (sum_Bytes.calls 10673 t106 _ A5.out).mono ?_); rintro e w10 ⟨rfl, hb⟩; have n0_ := Aside0.mk (below_step (by repeat (first | (with_reducible first | exact HB.out | apply below_alloc | apply pw_below_drewN | apply below_drew1) | exact HB.out)) hb); clear HB; have HB := n0_; clear n0_; (try clear hb); (try clear hb2); (try clear hk); (try clear hi)) | (go_at_call 17; (with_reducible refine (sum_Bytes.calls (-1) t107 _ A7.out).mono ?_); rintro e w11 ⟨rfl, hb⟩; have n0_ := Aside0.mk (below_step (by repeat (first | (with_reducible first | exact HB.out | apply below_alloc | apply pw_below_drewN | apply below_drew1) | exact HB.out)) hb); clear HB; have HB := n0_; clear n0_; (try clear hb); (try clear hb2); (try clear hk); (try clear hi)) | (go_at_call 17; (with_reducible refine (sum_Bytes.calls 65536 t108 _ A9.out).mono ?_); rintro e w12 ⟨rfl, hb⟩; have n0_ := Aside0.mk (below_step (by repeat (first | (with_reducible first | exact HB.out | apply below_alloc | apply pw_below_drewN | apply below_drew1) | exact HB.out)) hb); clear HB; have HB := n0_; clear n0_; (try clear hb); (try clear hb2); (try clear hk); (try clear hi)))
          go_ret
          exact ⟨by first | rfl | (simp [errW_none, errW_some] <;> rfl) | (simp [*, errW_none, errW_some] <;> rfl), by repeat (first | (with_reducible first | exact HB.out | apply below_alloc | apply pw_below_drewN | apply below_drew1) | exact HB.out)⟩
        · rw [if_neg c8] at H
          have c8b0 : (t107.toList == ([] : List UInt8)) = false := beq_eq_false_iff_ne.mpr c8
          have c8b1 : (t107.toList != ([] : List UInt8)) = true := bne_iff_ne.mpr c8
          obtain rfl := Option.some.inj H
          go_enter Try.func14, Try.ntmps14
          go_wp2_with (first | ((with_reducible refine gate_callee (f := 15) rfl ?_); refine goesL_ (some 1) rfl rfl Try.func15 (by kernel_rfl) rfl #[.string (⟨#[49, 50, 51, 52, 53, 54, 55, 56, 57]⟩ : ByteArray)] rfl (by (try simp only [List.map_toArray, List.map_cons, List.map_nil]); first | done | rfl | (simp only [List.length_drop, List.length_take]; rfl)) ?_; (with_reducible refine (sum_Of.calls k (⟨#[49, 50, 51, 52, 53, 54, 55, 56, 57]⟩ : ByteArray) t104 _ A1.out).mono ?_); rintro e w' ⟨rfl, ⟨nd, rfl⟩⟩; refine ⟨_, rfl, ?_⟩) | (go_at_call 15; (with_reducible refine (sum_Of.calls k (⟨#[]⟩ : ByteArray) t105 _ A3.out).mono ?_); rintro e w' ⟨rfl, ⟨nd, rfl⟩⟩) | (go_at_call 17; (with_reducible refine (sum_Bytes.calls 10673 t106 _ A5.out).mono ?_); rintro e w13 ⟨rfl, hb⟩; have n0_ := Aside0.mk (below_step (by repeat (first | (with_reducible first | exact HB.out | apply below_alloc | apply pw_below_drewN | apply below_drew1) | exact HB.out)) hb); clear HB; have HB := n0_; clear n0_; (try clear hb); (try clear hb2); (try clear hk); (try clear hi)) | (go_at_call 17; (with_reducible refine (sum_Bytes.calls (-1) t107 _ A7.out).mono ?_); rintro e w14 ⟨rfl, hb⟩; have n0_ := Aside0.mk (below_step (by repeat (first | (with_reducible first | exact HB.out | apply below_alloc | apply pw_below_drewN | apply below_drew1) | exact HB.out)) hb); clear HB; have HB := n0_; clear n0_; (try clear hb); (try clear hb2); (try clear hk); (try clear hi)))
          go_ret
          exact ⟨by first | rfl | (simp [errW_none, errW_some] <;> rfl) | (simp [*, errW_none, errW_some] <;> rfl), by repeat (first | (with_reducible first | exact HB.out | apply below_alloc | apply pw_below_drewN | apply below_drew1) | exact HB.out)⟩
      · rw [if_neg c6] at H
        have c6b0 : (t106.toList == ([41, 177] : List UInt8)) = false := beq_eq_false_iff_ne.mpr c6
        have c6b1 : (t106.toList != ([41, 177] : List UInt8)) = true := bne_iff_ne.mpr c6
        obtain rfl := Option.some.inj H
        go_enter Try.func14, Try.ntmps14
        go_wp2_with (first | ((with_reducible refine gate_callee (f := 15) rfl ?_); refine goesL_ (some 1) rfl rfl Try.func15 (by kernel_rfl) rfl #[.string (⟨#[49, 50, 51, 52, 53, 54, 55, 56, 57]⟩ : ByteArray)] rfl (by (try simp only [List.map_toArray, List.map_cons, List.map_nil]); first | done | rfl | (simp only [List.length_drop, List.length_take]; rfl)) ?_; (with_reducible refine (sum_Of.calls k (⟨#[49, 50, 51, 52, 53, 54, 55, 56, 57]⟩ : ByteArray) t104 _ A1.out).mono ?_); rintro e w' ⟨rfl, ⟨nd, rfl⟩⟩; refine ⟨_, rfl, ?_⟩) | (go_at_call 15; (with_reducible refine (sum_Of.calls k (⟨#[]⟩ : ByteArray) t105 _ A3.out).mono ?_); rintro e w' ⟨rfl, ⟨nd, rfl⟩⟩) | (go_at_call 17; (with_reducible refine (sum_Bytes.calls 10673 t106 _ A5.out).mono ?_); rintro e w15 ⟨rfl, hb⟩; have n0_ := Aside0.mk (below_step (by repeat (first | (with_reducible first | exact HB.out | apply below_alloc | apply pw_below_drewN | apply below_drew1) | exact HB.out)) hb); clear HB; have HB := n0_; clear n0_; (try clear hb); (try clear hb2); (try clear hk); (try clear hi)))
        go_ret
        exact ⟨by first | rfl | (simp [errW_none, errW_some] <;> rfl) | (simp [*, errW_none, errW_some] <;> rfl), by repeat (first | (with_reducible first | exact HB.out | apply below_alloc | apply pw_below_drewN | apply below_drew1) | exact HB.out)⟩
    · rw [if_neg c4] at H
      have c4b0 : (t105 == 65535) = false := beq_eq_false_iff_ne.mpr c4
      have c4b1 : (t105 != 65535) = true := bne_iff_ne.mpr c4
      obtain rfl := Option.some.inj H
      go_enter Try.func14, Try.ntmps14
      go_wp2_with (first | ((with_reducible refine gate_callee (f := 15) rfl ?_); refine goesL_ (some 1) rfl rfl Try.func15 (by kernel_rfl) rfl #[.string (⟨#[49, 50, 51, 52, 53, 54, 55, 56, 57]⟩ : ByteArray)] rfl (by (try simp only [List.map_toArray, List.map_cons, List.map_nil]); first | done | rfl | (simp only [List.length_drop, List.length_take]; rfl)) ?_; (with_reducible refine (sum_Of.calls k (⟨#[49, 50, 51, 52, 53, 54, 55, 56, 57]⟩ : ByteArray) t104 _ A1.out).mono ?_); rintro e w' ⟨rfl, ⟨nd, rfl⟩⟩; refine ⟨_, rfl, ?_⟩) | (go_at_call 15; (with_reducible refine (sum_Of.calls k (⟨#[]⟩ : ByteArray) t105 _ A3.out).mono ?_); rintro e w' ⟨rfl, ⟨nd, rfl⟩⟩))
      go_ret
      exact ⟨by first | rfl | (simp [errW_none, errW_some] <;> rfl) | (simp [*, errW_none, errW_some] <;> rfl), by repeat (first | (with_reducible first | exact HB.out | apply below_alloc | apply pw_below_drewN | apply below_drew1) | exact HB.out)⟩
  · rw [if_neg c2] at H
    have c2b0 : (t104 == 10673) = false := beq_eq_false_iff_ne.mpr c2
    have c2b1 : (t104 != 10673) = true := bne_iff_ne.mpr c2
    obtain rfl := Option.some.inj H
    go_enter Try.func14, Try.ntmps14
    go_wp2_with (first | ((with_reducible refine gate_callee (f := 15) rfl ?_); refine goesL_ (some 1) rfl rfl Try.func15 (by kernel_rfl) rfl #[.string (⟨#[49, 50, 51, 52, 53, 54, 55, 56, 57]⟩ : ByteArray)] rfl (by (try simp only [List.map_toArray, List.map_cons, List.map_nil]); first | done | rfl | (simp only [List.length_drop, List.length_take]; rfl)) ?_; (with_reducible refine (sum_Of.calls k (⟨#[49, 50, 51, 52, 53, 54, 55, 56, 57]⟩ : ByteArray) t104 _ A1.out).mono ?_); rintro e w' ⟨rfl, ⟨nd, rfl⟩⟩; refine ⟨_, rfl, ?_⟩))
    go_ret
    exact ⟨by first | rfl | (simp [errW_none, errW_some] <;> rfl) | (simp [*, errW_none, errW_some] <;> rfl), by repeat (first | (with_reducible first | exact HB.out | apply below_alloc | apply pw_below_drewN | apply below_drew1) | exact HB.out)⟩

/-! ### hagglerlaw03_SumParts: function 7 -/
def hagglerlaw03_SumParts.f (k : Nat) (a0 : ByteArray) (a1 : ByteArray) (a2 : ByteArray) : Option (Bool) := (hagglerlaw03_awake.f k).bind fun t109 => (if 0 ≤ (mn (a0.size : Int) 1000) then (if (mn (a0.size : Int) 1000) ≤ (a0.size : Int) then (if 0 ≤ (mn (a1.size : Int) 1000) then (if (mn (a1.size : Int) 1000) ≤ (a1.size : Int) then (if 0 ≤ (mn (a2.size : Int) 1000) then (if (mn (a2.size : Int) 1000) ≤ (a2.size : Int) then ((sum_Of.f k (a0.extract 0 ((mn (a0.size : Int) 1000) : Int).toNat)).bind fun t110 => ((sum_Bytes.f t110).bind fun t111 => (if (a0.extract 0 ((mn (a0.size : Int) 1000) : Int).toNat).size + t111.size ≤ 9223372036854775807 then ((sum_Of.f k (a1.extract 0 ((mn (a1.size : Int) 1000) : Int).toNat)).bind fun t112 => ((sum_Bytes.f t112).bind fun t113 => (if (a1.extract 0 ((mn (a1.size : Int) 1000) : Int).toNat).size + t113.size ≤ 9223372036854775807 then (if t109 = true then ((sum_Of.f k ((a0.extract 0 ((mn (a0.size : Int) 1000) : Int).toNat) ++ t111)).bind fun t114 => ((sum_Of.f k ((a1.extract 0 ((mn (a1.size : Int) 1000) : Int).toNat) ++ t113)).bind fun t115 => (if t114 = t115 then (if ((a0.extract 0 ((mn (a0.size : Int) 1000) : Int).toNat) ++ t111).size + (a2.extract 0 ((mn (a2.size : Int) 1000) : Int).toNat).size ≤ 9223372036854775807 then ((sum_Of.f k (((a0.extract 0 ((mn (a0.size : Int) 1000) : Int).toNat) ++ t111) ++ (a2.extract 0 ((mn (a2.size : Int) 1000) : Int).toNat))).bind fun t116 => (if ((a1.extract 0 ((mn (a1.size : Int) 1000) : Int).toNat) ++ t113).size + (a2.extract 0 ((mn (a2.size : Int) 1000) : Int).toNat).size ≤ 9223372036854775807 then ((sum_Of.f k (((a1.extract 0 ((mn (a1.size : Int) 1000) : Int).toNat) ++ t113) ++ (a2.extract 0 ((mn (a2.size : Int) 1000) : Int).toNat))).bind fun t117 => (if t116 = t117 then ((sum_Of.f k (a0.extract 0 ((mn (a0.size : Int) 1000) : Int).toNat)).bind fun t118 => ((sum_Of.f k (a1.extract 0 ((mn (a1.size : Int) 1000) : Int).toNat)).bind fun t119 => (if (a0.extract 0 ((mn (a0.size : Int) 1000) : Int).toNat).size + (a2.extract 0 ((mn (a2.size : Int) 1000) : Int).toNat).size ≤ 9223372036854775807 then ((sum_Of.f k ((a0.extract 0 ((mn (a0.size : Int) 1000) : Int).toNat) ++ (a2.extract 0 ((mn (a2.size : Int) 1000) : Int).toNat))).bind fun t120 => (if (a1.extract 0 ((mn (a1.size : Int) 1000) : Int).toNat).size + (a2.extract 0 ((mn (a2.size : Int) 1000) : Int).toNat).size ≤ 9223372036854775807 then ((sum_Of.f k ((a1.extract 0 ((mn (a1.size : Int) 1000) : Int).toNat) ++ (a2.extract 0 ((mn (a2.size : Int) 1000) : Int).toNat))).bind fun t121 => (some ((t118 == t119) == (t120 == t121)))) else (none))) else (none)))) else (some false))) else (none))) else (none)) else (some false)))) else (some false)) else (none)))) else (none)))) else (none)) else (none)) else (none)) else (none)) else (none)) else (none))
theorem hagglerlaw03_SumParts.mono : ∀ a0 a1 a2 k, LeO (hagglerlaw03_SumParts.f k a0 a1 a2) (hagglerlaw03_SumParts.f (k + 1) a0 a1 a2) := by
  intro a0 a1 a2 k
  unfold hagglerlaw03_SumParts.f
  repeat' first
      | (with_reducible exact hagglerlaw03_awake.mono _)
      | (with_reducible exact sum_Of.mono _ _)
      | (with_reducible exact LeO.refl _)
      | (with_reducible exact LeO.none _)
      | (with_reducible refine LeO.ite ?_ ?_)
      | (with_reducible refine LeO.bind ?_ (fun _ => ?_))
      | exact hagglerlaw03_awake.mono _
      | exact sum_Of.mono _ _
      | exact LeO.none _
      | refine LeO.ite ?_ ?_
      | refine LeO.bind ?_ (fun _ => ?_)
set_option maxHeartbeats 8000000 in
set_option maxRecDepth 100000 in
theorem hagglerlaw03_SumParts.calls (k : Nat) (a0 : ByteArray) (a1 : ByteArray) (a2 : ByteArray) (r : Bool) (w : World) (h : hagglerlaw03_SumParts.f k a0 a1 a2 = some r) :
    Calls Try.prog 7 #[.string a0, .string a1, .string a2] w fun e w' => e = .returned (.bool r) ∧ Below w.heap.size w w' := by
  have HB := Aside0.mk (Below.refl w.heap.size w)
  have H : ((hagglerlaw03_awake.f k).bind fun t109 => (if 0 ≤ (mn (a0.size : Int) 1000) then (if (mn (a0.size : Int) 1000) ≤ (a0.size : Int) then (if 0 ≤ (mn (a1.size : Int) 1000) then (if (mn (a1.size : Int) 1000) ≤ (a1.size : Int) then (if 0 ≤ (mn (a2.size : Int) 1000) then (if (mn (a2.size : Int) 1000) ≤ (a2.size : Int) then ((sum_Of.f k (a0.extract 0 ((mn (a0.size : Int) 1000) : Int).toNat)).bind fun t110 => ((sum_Bytes.f t110).bind fun t111 => (if (a0.extract 0 ((mn (a0.size : Int) 1000) : Int).toNat).size + t111.size ≤ 9223372036854775807 then ((sum_Of.f k (a1.extract 0 ((mn (a1.size : Int) 1000) : Int).toNat)).bind fun t112 => ((sum_Bytes.f t112).bind fun t113 => (if (a1.extract 0 ((mn (a1.size : Int) 1000) : Int).toNat).size + t113.size ≤ 9223372036854775807 then (if t109 = true then ((sum_Of.f k ((a0.extract 0 ((mn (a0.size : Int) 1000) : Int).toNat) ++ t111)).bind fun t114 => ((sum_Of.f k ((a1.extract 0 ((mn (a1.size : Int) 1000) : Int).toNat) ++ t113)).bind fun t115 => (if t114 = t115 then (if ((a0.extract 0 ((mn (a0.size : Int) 1000) : Int).toNat) ++ t111).size + (a2.extract 0 ((mn (a2.size : Int) 1000) : Int).toNat).size ≤ 9223372036854775807 then ((sum_Of.f k (((a0.extract 0 ((mn (a0.size : Int) 1000) : Int).toNat) ++ t111) ++ (a2.extract 0 ((mn (a2.size : Int) 1000) : Int).toNat))).bind fun t116 => (if ((a1.extract 0 ((mn (a1.size : Int) 1000) : Int).toNat) ++ t113).size + (a2.extract 0 ((mn (a2.size : Int) 1000) : Int).toNat).size ≤ 9223372036854775807 then ((sum_Of.f k (((a1.extract 0 ((mn (a1.size : Int) 1000) : Int).toNat) ++ t113) ++ (a2.extract 0 ((mn (a2.size : Int) 1000) : Int).toNat))).bind fun t117 => (if t116 = t117 then ((sum_Of.f k (a0.extract 0 ((mn (a0.size : Int) 1000) : Int).toNat)).bind fun t118 => ((sum_Of.f k (a1.extract 0 ((mn (a1.size : Int) 1000) : Int).toNat)).bind fun t119 => (if (a0.extract 0 ((mn (a0.size : Int) 1000) : Int).toNat).size + (a2.extract 0 ((mn (a2.size : Int) 1000) : Int).toNat).size ≤ 9223372036854775807 then ((sum_Of.f k ((a0.extract 0 ((mn (a0.size : Int) 1000) : Int).toNat) ++ (a2.extract 0 ((mn (a2.size : Int) 1000) : Int).toNat))).bind fun t120 => (if (a1.extract 0 ((mn (a1.size : Int) 1000) : Int).toNat).size + (a2.extract 0 ((mn (a2.size : Int) 1000) : Int).toNat).size ≤ 9223372036854775807 then ((sum_Of.f k ((a1.extract 0 ((mn (a1.size : Int) 1000) : Int).toNat) ++ (a2.extract 0 ((mn (a2.size : Int) 1000) : Int).toNat))).bind fun t121 => (some ((t118 == t119) == (t120 == t121)))) else (none))) else (none)))) else (some false))) else (none))) else (none)) else (some false)))) else (some false)) else (none)))) else (none)))) else (none)) else (none)) else (none)) else (none)) else (none)) else (none))) = some r := h
  clear h
  replace H := Option.bind_eq_some_iff.mp H
  obtain ⟨t109, A40, H⟩ := H
  replace H : (if 0 ≤ (mn (a0.size : Int) 1000) then (if (mn (a0.size : Int) 1000) ≤ (a0.size : Int) then (if 0 ≤ (mn (a1.size : Int) 1000) then (if (mn (a1.size : Int) 1000) ≤ (a1.size : Int) then (if 0 ≤ (mn (a2.size : Int) 1000) then (if (mn (a2.size : Int) 1000) ≤ (a2.size : Int) then ((sum_Of.f k (a0.extract 0 ((mn (a0.size : Int) 1000) : Int).toNat)).bind fun t110 => ((sum_Bytes.f t110).bind fun t111 => (if (a0.extract 0 ((mn (a0.size : Int) 1000) : Int).toNat).size + t111.size ≤ 9223372036854775807 then ((sum_Of.f k (a1.extract 0 ((mn (a1.size : Int) 1000) : Int).toNat)).bind fun t112 => ((sum_Bytes.f t112).bind fun t113 => (if (a1.extract 0 ((mn (a1.size : Int) 1000) : Int).toNat).size + t113.size ≤ 9223372036854775807 then (if t109 = true then ((sum_Of.f k ((a0.extract 0 ((mn (a0.size : Int) 1000) : Int).toNat) ++ t111)).bind fun t114 => ((sum_Of.f k ((a1.extract 0 ((mn (a1.size : Int) 1000) : Int).toNat) ++ t113)).bind fun t115 => (if t114 = t115 then (if ((a0.extract 0 ((mn (a0.size : Int) 1000) : Int).toNat) ++ t111).size + (a2.extract 0 ((mn (a2.size : Int) 1000) : Int).toNat).size ≤ 9223372036854775807 then ((sum_Of.f k (((a0.extract 0 ((mn (a0.size : Int) 1000) : Int).toNat) ++ t111) ++ (a2.extract 0 ((mn (a2.size : Int) 1000) : Int).toNat))).bind fun t116 => (if ((a1.extract 0 ((mn (a1.size : Int) 1000) : Int).toNat) ++ t113).size + (a2.extract 0 ((mn (a2.size : Int) 1000) : Int).toNat).size ≤ 9223372036854775807 then ((sum_Of.f k (((a1.extract 0 ((mn (a1.size : Int) 1000) : Int).toNat) ++ t113) ++ (a2.extract 0 ((mn (a2.size : Int) 1000) : Int).toNat))).bind fun t117 => (if t116 = t117 then ((sum_Of.f k (a0.extract 0 ((mn (a0.size : Int) 1000) : Int).toNat)).bind fun t118 => ((sum_Of.f k (a1.extract 0 ((mn (a1.size : Int) 1000) : Int).toNat)).bind fun t119 => (if (a0.extract 0 ((mn (a0.size : Int) 1000) : Int).toNat).size + (a2.extract 0 ((mn (a2.size : Int) 1000) : Int).toNat).size ≤ 9223372036854775807 then ((sum_Of.f k ((a0.extract 0 ((mn (a0.size : Int) 1000) : Int).toNat) ++ (a2.extract 0 ((mn (a2.size : Int) 1000) : Int).toNat))).bind fun t120 => (if (a1.extract 0 ((mn (a1.size : Int) 1000) : Int).toNat).size + (a2.extract 0 ((mn (a2.size : Int) 1000) : Int).toNat).size ≤ 9223372036854775807 then ((sum_Of.f k ((a1.extract 0 ((mn (a1.size : Int) 1000) : Int).toNat) ++ (a2.extract 0 ((mn (a2.size : Int) 1000) : Int).toNat))).bind fun t121 => (some ((t118 == t119) == (t120 == t121)))) else (none))) else (none)))) else (some false))) else (none))) else (none)) else (some false)))) else (some false)) else (none)))) else (none)))) else (none)) else (none)) else (none)) else (none)) else (none)) else (none)) = some r := H
  have A4 := Aside0.mk A40
  clear A40
  obtain ⟨ji5, hji5⟩ : ∃ j_ : Int, (mn (a0.size : Int) 1000) = j_ := ⟨_, rfl⟩
  replace H : (if 0 ≤ (ji5) then (if (ji5) ≤ (a0.size : Int) then (if 0 ≤ (mn (a1.size : Int) 1000) then (if (mn (a1.size : Int) 1000) ≤ (a1.size : Int) then (if 0 ≤ (mn (a2.size : Int) 1000) then (if (mn (a2.size : Int) 1000) ≤ (a2.size : Int) then ((sum_Of.f k (a0.extract 0 ((ji5) : Int).toNat)).bind fun t110 => ((sum_Bytes.f t110).bind fun t111 => (if (a0.extract 0 ((ji5) : Int).toNat).size + t111.size ≤ 9223372036854775807 then ((sum_Of.f k (a1.extract 0 ((mn (a1.size : Int) 1000) : Int).toNat)).bind fun t112 => ((sum_Bytes.f t112).bind fun t113 => (if (a1.extract 0 ((mn (a1.size : Int) 1000) : Int).toNat).size + t113.size ≤ 9223372036854775807 then (if t109 = true then ((sum_Of.f k ((a0.extract 0 ((ji5) : Int).toNat) ++ t111)).bind fun t114 => ((sum_Of.f k ((a1.extract 0 ((mn (a1.size : Int) 1000) : Int).toNat) ++ t113)).bind fun t115 => (if t114 = t115 then (if ((a0.extract 0 ((ji5) : Int).toNat) ++ t111).size + (a2.extract 0 ((mn (a2.size : Int) 1000) : Int).toNat).size ≤ 9223372036854775807 then ((sum_Of.f k (((a0.extract 0 ((ji5) : Int).toNat) ++ t111) ++ (a2.extract 0 ((mn (a2.size : Int) 1000) : Int).toNat))).bind fun t116 => (if ((a1.extract 0 ((mn (a1.size : Int) 1000) : Int).toNat) ++ t113).size + (a2.extract 0 ((mn (a2.size : Int) 1000) : Int).toNat).size ≤ 9223372036854775807 then ((sum_Of.f k (((a1.extract 0 ((mn (a1.size : Int) 1000) : Int).toNat) ++ t113) ++ (a2.extract 0 ((mn (a2.size : Int) 1000) : Int).toNat))).bind fun t117 => (if t116 = t117 then ((sum_Of.f k (a0.extract 0 ((ji5) : Int).toNat)).bind fun t118 => ((sum_Of.f k (a1.extract 0 ((mn (a1.size : Int) 1000) : Int).toNat)).bind fun t119 => (if (a0.extract 0 ((ji5) : Int).toNat).size + (a2.extract 0 ((mn (a2.size : Int) 1000) : Int).toNat).size ≤ 9223372036854775807 then ((sum_Of.f k ((a0.extract 0 ((ji5) : Int).toNat) ++ (a2.extract 0 ((mn (a2.size : Int) 1000) : Int).toNat))).bind fun t120 => (if (a1.extract 0 ((mn (a1.size : Int) 1000) : Int).toNat).size + (a2.extract 0 ((mn (a2.size : Int) 1000) : Int).toNat).size ≤ 9223372036854775807 then ((sum_Of.f k ((a1.extract 0 ((mn (a1.size : Int) 1000) : Int).toNat) ++ (a2.extract 0 ((mn (a2.size : Int) 1000) : Int).toNat))).bind fun t121 => (some ((t118 == t119) == (t120 == t121)))) else (none))) else (none)))) else (some false))) else (none))) else (none)) else (some false)))) else (some false)) else (none)))) else (none)))) else (none)) else (none)) else (none)) else (none)) else (none)) else (none)) = some r := by first | (rw [hji5] at H; exact H) | (simp only [hji5] at H ⊢; exact H)
  (try rw [hji5] at A4)
  (try (have hji5h : ji5 ≤ 1000 := by (rw [← hji5]; unfold mn; (repeat' split) <;> omega)))
  (try (have hji5g : ji5 ≤ 64 := by omega))
  (try (have hji5l : 0 ≤ ji5 := by (rw [← hji5]; unfold mn; (repeat' split) <;> omega)))
  (try (have hji5m : 0 ≤ ji5 := by omega))
  have hji5_ : (if 1000 < (a0.size : Int) then 1000 else (a0.size : Int)) = ji5 := hji5
  by_cases c6 : 0 ≤ (ji5)
  · rw [if_pos c6] at H
    have c6b0 := eq_true c6
    have c6b1 : decide (0 ≤ (ji5)) = true := decide_eq_true c6
    clear c6
    by_cases c7 : (ji5) ≤ (a0.size : Int)
    · rw [if_pos c7] at H
      have c7b0 := eq_true c7
      have c7b1 : decide ((ji5) ≤ (a0.size : Int)) = true := decide_eq_true c7
      clear c7
      obtain ⟨ji8, hji8⟩ : ∃ j_ : Int, (mn (a1.size : Int) 1000) = j_ := ⟨_, rfl⟩
      replace H : (if 0 ≤ (ji8) then (if (ji8) ≤ (a1.size : Int) then (if 0 ≤ (mn (a2.size : Int) 1000) then (if (mn (a2.size : Int) 1000) ≤ (a2.size : Int) then ((sum_Of.f k (a0.extract 0 ((ji5) : Int).toNat)).bind fun t110 => ((sum_Bytes.f t110).bind fun t111 => (if (a0.extract 0 ((ji5) : Int).toNat).size + t111.size ≤ 9223372036854775807 then ((sum_Of.f k (a1.extract 0 ((ji8) : Int).toNat)).bind fun t112 => ((sum_Bytes.f t112).bind fun t113 => (if (a1.extract 0 ((ji8) : Int).toNat).size + t113.size ≤ 9223372036854775807 then (if t109 = true then ((sum_Of.f k ((a0.extract 0 ((ji5) : Int).toNat) ++ t111)).bind fun t114 => ((sum_Of.f k ((a1.extract 0 ((ji8) : Int).toNat) ++ t113)).bind fun t115 => (if t114 = t115 then (if ((a0.extract 0 ((ji5) : Int).toNat) ++ t111).size + (a2.extract 0 ((mn (a2.size : Int) 1000) : Int).toNat).size ≤ 9223372036854775807 then ((sum_Of.f k (((a0.extract 0 ((ji5) : Int).toNat) ++ t111) ++ (a2.extract 0 ((mn (a2.size : Int) 1000) : Int).toNat))).bind fun t116 => (if ((a1.extract 0 ((ji8) : Int).toNat) ++ t113).size + (a2.extract 0 ((mn (a2.size : Int) 1000) : Int).toNat).size ≤ 9223372036854775807 then ((sum_Of.f k (((a1.extract 0 ((ji8) : Int).toNat) ++ t113) ++ (a2.extract 0 ((mn (a2.size : Int) 1000) : Int).toNat))).bind fun t117 => (if t116 = t117 then ((sum_Of.f k (a0.extract 0 ((ji5) : Int).toNat)).bind fun t118 => ((sum_Of.f k (a1.extract 0 ((ji8) : Int).toNat)).bind fun t119 => (if (a0.extract 0 ((ji5) : Int).toNat).size + (a2.extract 0 ((mn (a2.size : Int) 1000) : Int).toNat).size ≤ 9223372036854775807 then ((sum_Of.f k ((a0.extract 0 ((ji5) : Int).toNat) ++ (a2.extract 0 ((mn (a2.size : Int) 1000) : Int).toNat))).bind fun t120 => (if (a1.extract 0 ((ji8) : Int).toNat).size + (a2.extract 0 ((mn (a2.size : Int) 1000) : Int).toNat).size ≤ 9223372036854775807 then ((sum_Of.f k ((a1.extract 0 ((ji8) : Int).toNat) ++ (a2.extract 0 ((mn (a2.size : Int) 1000) : Int).toNat))).bind fun t121 => (some ((t118 == t119) == (t120 == t121)))) else (none))) else (none)))) else (some false))) else (none))) else (none)) else (some false)))) else (some false)) else (none)))) else (none)))) else (none)) else (none)) else (none)) else (none)) = some r := by first | (rw [hji8] at H; exact H) | (simp only [hji8] at H ⊢; exact H)
      (try rw [hji8] at A4)
      (try (have hji8h : ji8 ≤ 1000 := by (rw [← hji8]; unfold mn; (repeat' split) <;> omega)))
      (try (have hji8g : ji8 ≤ 64 := by omega))
      (try (have hji8l : 0 ≤ ji8 := by (rw [← hji8]; unfold mn; (repeat' split) <;> omega)))
      (try (have hji8m : 0 ≤ ji8 := by omega))
      have hji8_ : (if 1000 < (a1.size : Int) then 1000 else (a1.size : Int)) = ji8 := hji8
      by_cases c9 : 0 ≤ (ji8)
      · rw [if_pos c9] at H
        have c9b0 := eq_true c9
        have c9b1 : decide (0 ≤ (ji8)) = true := decide_eq_true c9
        clear c9
        by_cases c10 : (ji8) ≤ (a1.size : Int)
        · rw [if_pos c10] at H
          have c10b0 := eq_true c10
          have c10b1 : decide ((ji8) ≤ (a1.size : Int)) = true := decide_eq_true c10
          clear c10
          obtain ⟨ji11, hji11⟩ : ∃ j_ : Int, (mn (a2.size : Int) 1000) = j_ := ⟨_, rfl⟩
          replace H : (if 0 ≤ (ji11) then (if (ji11) ≤ (a2.size : Int) then ((sum_Of.f k (a0.extract 0 ((ji5) : Int).toNat)).bind fun t110 => ((sum_Bytes.f t110).bind fun t111 => (if (a0.extract 0 ((ji5) : Int).toNat).size + t111.size ≤ 9223372036854775807 then ((sum_Of.f k (a1.extract 0 ((ji8) : Int).toNat)).bind fun t112 => ((sum_Bytes.f t112).bind fun t113 => (if (a1.extract 0 ((ji8) : Int).toNat).size + t113.size ≤ 9223372036854775807 then (if t109 = true then ((sum_Of.f k ((a0.extract 0 ((ji5) : Int).toNat) ++ t111)).bind fun t114 => ((sum_Of.f k ((a1.extract 0 ((ji8) : Int).toNat) ++ t113)).bind fun t115 => (if t114 = t115 then (if ((a0.extract 0 ((ji5) : Int).toNat) ++ t111).size + (a2.extract 0 ((ji11) : Int).toNat).size ≤ 9223372036854775807 then ((sum_Of.f k (((a0.extract 0 ((ji5) : Int).toNat) ++ t111) ++ (a2.extract 0 ((ji11) : Int).toNat))).bind fun t116 => (if ((a1.extract 0 ((ji8) : Int).toNat) ++ t113).size + (a2.extract 0 ((ji11) : Int).toNat).size ≤ 9223372036854775807 then ((sum_Of.f k (((a1.extract 0 ((ji8) : Int).toNat) ++ t113) ++ (a2.extract 0 ((ji11) : Int).toNat))).bind fun t117 => (if t116 = t117 then ((sum_Of.f k (a0.extract 0 ((ji5) : Int).toNat)).bind fun t118 => ((sum_Of.f k (a1.extract 0 ((ji8) : Int).toNat)).bind fun t119 => (if (a0.extract 0 ((ji5) : Int).toNat).size + (a2.extract 0 ((ji11) : Int).toNat).size ≤ 9223372036854775807 then ((sum_Of.f k ((a0.extract 0 ((ji5) : Int).toNat) ++ (a2.extract 0 ((ji11) : Int).toNat))).bind fun t120 => (if (a1.extract 0 ((ji8) : Int).toNat).size + (a2.extract 0 ((ji11) : Int).toNat).size ≤ 9223372036854775807 then ((sum_Of.f k ((a1.extract 0 ((ji8) : Int).toNat) ++ (a2.extract 0 ((ji11) : Int).toNat))).bind fun t121 => (some ((t118 == t119) == (t120 == t121)))) else (none))) else (none)))) else (some false))) else (none))) else (none)) else (some false)))) else (some false)) else (none)))) else (none)))) else (none)) else (none)) = some r := by first | (rw [hji11] at H; exact H) | (simp only [hji11] at H ⊢; exact H)
          (try rw [hji11] at A4)
          (try (have hji11h : ji11 ≤ 1000 := by (rw [← hji11]; unfold mn; (repeat' split) <;> omega)))
          (try (have hji11g : ji11 ≤ 64 := by omega))
          (try (have hji11l : 0 ≤ ji11 := by (rw [← hji11]; unfold mn; (repeat' split) <;> omega)))
          (try (have hji11m : 0 ≤ ji11 := by omega))
          have hji11_ : (if 1000 < (a2.size : Int) then 1000 else (a2.size : Int)) = ji11 := hji11
          by_cases c12 : 0 ≤ (ji11)
          · rw [if_pos c12] at H
            have c12b0 := eq_true c12
            have c12b1 : decide (0 ≤ (ji11)) = true := decide_eq_true c12
            clear c12
            by_cases c13 : (ji11) ≤ (a2.size : Int)
            · rw [if_pos c13] at H
              have c13b0 := eq_true c13
              have c13b1 : decide ((ji11) ≤ (a2.size : Int)) = true := decide_eq_true c13
              clear c13
              replace H := Option.bind_eq_some_iff.mp H
              obtain ⟨t110, A140, H⟩ := H
              replace H : ((sum_Bytes.f t110).bind fun t111 => (if (a0.extract 0 ((ji5) : Int).toNat).size + t111.size ≤ 9223372036854775807 then ((sum_Of.f k (a1.extract 0 ((ji8) : Int).toNat)).bind fun t112 => ((sum_Bytes.f t112).bind fun t113 => (if (a1.extract 0 ((ji8) : Int).toNat).size + t113.size ≤ 9223372036854775807 then (if t109 = true then ((sum_Of.f k ((a0.extract 0 ((ji5) : Int).toNat) ++ t111)).bind fun t114 => ((sum_Of.f k ((a1.extract 0 ((ji8) : Int).toNat) ++ t113)).bind fun t115 => (if t114 = t115 then (if ((a0.extract 0 ((ji5) : Int).toNat) ++ t111).size + (a2.extract 0 ((ji11) : Int).toNat).size ≤ 9223372036854775807 then ((sum_Of.f k (((a0.extract 0 ((ji5) : Int).toNat) ++ t111) ++ (a2.extract 0 ((ji11) : Int).toNat))).bind fun t116 => (if ((a1.extract 0 ((ji8) : Int).toNat) ++ t113).size + (a2.extract 0 ((ji11) : Int).toNat).size ≤ 9223372036854775807 then ((sum_Of.f k (((a1.extract 0 ((ji8) : Int).toNat) ++ t113) ++ (a2.extract 0 ((ji11) : Int).toNat))).bind fun t117 => (if t116 = t117 then ((sum_Of.f k (a0.extract 0 ((ji5) : Int).toNat)).bind fun t118 => ((sum_Of.f k (a1.extract 0 ((ji8) : Int).toNat)).bind fun t119 => (if (a0.extract 0 ((ji5) : Int).toNat).size + (a2.extract 0 ((ji11) : Int).toNat).size ≤ 9223372036854775807 then ((sum_Of.f k ((a0.extract 0 ((ji5) : Int).toNat) ++ (a2.extract 0 ((ji11) : Int).toNat))).bind fun t120 => (if (a1.extract 0 ((ji8) : Int).toNat).size + (a2.extract 0 ((ji11) : Int).toNat).size ≤ 9223372036854775807 then ((sum_Of.f k ((a1.extract 0 ((ji8) : Int).toNat) ++ (a2.extract 0 ((ji11) : Int).toNat))).bind fun t121 => (some ((t118 == t119) == (t120 == t121)))) else (none))) else (none)))) else (some false))) else (none))) else (none)) else (some false)))) else (some false)) else (none)))) else (none))) = some r := H
              have A14 := Aside0.mk A140
              clear A140
              replace H := Option.bind_eq_some_iff.mp H
              obtain ⟨t111, A150, H⟩ := H
              replace H : (if (a0.extract 0 ((ji5) : Int).toNat).size + t111.size ≤ 9223372036854775807 then ((sum_Of.f k (a1.extract 0 ((ji8) : Int).toNat)).bind fun t112 => ((sum_Bytes.f t112).bind fun t113 => (if (a1.extract 0 ((ji8) : Int).toNat).size + t113.size ≤ 9223372036854775807 then (if t109 = true then ((sum_Of.f k ((a0.extract 0 ((ji5) : Int).toNat) ++ t111)).bind fun t114 => ((sum_Of.f k ((a1.extract 0 ((ji8) : Int).toNat) ++ t113)).bind fun t115 => (if t114 = t115 then (if ((a0.extract 0 ((ji5) : Int).toNat) ++ t111).size + (a2.extract 0 ((ji11) : Int).toNat).size ≤ 9223372036854775807 then ((sum_Of.f k (((a0.extract 0 ((ji5) : Int).toNat) ++ t111) ++ (a2.extract 0 ((ji11) : Int).toNat))).bind fun t116 => (if ((a1.extract 0 ((ji8) : Int).toNat) ++ t113).size + (a2.extract 0 ((ji11) : Int).toNat).size ≤ 9223372036854775807 then ((sum_Of.f k (((a1.extract 0 ((ji8) : Int).toNat) ++ t113) ++ (a2.extract 0 ((ji11) : Int).toNat))).bind fun t117 => (if t116 = t117 then ((sum_Of.f k (a0.extract 0 ((ji5) : Int).toNat)).bind fun t118 => ((sum_Of.f k (a1.extract 0 ((ji8) : Int).toNat)).bind fun t119 => (if (a0.extract 0 ((ji5) : Int).toNat).size + (a2.extract 0 ((ji11) : Int).toNat).size ≤ 9223372036854775807 then ((sum_Of.f k ((a0.extract 0 ((ji5) : Int).toNat) ++ (a2.extract 0 ((ji11) : Int).toNat))).bind fun t120 => (if (a1.extract 0 ((ji8) : Int).toNat).size + (a2.extract 0 ((ji11) : Int).toNat).size ≤ 9223372036854775807 then ((sum_Of.f k ((a1.extract 0 ((ji8) : Int).toNat) ++ (a2.extract 0 ((ji11) : Int).toNat))).bind fun t121 => (some ((t118 == t119) == (t120 == t121)))) else (none))) else (none)))) else (some false))) else (none))) else (none)) else (some false)))) else (some false)) else (none)))) else (none)) = some r := H
              have A15 := Aside0.mk A150
              clear A150
              by_cases c16 : (a0.extract 0 ((ji5) : Int).toNat).size + t111.size ≤ 9223372036854775807
              · rw [if_pos c16] at H
                have c16b0 := eq_true c16
                have c16b1 : decide ((a0.extract 0 ((ji5) : Int).toNat).size + t111.size ≤ 9223372036854775807) = true := decide_eq_true c16
                try have c16b2 : (9223372036854775807 < (a0.extract 0 ((ji5) : Int).toNat).size + t111.size) = False := eq_false (Nat.not_lt.2 c16)
                have c16n : (9223372036854775807 < ji5.toNat + t111.size) = False := eq_false (by have h_ := c16; simp only [ByteArray.size_append, ByteArray.size_extract] at h_; omega)
                replace H := Option.bind_eq_some_iff.mp H
                obtain ⟨t112, A170, H⟩ := H
                replace H : ((sum_Bytes.f t112).bind fun t113 => (if (a1.extract 0 ((ji8) : Int).toNat).size + t113.size ≤ 9223372036854775807 then (if t109 = true then ((sum_Of.f k ((a0.extract 0 ((ji5) : Int).toNat) ++ t111)).bind fun t114 => ((sum_Of.f k ((a1.extract 0 ((ji8) : Int).toNat) ++ t113)).bind fun t115 => (if t114 = t115 then (if ((a0.extract 0 ((ji5) : Int).toNat) ++ t111).size + (a2.extract 0 ((ji11) : Int).toNat).size ≤ 9223372036854775807 then ((sum_Of.f k (((a0.extract 0 ((ji5) : Int).toNat) ++ t111) ++ (a2.extract 0 ((ji11) : Int).toNat))).bind fun t116 => (if ((a1.extract 0 ((ji8) : Int).toNat) ++ t113).size + (a2.extract 0 ((ji11) : Int).toNat).size ≤ 9223372036854775807 then ((sum_Of.f k (((a1.extract 0 ((ji8) : Int).toNat) ++ t113) ++ (a2.extract 0 ((ji11) : Int).toNat))).bind fun t117 => (if t116 = t117 then ((sum_Of.f k (a0.extract 0 ((ji5) : Int).toNat)).bind fun t118 => ((sum_Of.f k (a1.extract 0 ((ji8) : Int).toNat)).bind fun t119 => (if (a0.extract 0 ((ji5) : Int).toNat).size + (a2.extract 0 ((ji11) : Int).toNat).size ≤ 9223372036854775807 then ((sum_Of.f k ((a0.extract 0 ((ji5) : Int).toNat) ++ (a2.extract 0 ((ji11) : Int).toNat))).bind fun t120 => (if (a1.extract 0 ((ji8) : Int).toNat).size + (a2.extract 0 ((ji11) : Int).toNat).size ≤ 9223372036854775807 then ((sum_Of.f k ((a1.extract 0 ((ji8) : Int).toNat) ++ (a2.extract 0 ((ji11) : Int).toNat))).bind fun t121 => (some ((t118 == t119) == (t120 == t121)))) else (none))) else (none)))) else (some false))) else (none))) else (none)) else (some false)))) else (some false)) else (none))) = some r := H
                have A17 := Aside0.mk A170
                clear A170
                replace H := Option.bind_eq_some_iff.mp H
                obtain ⟨t113, A180, H⟩ := H
                replace H : (if (a1.extract 0 ((ji8) : Int).toNat).size + t113.size ≤ 9223372036854775807 then (if t109 = true then ((sum_Of.f k ((a0.extract 0 ((ji5) : Int).toNat) ++ t111)).bind fun t114 => ((sum_Of.f k ((a1.extract 0 ((ji8) : Int).toNat) ++ t113)).bind fun t115 => (if t114 = t115 then (if ((a0.extract 0 ((ji5) : Int).toNat) ++ t111).size + (a2.extract 0 ((ji11) : Int).toNat).size ≤ 9223372036854775807 then ((sum_Of.f k (((a0.extract 0 ((ji5) : Int).toNat) ++ t111) ++ (a2.extract 0 ((ji11) : Int).toNat))).bind fun t116 => (if ((a1.extract 0 ((ji8) : Int).toNat) ++ t113).size + (a2.extract 0 ((ji11) : Int).toNat).size ≤ 9223372036854775807 then ((sum_Of.f k (((a1.extract 0 ((ji8) : Int).toNat) ++ t113) ++ (a2.extract 0 ((ji11) : Int).toNat))).bind fun t117 => (if t116 = t117 then ((sum_Of.f k (a0.extract 0 ((ji5) : Int).toNat)).bind fun t118 => ((sum_Of.f k (a1.extract 0 ((ji8) : Int).toNat)).bind fun t119 => (if (a0.extract 0 ((ji5) : Int).toNat).size + (a2.extract 0 ((ji11) : Int).toNat).size ≤ 9223372036854775807 then ((sum_Of.f k ((a0.extract 0 ((ji5) : Int).toNat) ++ (a2.extract 0 ((ji11) : Int).toNat))).bind fun t120 => (if (a1.extract 0 ((ji8) : Int).toNat).size + (a2.extract 0 ((ji11) : Int).toNat).size ≤ 9223372036854775807 then ((sum_Of.f k ((a1.extract 0 ((ji8) : Int).toNat) ++ (a2.extract 0 ((ji11) : Int).toNat))).bind fun t121 => (some ((t118 == t119) == (t120 == t121)))) else (none))) else (none)))) else (some false))) else (none))) else (none)) else (some false)))) else (some false)) else (none)) = some r := H
                have A18 := Aside0.mk A180
                clear A180
                by_cases c19 : (a1.extract 0 ((ji8) : Int).toNat).size + t113.size ≤ 9223372036854775807
                · rw [if_pos c19] at H
                  have c19b0 := eq_true c19
                  have c19b1 : decide ((a1.extract 0 ((ji8) : Int).toNat).size + t113.size ≤ 9223372036854775807) = true := decide_eq_true c19
                  try have c19b2 : (9223372036854775807 < (a1.extract 0 ((ji8) : Int).toNat).size + t113.size) = False := eq_false (Nat.not_lt.2 c19)
                  have c19n : (9223372036854775807 < ji8.toNat + t113.size) = False := eq_false (by have h_ := c19; simp only [ByteArray.size_append, ByteArray.size_extract] at h_; omega)
                  by_cases c20 : t109 = true
                  · subst c20
                    have H1 : ((sum_Of.f k ((a0.extract 0 ((ji5) : Int).toNat) ++ t111)).bind fun t114 => ((sum_Of.f k ((a1.extract 0 ((ji8) : Int).toNat) ++ t113)).bind fun t115 => (if t114 = t115 then (if ((a0.extract 0 ((ji5) : Int).toNat) ++ t111).size + (a2.extract 0 ((ji11) : Int).toNat).size ≤ 9223372036854775807 then ((sum_Of.f k (((a0.extract 0 ((ji5) : Int).toNat) ++ t111) ++ (a2.extract 0 ((ji11) : Int).toNat))).bind fun t116 => (if ((a1.extract 0 ((ji8) : Int).toNat) ++ t113).size + (a2.extract 0 ((ji11) : Int).toNat).size ≤ 9223372036854775807 then ((sum_Of.f k (((a1.extract 0 ((ji8) : Int).toNat) ++ t113) ++ (a2.extract 0 ((ji11) : Int).toNat))).bind fun t117 => (if t116 = t117 then ((sum_Of.f k (a0.extract 0 ((ji5) : Int).toNat)).bind fun t118 => ((sum_Of.f k (a1.extract 0 ((ji8) : Int).toNat)).bind fun t119 => (if (a0.extract 0 ((ji5) : Int).toNat).size + (a2.extract 0 ((ji11) : Int).toNat).size ≤ 9223372036854775807 then ((sum_Of.f k ((a0.extract 0 ((ji5) : Int).toNat) ++ (a2.extract 0 ((ji11) : Int).toNat))).bind fun t120 => (if (a1.extract 0 ((ji8) : Int).toNat).size + (a2.extract 0 ((ji11) : Int).toNat).size ≤ 9223372036854775807 then ((sum_Of.f k ((a1.extract 0 ((ji8) : Int).toNat) ++ (a2.extract 0 ((ji11) : Int).toNat))).bind fun t121 => (some ((t118 == t119) == (t120 == t121)))) else (none))) else (none)))) else (some false))) else (none))) else (none)) else (some false)))) = some r := by rw [if_pos rfl] at H; exact H
                    clear H
                    have H := H1
                    clear H1
                    replace H := Option.bind_eq_some_iff.mp H
                    obtain ⟨t114, A210, H⟩ := H
                    replace H : ((sum_Of.f k ((a1.extract 0 ((ji8) : Int).toNat) ++ t113)).bind fun t115 => (if t114 = t115 then (if ((a0.extract 0 ((ji5) : Int).toNat) ++ t111).size + (a2.extract 0 ((ji11) : Int).toNat).size ≤ 9223372036854775807 then ((sum_Of.f k (((a0.extract 0 ((ji5) : Int).toNat) ++ t111) ++ (a2.extract 0 ((ji11) : Int).toNat))).bind fun t116 => (if ((a1.extract 0 ((ji8) : Int).toNat) ++ t113).size + (a2.extract 0 ((ji11) : Int).toNat).size ≤ 9223372036854775807 then ((sum_Of.f k (((a1.extract 0 ((ji8) : Int).toNat) ++ t113) ++ (a2.extract 0 ((ji11) : Int).toNat))).bind fun t117 => (if t116 = t117 then ((sum_Of.f k (a0.extract 0 ((ji5) : Int).toNat)).bind fun t118 => ((sum_Of.f k (a1.extract 0 ((ji8) : Int).toNat)).bind fun t119 => (if (a0.extract 0 ((ji5) : Int).toNat).size + (a2.extract 0 ((ji11) : Int).toNat).size ≤ 9223372036854775807 then ((sum_Of.f k ((a0.extract 0 ((ji5) : Int).toNat) ++ (a2.extract 0 ((ji11) : Int).toNat))).bind fun t120 => (if (a1.extract 0 ((ji8) : Int).toNat).size + (a2.extract 0 ((ji11) : Int).toNat).size ≤ 9223372036854775807 then ((sum_Of.f k ((a1.extract 0 ((ji8) : Int).toNat) ++ (a2.extract 0 ((ji11) : Int).toNat))).bind fun t121 => (some ((t118 == t119) == (t120 == t121)))) else (none))) else (none)))) else (some false))) else (none))) else (none)) else (some false))) = some r := H
                    have A21 := Aside0.mk A210
                    clear A210
                    replace H := Option.bind_eq_some_iff.mp H
                    obtain ⟨t115, A220, H⟩ := H
                    replace H : (if t114 = t115 then (if ((a0.extract 0 ((ji5) : Int).toNat) ++ t111).size + (a2.extract 0 ((ji11) : Int).toNat).size ≤ 9223372036854775807 then ((sum_Of.f k (((a0.extract 0 ((ji5) : Int).toNat) ++ t111) ++ (a2.extract 0 ((ji11) : Int).toNat))).bind fun t116 => (if ((a1.extract 0 ((ji8) : Int).toNat) ++ t113).size + (a2.extract 0 ((ji11) : Int).toNat).size ≤ 9223372036854775807 then ((sum_Of.f k (((a1.extract 0 ((ji8) : Int).toNat) ++ t113) ++ (a2.extract 0 ((ji11) : Int).toNat))).bind fun t117 => (if t116 = t117 then ((sum_Of.f k (a0.extract 0 ((ji5) : Int).toNat)).bind fun t118 => ((sum_Of.f k (a1.extract 0 ((ji8) : Int).toNat)).bind fun t119 => (if (a0.extract 0 ((ji5) : Int).toNat).size + (a2.extract 0 ((ji11) : Int).toNat).size ≤ 9223372036854775807 then ((sum_Of.f k ((a0.extract 0 ((ji5) : Int).toNat) ++ (a2.extract 0 ((ji11) : Int).toNat))).bind fun t120 => (if (a1.extract 0 ((ji8) : Int).toNat).size + (a2.extract 0 ((ji11) : Int).toNat).size ≤ 9223372036854775807 then ((sum_Of.f k ((a1.extract 0 ((ji8) : Int).toNat) ++ (a2.extract 0 ((ji11) : Int).toNat))).bind fun t121 => (some ((t118 == t119) == (t120 == t121)))) else (none))) else (none)))) else (some false))) else (none))) else (none)) else (some false)) = some r := H
                    have A22 := Aside0.mk A220
                    clear A220
                    by_cases c23 : t114 = t115
                    · rw [if_pos c23] at H
                      have c23b0 : (t114 == t115) = true := beq_iff_eq.mpr c23
                      have c23b1 : (t114 != t115) = false := bne_eq_false_iff_eq.mpr c23
                      clear c23
                      by_cases c24 : ((a0.extract 0 ((ji5) : Int).toNat) ++ t111).size + (a2.extract 0 ((ji11) : Int).toNat).size ≤ 9223372036854775807
                      · rw [if_pos c24] at H
                        have c24b0 := eq_true c24
                        have c24b1 : decide (((a0.extract 0 ((ji5) : Int).toNat) ++ t111).size + (a2.extract 0 ((ji11) : Int).toNat).size ≤ 9223372036854775807) = true := decide_eq_true c24
                        try have c24b2 : (9223372036854775807 < ((a0.extract 0 ((ji5) : Int).toNat) ++ t111).size + (a2.extract 0 ((ji11) : Int).toNat).size) = False := eq_false (Nat.not_lt.2 c24)
                        have c24n : (9223372036854775807 < ji5.toNat + t111.size + ji11.toNat) = False := eq_false (by have h_ := c24; simp only [ByteArray.size_append, ByteArray.size_extract] at h_; omega)
                        replace H := Option.bind_eq_some_iff.mp H
                        obtain ⟨t116, A250, H⟩ := H
                        replace H : (if ((a1.extract 0 ((ji8) : Int).toNat) ++ t113).size + (a2.extract 0 ((ji11) : Int).toNat).size ≤ 9223372036854775807 then ((sum_Of.f k (((a1.extract 0 ((ji8) : Int).toNat) ++ t113) ++ (a2.extract 0 ((ji11) : Int).toNat))).bind fun t117 => (if t116 = t117 then ((sum_Of.f k (a0.extract 0 ((ji5) : Int).toNat)).bind fun t118 => ((sum_Of.f k (a1.extract 0 ((ji8) : Int).toNat)).bind fun t119 => (if (a0.extract 0 ((ji5) : Int).toNat).size + (a2.extract 0 ((ji11) : Int).toNat).size ≤ 9223372036854775807 then ((sum_Of.f k ((a0.extract 0 ((ji5) : Int).toNat) ++ (a2.extract 0 ((ji11) : Int).toNat))).bind fun t120 => (if (a1.extract 0 ((ji8) : Int).toNat).size + (a2.extract 0 ((ji11) : Int).toNat).size ≤ 9223372036854775807 then ((sum_Of.f k ((a1.extract 0 ((ji8) : Int).toNat) ++ (a2.extract 0 ((ji11) : Int).toNat))).bind fun t121 => (some ((t118 == t119) == (t120 == t121)))) else (none))) else (none)))) else (some false))) else (none)) = some r := H
                        have A25 := Aside0.mk A250
                        clear A250
                        by_cases c26 : ((a1.extract 0 ((ji8) : Int).toNat) ++ t113).size + (a2.extract 0 ((ji11) : Int).toNat).size ≤ 9223372036854775807
                        · rw [if_pos c26] at H
                          have c26b0 := eq_true c26
                          have c26b1 : decide (((a1.extract 0 ((ji8) : Int).toNat) ++ t113).size + (a2.extract 0 ((ji11) : Int).toNat).size ≤ 9223372036854775807) = true := decide_eq_true c26
                          try have c26b2 : (9223372036854775807 < ((a1.extract 0 ((ji8) : Int).toNat) ++ t113).size + (a2.extract 0 ((ji11) : Int).toNat).size) = False := eq_false (Nat.not_lt.2 c26)
                          have c26n : (9223372036854775807 < ji8.toNat + t113.size + ji11.toNat) = False := eq_false (by have h_ := c26; simp only [ByteArray.size_append, ByteArray.size_extract] at h_; omega)
                          replace H := Option.bind_eq_some_iff.mp H
                          obtain ⟨t117, A270, H⟩ := H
                          replace H : (if t116 = t117 then ((sum_Of.f k (a0.extract 0 ((ji5) : Int).toNat)).bind fun t118 => ((sum_Of.f k (a1.extract 0 ((ji8) : Int).toNat)).bind fun t119 => (if (a0.extract 0 ((ji5) : Int).toNat).size + (a2.extract 0 ((ji11) : Int).toNat).size ≤ 9223372036854775807 then ((sum_Of.f k ((a0.extract 0 ((ji5) : Int).toNat) ++ (a2.extract 0 ((ji11) : Int).toNat))).bind fun t120 => (if (a1.extract 0 ((ji8) : Int).toNat).size + (a2.extract 0 ((ji11) : Int).toNat).size ≤ 9223372036854775807 then ((sum_Of.f k ((a1.extract 0 ((ji8) : Int).toNat) ++ (a2.extract 0 ((ji11) : Int).toNat))).bind fun t121 => (some ((t118 == t119) == (t120 == t121)))) else (none))) else (none)))) else (some false)) = some r := H
                          have A27 := Aside0.mk A270
                          clear A270
                          by_cases c28 : t116 = t117
                          · rw [if_pos c28] at H
                            have c28b0 : (t116 == t117) = true := beq_iff_eq.mpr c28
                            have c28b1 : (t116 != t117) = false := bne_eq_false_iff_eq.mpr c28
                            clear c28
                            replace H := Option.bind_eq_some_iff.mp H
                            obtain ⟨t118, A290, H⟩ := H
                            replace H : ((sum_Of.f k (a1.extract 0 ((ji8) : Int).toNat)).bind fun t119 => (if (a0.extract 0 ((ji5) : Int).toNat).size + (a2.extract 0 ((ji11) : Int).toNat).size ≤ 9223372036854775807 then ((sum_Of.f k ((a0.extract 0 ((ji5) : Int).toNat) ++ (a2.extract 0 ((ji11) : Int).toNat))).bind fun t120 => (if (a1.extract 0 ((ji8) : Int).toNat).size + (a2.extract 0 ((ji11) : Int).toNat).size ≤ 9223372036854775807 then ((sum_Of.f k ((a1.extract 0 ((ji8) : Int).toNat) ++ (a2.extract 0 ((ji11) : Int).toNat))).bind fun t121 => (some ((t118 == t119) == (t120 == t121)))) else (none))) else (none))) = some r := H
                            have A29 := Aside0.mk A290
                            clear A290
                            have e_ : t110 = t118 := Option.some.inj (A14.out.symm.trans A29.out)
                            subst e_
                            replace H := Option.bind_eq_some_iff.mp H
                            obtain ⟨t119, A300, H⟩ := H
                            replace H : (if (a0.extract 0 ((ji5) : Int).toNat).size + (a2.extract 0 ((ji11) : Int).toNat).size ≤ 9223372036854775807 then ((sum_Of.f k ((a0.extract 0 ((ji5) : Int).toNat) ++ (a2.extract 0 ((ji11) : Int).toNat))).bind fun t120 => (if (a1.extract 0 ((ji8) : Int).toNat).size + (a2.extract 0 ((ji11) : Int).toNat).size ≤ 9223372036854775807 then ((sum_Of.f k ((a1.extract 0 ((ji8) : Int).toNat) ++ (a2.extract 0 ((ji11) : Int).toNat))).bind fun t121 => (some ((t110 == t119) == (t120 == t121)))) else (none))) else (none)) = some r := H
                            have A30 := Aside0.mk A300
                            clear A300
                            have e_ : t112 = t119 := Option.some.inj (A17.out.symm.trans A30.out)
                            subst e_
                            by_cases c31 : (a0.extract 0 ((ji5) : Int).toNat).size + (a2.extract 0 ((ji11) : Int).toNat).size ≤ 9223372036854775807
                            · rw [if_pos c31] at H
                              have c31b0 := eq_true c31
                              have c31b1 : decide ((a0.extract 0 ((ji5) : Int).toNat).size + (a2.extract 0 ((ji11) : Int).toNat).size ≤ 9223372036854775807) = true := decide_eq_true c31
                              try have c31b2 : (9223372036854775807 < (a0.extract 0 ((ji5) : Int).toNat).size + (a2.extract 0 ((ji11) : Int).toNat).size) = False := eq_false (Nat.not_lt.2 c31)
                              have c31n : (9223372036854775807 < ji5.toNat + ji11.toNat) = False := eq_false (by have h_ := c31; simp only [ByteArray.size_append, ByteArray.size_extract] at h_; omega)
                              replace H := Option.bind_eq_some_iff.mp H
                              obtain ⟨t120, A320, H⟩ := H
                              replace H : (if (a1.extract 0 ((ji8) : Int).toNat).size + (a2.extract 0 ((ji11) : Int).toNat).size ≤ 9223372036854775807 then ((sum_Of.f k ((a1.extract 0 ((ji8) : Int).toNat) ++ (a2.extract 0 ((ji11) : Int).toNat))).bind fun t121 => (some ((t110 == t112) == (t120 == t121)))) else (none)) = some r := H
                              have A32 := Aside0.mk A320
                              clear A320
                              by_cases c33 : (a1.extract 0 ((ji8) : Int).toNat).size + (a2.extract 0 ((ji11) : Int).toNat).size ≤ 9223372036854775807
                              · rw [if_pos c33] at H
                                have c33b0 := eq_true c33
                                have c33b1 : decide ((a1.extract 0 ((ji8) : Int).toNat).size + (a2.extract 0 ((ji11) : Int).toNat).size ≤ 9223372036854775807) = true := decide_eq_true c33
                                try have c33b2 : (9223372036854775807 < (a1.extract 0 ((ji8) : Int).toNat).size + (a2.extract 0 ((ji11) : Int).toNat).size) = False := eq_false (Nat.not_lt.2 c33)
                                have c33n : (9223372036854775807 < ji8.toNat + ji11.toNat) = False := eq_false (by have h_ := c33; simp only [ByteArray.size_append, ByteArray.size_extract] at h_; omega)
                                replace H := Option.bind_eq_some_iff.mp H
                                obtain ⟨t121, A340, H⟩ := H
                                replace H : (some ((t110 == t112) == (t120 == t121))) = some r := H
                                have A34 := Aside0.mk A340
                                clear A340
                                obtain rfl := Option.some.inj H
                                go_enter Try.func7, Try.ntmps7
                                go_wp2_with (first | ((with_reducible refine gate_callee (f := 14) rfl ?_); refine goesL_ (some 13) rfl rfl Try.func14 (by kernel_rfl) rfl #[] rfl (by (try simp only [List.map_toArray, List.map_cons, List.map_nil]); first | done | rfl | (simp only [List.length_drop, List.length_take]; rfl)) ?_; (with_reducible refine (hagglerlaw03_awake.calls k  true _ A4.out).mono ?_); rintro e w35 ⟨rfl, hb⟩; refine ⟨_, rfl, ?_⟩; have n0_ := Aside0.mk (below_step (by repeat (first | (with_reducible first | exact HB.out | apply below_alloc | apply pw_below_drewN | apply below_drew1) | exact HB.out)) hb); clear HB; have HB := n0_; clear n0_; (try clear hb); (try clear hb2); (try clear hk); (try clear hi)) | ((with_reducible refine gate_callee (f := 15) rfl ?_); refine goesL_ (some 31) rfl rfl Try.func15 (by kernel_rfl) rfl #[.string (a0.extract 0 ((ji5) : Int).toNat)] rfl (by (try simp only [List.map_toArray, List.map_cons, List.map_nil]); first | done | (simp only [hji5]; rfl) | rfl | (simp only [List.length_drop, List.length_take]; rfl)) ?_; (with_reducible refine (sum_Of.calls k (a0.extract 0 ((ji5) : Int).toNat) t110 _ A14.out).mono ?_); rintro e w' ⟨rfl, ⟨nd, rfl⟩⟩; refine ⟨_, rfl, ?_⟩) | ((with_reducible refine gate_callee (f := 17) rfl ?_); refine goesL_ (some 32) rfl rfl Try.func17 (by kernel_rfl) rfl #[.int .i64 t110] rfl (by (try simp only [List.map_toArray, List.map_cons, List.map_nil]); first | done | rfl | (simp only [List.length_drop, List.length_take]; rfl)) ?_; (with_reducible refine (sum_Bytes.calls t110 t111 _ A15.out).mono ?_); rintro e w36 ⟨rfl, hb⟩; refine ⟨_, rfl, ?_⟩; have n0_ := Aside0.mk (below_step (by repeat (first | (with_reducible first | exact HB.out | apply below_alloc | apply pw_below_drewN | apply below_drew1) | exact HB.out)) hb); clear HB; have HB := n0_; clear n0_; (try clear hb); (try clear hb2); (try clear hk); (try clear hi)) | ((with_reducible refine gate_callee (f := 15) rfl ?_); refine goesL_ (some 36) rfl rfl Try.func15 (by kernel_rfl) rfl #[.string (a1.extract 0 ((ji8) : Int).toNat)] rfl (by (try simp only [List.map_toArray, List.map_cons, List.map_nil]); first | done | (simp only [hji8]; rfl) | rfl | (simp only [List.length_drop, List.length_take]; rfl)) ?_; (with_reducible refine (sum_Of.calls k (a1.extract 0 ((ji8) : Int).toNat) t112 _ A17.out).mono ?_); rintro e w' ⟨rfl, ⟨nd, rfl⟩⟩; refine ⟨_, rfl, ?_⟩) | ((with_reducible refine gate_callee (f := 17) rfl ?_); refine goesL_ (some 37) rfl rfl Try.func17 (by kernel_rfl) rfl #[.int .i64 t112] rfl (by (try simp only [List.map_toArray, List.map_cons, List.map_nil]); first | done | rfl | (simp only [List.length_drop, List.length_take]; rfl)) ?_; (with_reducible refine (sum_Bytes.calls t112 t113 _ A18.out).mono ?_); rintro e w37 ⟨rfl, hb⟩; refine ⟨_, rfl, ?_⟩; have n0_ := Aside0.mk (below_step (by repeat (first | (with_reducible first | exact HB.out | apply below_alloc | apply pw_below_drewN | apply below_drew1) | exact HB.out)) hb); clear HB; have HB := n0_; clear n0_; (try clear hb); (try clear hb2); (try clear hk); (try clear hi)) | (go_at_call 15; (with_reducible refine (sum_Of.calls k ((a0.extract 0 ((ji5) : Int).toNat) ++ t111) t114 _ A21.out).mono ?_); rintro e w' ⟨rfl, ⟨nd, rfl⟩⟩) | (go_at_call 15; (with_reducible refine (sum_Of.calls k ((a1.extract 0 ((ji8) : Int).toNat) ++ t113) t115 _ A22.out).mono ?_); rintro e w' ⟨rfl, ⟨nd, rfl⟩⟩) | (go_at_call 15; (with_reducible refine (sum_Of.calls k (((a0.extract 0 ((ji5) : Int).toNat) ++ t111) ++ (a2.extract 0 ((ji11) : Int).toNat)) t116 _ A25.out).mono ?_); rintro e w' ⟨rfl, ⟨nd, rfl⟩⟩) | (go_at_call 15; (with_reducible refine (sum_Of.calls k (((a1.extract 0 ((ji8) : Int).toNat) ++ t113) ++ (a2.extract 0 ((ji11) : Int).toNat)) t117 _ A27.out).mono ?_); rintro e w' ⟨rfl, ⟨nd, rfl⟩⟩) | (go_at_call 15; (with_reducible refine (sum_Of.calls k (a0.extract 0 ((ji5) : Int).toNat) t110 _ A29.out).mono ?_); rintro e w' ⟨rfl, ⟨nd, rfl⟩⟩) | (go_at_call 15; (with_reducible refine (sum_Of.calls k (a1.extract 0 ((ji8) : Int).toNat) t112 _ A30.out).mono ?_); rintro e w' ⟨rfl, ⟨nd, rfl⟩⟩) | (go_at_call 15; (with_reducible refine (sum_Of.calls k ((a0.extract 0 ((ji5) : Int).toNat) ++ (a2.extract 0 ((ji11) : Int).toNat)) t120 _ A32.out).mono ?_); rintro e w' ⟨rfl, ⟨nd, rfl⟩⟩) | (go_at_call 15; (with_reducible refine (sum_Of.calls k ((a1.extract 0 ((ji8) : Int).toNat) ++ (a2.extract 0 ((ji11) : Int).toNat)) t121 _ A34.out).mono ?_); rintro e w' ⟨rfl, ⟨nd, rfl⟩⟩))
                                go_ret
                                exact ⟨by first | rfl | (simp [errW_none, errW_some] <;> rfl) | (simp only [← hji5, ← hji8, ← hji11]; first | rfl | (simp [errW_none, errW_some] <;> rfl)) | (simp [*, errW_none, errW_some] <;> rfl), by repeat (first | (with_reducible first | exact HB.out | apply below_alloc | apply pw_below_drewN | apply below_drew1) | exact HB.out)⟩
                              · rw [if_neg c33] at H
                                exact absurd H (by simp)
                            · rw [if_neg c31] at H
                              exact absurd H (by simp)
                          · rw [if_neg c28] at H
                            have c28b0 : (t116 == t117) = false := beq_eq_false_iff_ne.mpr c28
                            have c28b1 : (t116 != t117) = true := bne_iff_ne.mpr c28
                            obtain rfl := Option.some.inj H
                            go_enter Try.func7, Try.ntmps7
                            go_wp2_with (first | ((with_reducible refine gate_callee (f := 14) rfl ?_); refine goesL_ (some 13) rfl rfl Try.func14 (by kernel_rfl) rfl #[] rfl (by (try simp only [List.map_toArray, List.map_cons, List.map_nil]); first | done | rfl | (simp only [List.length_drop, List.length_take]; rfl)) ?_; (with_reducible refine (hagglerlaw03_awake.calls k  true _ A4.out).mono ?_); rintro e w38 ⟨rfl, hb⟩; refine ⟨_, rfl, ?_⟩; have n0_ := Aside0.mk (below_step (by repeat (first | (with_reducible first | exact HB.out | apply below_alloc | apply pw_below_drewN | apply below_drew1) | exact HB.out)) hb); clear HB; have HB := n0_; clear n0_; (try clear hb); (try clear hb2); (try clear hk); (try clear hi)) | ((with_reducible refine gate_callee (f := 15) rfl ?_); refine goesL_ (some 31) rfl rfl Try.func15 (by kernel_rfl) rfl #[.string (a0.extract 0 ((ji5) : Int).toNat)] rfl (by (try simp only [List.map_toArray, List.map_cons, List.map_nil]); first | done | (simp only [hji5]; rfl) | rfl | (simp only [List.length_drop, List.length_take]; rfl)) ?_; (with_reducible refine (sum_Of.calls k (a0.extract 0 ((ji5) : Int).toNat) t110 _ A14.out).mono ?_); rintro e w' ⟨rfl, ⟨nd, rfl⟩⟩; refine ⟨_, rfl, ?_⟩) | ((with_reducible refine gate_callee (f := 17) rfl ?_); refine goesL_ (some 32) rfl rfl Try.func17 (by kernel_rfl) rfl #[.int .i64 t110] rfl (by (try simp only [List.map_toArray, List.map_cons, List.map_nil]); first | done | rfl | (simp only [List.length_drop, List.length_take]; rfl)) ?_; (with_reducible refine (sum_Bytes.calls t110 t111 _ A15.out).mono ?_); rintro e w39 ⟨rfl, hb⟩; refine ⟨_, rfl, ?_⟩; have n0_ := Aside0.mk (below_step (by repeat (first | (with_reducible first | exact HB.out | apply below_alloc | apply pw_below_drewN | apply below_drew1) | exact HB.out)) hb); clear HB; have HB := n0_; clear n0_; (try clear hb); (try clear hb2); (try clear hk); (try clear hi)) | ((with_reducible refine gate_callee (f := 15) rfl ?_); refine goesL_ (some 36) rfl rfl Try.func15 (by kernel_rfl) rfl #[.string (a1.extract 0 ((ji8) : Int).toNat)] rfl (by (try simp only [List.map_toArray, List.map_cons, List.map_nil]); first | done | (simp only [hji8]; rfl) | rfl | (simp only [List.length_drop, List.length_take]; rfl)) ?_; (with_reducible refine (sum_Of.calls k (a1.extract 0 ((ji8) : Int).toNat) t112 _ A17.out).mono ?_); rintro e w' ⟨rfl, ⟨nd, rfl⟩⟩; refine ⟨_, rfl, ?_⟩) | ((with_reducible refine gate_callee (f := 17) rfl ?_); refine goesL_ (some 37) rfl rfl Try.func17 (by kernel_rfl) rfl #[.int .i64 t112] rfl (by (try simp only [List.map_toArray, List.map_cons, List.map_nil]); first | done | rfl | (simp only [List.length_drop, List.length_take]; rfl)) ?_; (with_reducible refine (sum_Bytes.calls t112 t113 _ A18.out).mono ?_); rintro e w40 ⟨rfl, hb⟩; refine ⟨_, rfl, ?_⟩; have n0_ := Aside0.mk (below_step (by repeat (first | (with_reducible first | exact HB.out | apply below_alloc | apply pw_below_drewN | apply below_drew1) | exact HB.out)) hb); clear HB; have HB := n0_; clear n0_; (try clear hb); (try clear hb2); (try clear hk); (try clear hi)) | (go_at_call 15; (with_reducible refine (sum_Of.calls k ((a0.extract 0 ((ji5) : Int).toNat) ++ t111) t114 _ A21.out).mono ?_); rintro e w' ⟨rfl, ⟨nd, rfl⟩⟩) | (go_at_call 15; (with_reducible refine (sum_Of.calls k ((a1.extract 0 ((ji8) : Int).toNat) ++ t113) t115 _ A22.out).mono ?_); rintro e w' ⟨rfl, ⟨nd, rfl⟩⟩) | (go_at_call 15; (with_reducible refine (sum_Of.calls k (((a0.extract 0 ((ji5) : Int).toNat) ++ t111) ++ (a2.extract 0 ((ji11) : Int).toNat)) t116 _ A25.out).mono ?_); rintro e w' ⟨rfl, ⟨nd, rfl⟩⟩) | (go_at_call 15; (with_reducible refine (sum_Of.calls k (((a1.extract 0 ((ji8) : Int).toNat) ++ t113) ++ (a2.extract 0 ((ji11) : Int).toNat)) t117 _ A27.out).mono ?_); rintro e w' ⟨rfl, ⟨nd, rfl⟩⟩))
                            go_ret
                            exact ⟨by first | rfl | (simp [errW_none, errW_some] <;> rfl) | (simp only [← hji5, ← hji8, ← hji11]; first | rfl | (simp [errW_none, errW_some] <;> rfl)) | (simp [*, errW_none, errW_some] <;> rfl), by repeat (first | (with_reducible first | exact HB.out | apply below_alloc | apply pw_below_drewN | apply below_drew1) | exact HB.out)⟩
                        · rw [if_neg c26] at H
                          exact absurd H (by simp)
                      · rw [if_neg c24] at H
                        exact absurd H (by simp)
                    · rw [if_neg c23] at H
                      have c23b0 : (t114 == t115) = false := beq_eq_false_iff_ne.mpr c23
                      have c23b1 : (t114 != t115) = true := bne_iff_ne.mpr c23
                      obtain rfl := Option.some.inj H
                      go_enter Try.func7, Try.ntmps7
                      go_wp2_with (first | ((with_reducible refine gate_callee (f := 14) rfl ?_); refine goesL_ (some 13) rfl rfl Try.func14 (by kernel_rfl) rfl #[] rfl (by (try simp only [List.map_toArray, List.map_cons, List.map_nil]); first | done | rfl | (simp only [List.length_drop, List.length_take]; rfl)) ?_; (with_reducible refine (hagglerlaw03_awake.calls k  true _ A4.out).mono ?_); rintro e w41 ⟨rfl, hb⟩; refine ⟨_, rfl, ?_⟩; have n0_ := Aside0.mk (below_step (by repeat (first | (with_reducible first | exact HB.out | apply below_alloc | apply pw_below_drewN | apply below_drew1) | exact HB.out)) hb); clear HB; have HB := n0_; clear n0_; (try clear hb); (try clear hb2); (try clear hk); (try clear hi)) | ((with_reducible refine gate_callee (f := 15) rfl ?_); refine goesL_ (some 31) rfl rfl Try.func15 (by kernel_rfl) rfl #[.string (a0.extract 0 ((ji5) : Int).toNat)] rfl (by (try simp only [List.map_toArray, List.map_cons, List.map_nil]); first | done | (simp only [hji5]; rfl) | rfl | (simp only [List.length_drop, List.length_take]; rfl)) ?_; (with_reducible refine (sum_Of.calls k (a0.extract 0 ((ji5) : Int).toNat) t110 _ A14.out).mono ?_); rintro e w' ⟨rfl, ⟨nd, rfl⟩⟩; refine ⟨_, rfl, ?_⟩) | ((with_reducible refine gate_callee (f := 17) rfl ?_); refine goesL_ (some 32) rfl rfl Try.func17 (by kernel_rfl) rfl #[.int .i64 t110] rfl (by (try simp only [List.map_toArray, List.map_cons, List.map_nil]); first | done | rfl | (simp only [List.length_drop, List.length_take]; rfl)) ?_; (with_reducible refine (sum_Bytes.calls t110 t111 _ A15.out).mono ?_); rintro e w42 ⟨rfl, hb⟩; refine ⟨_, rfl, ?_⟩; have n0_ := Aside0.mk (below_step (by repeat (first | (with_reducible first | exact HB.out | apply below_alloc | apply pw_below_drewN | apply below_drew1) | exact HB.out)) hb); clear HB; have HB := n0_; clear n0_; (try clear hb); (try clear hb2); (try clear hk); (try clear hi)) | ((with_reducible refine gate_callee (f := 15) rfl ?_); refine goesL_ (some 36) rfl rfl Try.func15 (by kernel_rfl) rfl #[.string (a1.extract 0 ((ji8) : Int).toNat)] rfl (by (try simp only [List.map_toArray, List.map_cons, List.map_nil]); first | done | (simp only [hji8]; rfl) | rfl | (simp only [List.length_drop, List.length_take]; rfl)) ?_; (with_reducible refine (sum_Of.calls k (a1.extract 0 ((ji8) : Int).toNat) t112 _ A17.out).mono ?_); rintro e w' ⟨rfl, ⟨nd, rfl⟩⟩; refine ⟨_, rfl, ?_⟩) | ((with_reducible refine gate_callee (f := 17) rfl ?_); refine goesL_ (some 37) rfl rfl Try.func17 (by kernel_rfl) rfl #[.int .i64 t112] rfl (by (try simp only [List.map_toArray, List.map_cons, List.map_nil]); first | done | rfl | (simp only [List.length_drop, List.length_take]; rfl)) ?_; (with_reducible refine (sum_Bytes.calls t112 t113 _ A18.out).mono ?_); rintro e w43 ⟨rfl, hb⟩; refine ⟨_, rfl, ?_⟩; have n0_ := Aside0.mk (below_step (by repeat (first | (with_reducible first | exact HB.out | apply below_alloc | apply pw_below_drewN | apply below_drew1) | exact HB.out)) hb); clear HB; have HB := n0_; clear n0_; (try clear hb); (try clear hb2); (try clear hk); (try clear hi)) | (go_at_call 15; (with_reducible refine (sum_Of.calls k ((a0.extract 0 ((ji5) : Int).toNat) ++ t111) t114 _ A21.out).mono ?_); rintro e w' ⟨rfl, ⟨nd, rfl⟩⟩) | (go_at_call 15; (with_reducible refine (sum_Of.calls k ((a1.extract 0 ((ji8) : Int).toNat) ++ t113) t115 _ A22.out).mono ?_); rintro e w' ⟨rfl, ⟨nd, rfl⟩⟩))
                      go_ret
                      exact ⟨by first | rfl | (simp [errW_none, errW_some] <;> rfl) | (simp only [← hji5, ← hji8, ← hji11]; first | rfl | (simp [errW_none, errW_some] <;> rfl)) | (simp [*, errW_none, errW_some] <;> rfl), by repeat (first | (with_reducible first | exact HB.out | apply below_alloc | apply pw_below_drewN | apply below_drew1) | exact HB.out)⟩
                  · replace c20 := Bool.eq_false_iff.mpr c20
                    subst c20
                    have H1 : (some false) = some r := by rw [if_neg (show ¬ (false = true) by decide)] at H; exact H
                    clear H
                    have H := H1
                    clear H1
                    obtain rfl := Option.some.inj H
                    go_enter Try.func7, Try.ntmps7
                    go_wp2_with (first | ((with_reducible refine gate_callee (f := 14) rfl ?_); refine goesL_ (some 13) rfl rfl Try.func14 (by kernel_rfl) rfl #[] rfl (by (try simp only [List.map_toArray, List.map_cons, List.map_nil]); first | done | rfl | (simp only [List.length_drop, List.length_take]; rfl)) ?_; (with_reducible refine (hagglerlaw03_awake.calls k  false _ A4.out).mono ?_); rintro e w44 ⟨rfl, hb⟩; refine ⟨_, rfl, ?_⟩; have n0_ := Aside0.mk (below_step (by repeat (first | (with_reducible first | exact HB.out | apply below_alloc | apply pw_below_drewN | apply below_drew1) | exact HB.out)) hb); clear HB; have HB := n0_; clear n0_; (try clear hb); (try clear hb2); (try clear hk); (try clear hi)) | ((with_reducible refine gate_callee (f := 15) rfl ?_); refine goesL_ (some 31) rfl rfl Try.func15 (by kernel_rfl) rfl #[.string (a0.extract 0 ((ji5) : Int).toNat)] rfl (by (try simp only [List.map_toArray, List.map_cons, List.map_nil]); first | done | (simp only [hji5]; rfl) | rfl | (simp only [List.length_drop, List.length_take]; rfl)) ?_; (with_reducible refine (sum_Of.calls k (a0.extract 0 ((ji5) : Int).toNat) t110 _ A14.out).mono ?_); rintro e w' ⟨rfl, ⟨nd, rfl⟩⟩; refine ⟨_, rfl, ?_⟩) | ((with_reducible refine gate_callee (f := 17) rfl ?_); refine goesL_ (some 32) rfl rfl Try.func17 (by kernel_rfl) rfl #[.int .i64 t110] rfl (by (try simp only [List.map_toArray, List.map_cons, List.map_nil]); first | done | rfl | (simp only [List.length_drop, List.length_take]; rfl)) ?_; (with_reducible refine (sum_Bytes.calls t110 t111 _ A15.out).mono ?_); rintro e w45 ⟨rfl, hb⟩; refine ⟨_, rfl, ?_⟩; have n0_ := Aside0.mk (below_step (by repeat (first | (with_reducible first | exact HB.out | apply below_alloc | apply pw_below_drewN | apply below_drew1) | exact HB.out)) hb); clear HB; have HB := n0_; clear n0_; (try clear hb); (try clear hb2); (try clear hk); (try clear hi)) | ((with_reducible refine gate_callee (f := 15) rfl ?_); refine goesL_ (some 36) rfl rfl Try.func15 (by kernel_rfl) rfl #[.string (a1.extract 0 ((ji8) : Int).toNat)] rfl (by (try simp only [List.map_toArray, List.map_cons, List.map_nil]); first | done | (simp only [hji8]; rfl) | rfl | (simp only [List.length_drop, List.length_take]; rfl)) ?_; (with_reducible refine (sum_Of.calls k (a1.extract 0 ((ji8) : Int).toNat) t112 _ A17.out).mono ?_); rintro e w' ⟨rfl, ⟨nd, rfl⟩⟩; refine ⟨_, rfl, ?_⟩) | ((with_reducible refine gate_callee (f := 17) rfl ?_); refine goesL_ (some 37) rfl rfl Try.func17 (by kernel_rfl) rfl #[.int .i64 t112] rfl (by (try simp only [List.map_toArray, List.map_cons, List.map_nil]); first | done | rfl | (simp only [List.length_drop, List.length_take]; rfl)) ?_; (with_reducible refine (sum_Bytes.calls t112 t113 _ A18.out).mono ?_); rintro e w46 ⟨rfl, hb⟩; refine ⟨_, rfl, ?_⟩; have n0_ := Aside0.mk (below_step (by repeat (first | (with_reducible first | exact HB.out | apply below_alloc | apply pw_below_drewN | apply below_drew1) | exact HB.out)) hb); clear HB; have HB := n0_; clear n0_; (try clear hb); (try clear hb2); (try clear hk); (try clear hi)))
                    go_ret
                    exact ⟨by first | rfl | (simp [errW_none, errW_some] <;> rfl) | (simp only [← hji5, ← hji8, ← hji11]; first | rfl | (simp [errW_none, errW_some] <;> rfl)) | (simp [*, errW_none, errW_some] <;> rfl), by repeat (first | (with_reducible first | exact HB.out | apply below_alloc | apply pw_below_drewN | apply below_drew1) | exact HB.out)⟩
                · rw [if_neg c19] at H
                  exact absurd H (by simp)
              · rw [if_neg c16] at H
                exact absurd H (by simp)
            · rw [if_neg c13] at H
              exact absurd H (by simp)
          · rw [if_neg c12] at H
            exact absurd H (by simp)
        · rw [if_neg c10] at H
          exact absurd H (by simp)
      · rw [if_neg c9] at H
        exact absurd H (by simp)
    · rw [if_neg c7] at H
      exact absurd H (by simp)
  · rw [if_neg c6] at H
    exact absurd H (by simp)

/-- THE ONE PURE STATEMENT of hagglerlaw03_SumParts: yours. -/
def hagglerlaw03_SumParts.Pure : Prop := ∀ (a0 : ByteArray) (a1 : ByteArray) (a2 : ByteArray), a0.size ≤ 140737488351232 → a1.size ≤ 140737488351232 → a2.size ≤ 140737488351232 → ∃ k, hagglerlaw03_SumParts.f k a0 a1 a2 = some true
theorem hagglerlaw03_SumParts.walk (P : hagglerlaw03_SumParts.Pure) (a0 : ByteArray) (a1 : ByteArray) (a2 : ByteArray) (w : World) (w0 : a0.size ≤ 140737488351232) (w1 : a1.size ≤ 140737488351232) (w2 : a2.size ≤ 140737488351232) :
    Calls Try.prog 7 #[.string a0, .string a1, .string a2] w fun e w' => e = .returned (.bool true) ∧ Below w.heap.size w w' := by
  obtain ⟨k, h⟩ := P a0 a1 a2 w0 w1 w2
  refine (hagglerlaw03_SumParts.calls k a0 a1 a2 true w h).mono ?_
  rintro e w' ⟨rfl, hd⟩
  exact ⟨rfl, hd⟩

end Go.Proofs.Ytjbgboaghphaeaa.OSumParts
