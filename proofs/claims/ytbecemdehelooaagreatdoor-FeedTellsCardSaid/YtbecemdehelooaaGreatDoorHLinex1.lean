-- Written by a program of ours (hprint.py) for this claim, over the print of the kit.
import Derived.Test.YtbecemdehelooaaGreatDoorHLinex0
namespace Go.Proofs.YtbecemdehelooaaGreatDoor.HLine
open Go.RowKit Go.Proofs.YtbecemdehelooaaGreatDoorW.PrintWords Go.Proofs.YtbecemdehelooaaGreatDoorW.PrintLast Go.Proofs.YtbecemdehelooaaGreatDoorW.PrintMore
attribute [local go_sem] max2_int min2_int max_two min_two max_three min_three max_four min_four   -- for this text's walks alone
set_option linter.unusedVariables false
set_option linter.unusedSimpArgs false

/-! ### hagglerlaw12_pick: function 10 -/
def hagglerlaw12_pick.f (a0 : Int) (a1 : Int) : Option (Int) := if a0 < 0 then (if a1 = 0 then (none) else (some (Int.tmod (wrap64 (-(wrap64 (a0 + 1)))) a1))) else (if a1 = 0 then (none) else (some (Int.tmod a0 a1)))
set_option maxHeartbeats 8000000 in
set_option maxRecDepth 100000 in
theorem hagglerlaw12_pick.calls (a0 : Int) (a1 : Int) (r : Int) (w : World) (h : hagglerlaw12_pick.f a0 a1 = some r) :
    Calls Tryz.prog 10 #[.int .i64 a0, .int .i64 a1] w fun e w' => e = .returned (.int .i64 r) ∧ Drawn0 w w' := by
  have H : (if a0 < 0 then (if a1 = 0 then (none) else (some (Int.tmod (wrap64 (-(wrap64 (a0 + 1)))) a1))) else (if a1 = 0 then (none) else (some (Int.tmod a0 a1)))) = some r := h
  clear h
  by_cases c3 : a0 < 0
  · rw [if_pos c3] at H
    have c3b0 : decide (a0 < 0) = true := decide_eq_true c3
    clear c3
    by_cases c4 : a1 = 0
    · rw [if_pos c4] at H
      exact absurd H (by simp)
    · rw [if_neg c4] at H
      have c4b0 : (a1 == 0) = false := beq_eq_false_iff_ne.mpr c4
      have c4b1 : (a1 != 0) = true := bne_iff_ne.mpr c4
      obtain rfl := Option.some.inj H
      go_enter Tryz.func10, Tryz.ntmps10
      go_wp2
      go_ret
      exact ⟨by first | rfl | (simp; done) | (simp [*]; done), by repeat (first | exact Drawn0.refl _ | apply Drawn0.step)⟩
  · rw [if_neg c3] at H
    have c3b0 : decide (a0 < 0) = false := decide_eq_false c3
    clear c3
    by_cases c5 : a1 = 0
    · rw [if_pos c5] at H
      exact absurd H (by simp)
    · rw [if_neg c5] at H
      have c5b0 : (a1 == 0) = false := beq_eq_false_iff_ne.mpr c5
      have c5b1 : (a1 != 0) = true := bne_iff_ne.mpr c5
      obtain rfl := Option.some.inj H
      go_enter Tryz.func10, Tryz.ntmps10
      go_wp2
      go_ret
      exact ⟨by first | rfl | (simp; done) | (simp [*]; done), by repeat (first | exact Drawn0.refl _ | apply Drawn0.step)⟩

/-! ### hagglerlaw06_pick: function 27 -/
def hagglerlaw06_pick.f (a0 : Int) (a1 : Int) : Option (Int) := if a0 < 0 then (if a1 = 0 then (none) else (some (Int.tmod (wrap64 (-(wrap64 (a0 + 1)))) a1))) else (if a1 = 0 then (none) else (some (Int.tmod a0 a1)))
set_option maxHeartbeats 8000000 in
set_option maxRecDepth 100000 in
theorem hagglerlaw06_pick.calls (a0 : Int) (a1 : Int) (r : Int) (w : World) (h : hagglerlaw06_pick.f a0 a1 = some r) :
    Calls Tryz.prog 27 #[.int .i64 a0, .int .i64 a1] w fun e w' => e = .returned (.int .i64 r) ∧ Drawn0 w w' := by
  have H : (if a0 < 0 then (if a1 = 0 then (none) else (some (Int.tmod (wrap64 (-(wrap64 (a0 + 1)))) a1))) else (if a1 = 0 then (none) else (some (Int.tmod a0 a1)))) = some r := h
  clear h
  by_cases c3 : a0 < 0
  · rw [if_pos c3] at H
    have c3b0 : decide (a0 < 0) = true := decide_eq_true c3
    clear c3
    by_cases c4 : a1 = 0
    · rw [if_pos c4] at H
      exact absurd H (by simp)
    · rw [if_neg c4] at H
      have c4b0 : (a1 == 0) = false := beq_eq_false_iff_ne.mpr c4
      have c4b1 : (a1 != 0) = true := bne_iff_ne.mpr c4
      obtain rfl := Option.some.inj H
      go_enter Tryz.func27, Tryz.ntmps27
      go_wp2
      go_ret
      exact ⟨by first | rfl | (simp; done) | (simp [*]; done), by repeat (first | exact Drawn0.refl _ | apply Drawn0.step)⟩
  · rw [if_neg c3] at H
    have c3b0 : decide (a0 < 0) = false := decide_eq_false c3
    clear c3
    by_cases c5 : a1 = 0
    · rw [if_pos c5] at H
      exact absurd H (by simp)
    · rw [if_neg c5] at H
      have c5b0 : (a1 == 0) = false := beq_eq_false_iff_ne.mpr c5
      have c5b1 : (a1 != 0) = true := bne_iff_ne.mpr c5
      obtain rfl := Option.some.inj H
      go_enter Tryz.func27, Tryz.ntmps27
      go_wp2
      go_ret
      exact ⟨by first | rfl | (simp; done) | (simp [*]; done), by repeat (first | exact Drawn0.refl _ | apply Drawn0.step)⟩

/-! ### hagglerlaw06_decimal: function 28 -/
def hagglerlaw06_decimal.f : Nat → Int → Option (ByteArray)
  | 0, _ => none
  | k + 1, a0 => (some (([(wrap64 (48 + (Int.tmod a0 10))) % 256] : List Int) : List Int)).bind fun y101 => (if a0 ≥ 10 then ((hagglerlaw06_decimal.f k (wrap64 (Int.tdiv a0 10))).bind fun t104 => (if t104.size + (strOfNums y101).size ≤ 9223372036854775807 then (some (t104 ++ (strOfNums y101))) else (none))) else (some (strOfNums y101)))
theorem hagglerlaw06_decimal.mono_l : ∀ k, (∀ y0, LeO (hagglerlaw06_decimal.f k y0) (hagglerlaw06_decimal.f (k + 1) y0))
  | 0 => fun _ r h => by simp [hagglerlaw06_decimal.f] at h
  | k + 1 => by
    have ih0 := hagglerlaw06_decimal.mono_l k
    · intro y0
      unfold hagglerlaw06_decimal.f
      repeat' first
      | (with_reducible exact ih0 _)
      | (with_reducible exact LeO.refl _)
      | (with_reducible exact LeO.none _)
      | (with_reducible refine LeO.ite ?_ ?_)
      | (with_reducible refine LeO.bind ?_ (fun _ => ?_))
      | exact ih0 _
      | exact LeO.none _
      | refine LeO.ite ?_ ?_
      | refine LeO.bind ?_ (fun _ => ?_)
theorem hagglerlaw06_decimal.mono : ∀ a0 k, LeO (hagglerlaw06_decimal.f k a0) (hagglerlaw06_decimal.f (k + 1) a0) := by
  intro a0 k
  have ih0 := hagglerlaw06_decimal.mono_l k
  exact ih0 a0
set_option maxHeartbeats 8000000 in
set_option maxRecDepth 100000 in
theorem hagglerlaw06_decimal.calls (k : Nat) : ∀ (a0 : Int) (r : ByteArray) (w : World) (h : hagglerlaw06_decimal.f k a0 = some r),
    Calls Tryz.prog 28 #[.int .i64 a0] w fun e w' => e = .returned (.string r) ∧ Below w.heap.size w w' := by
  induction k using Nat.strongRecOn with
  | _ k ih =>
  intro a0 r w h
  cases k with
  | zero => exact absurd h (by simp [hagglerlaw06_decimal.f])
  | succ k =>
  simp only [hagglerlaw06_decimal.f] at h
  have HB := Aside0.mk (Below.refl w.heap.size w)
  have H : ((some (([(wrap64 (48 + (Int.tmod a0 10))) % 256] : List Int) : List Int)).bind fun y101 => (if a0 ≥ 10 then ((hagglerlaw06_decimal.f k (wrap64 (Int.tdiv a0 10))).bind fun t104 => (if t104.size + (strOfNums y101).size ≤ 9223372036854775807 then (some (t104 ++ (strOfNums y101))) else (none))) else (some (strOfNums y101)))) = some r := h
  clear h
  obtain ⟨y101, hy101⟩ : ∃ y_ : List Int, y_ = (([(wrap64 (48 + (Int.tmod a0 10))) % 256] : List Int)) := ⟨_, rfl⟩
  replace H : (if a0 ≥ 10 then ((hagglerlaw06_decimal.f k (wrap64 (Int.tdiv a0 10))).bind fun t104 => (if t104.size + (strOfNums y101).size ≤ 9223372036854775807 then (some (t104 ++ (strOfNums y101))) else (none))) else (some (strOfNums y101))) = some r := by first | (rw [hy101]; with_reducible exact H) | (have H2_ := (Option.bind_some _ _).symm.trans H; rw [hy101]; with_reducible exact H2_) | (have H2_ := (Option.bind_some _ _).symm.trans H; with_reducible exact H2_) | with_reducible exact H | (rw [hy101]; exact H) | exact H
  have Ny101 := Aside0.mk hy101
  clear hy101
  by_cases c2 : a0 ≥ 10
  · rw [if_pos c2] at H
    have c2b0 : decide (10 ≤ a0) = true := decide_eq_true c2
    clear c2
    replace H := Option.bind_eq_some_iff.mp H
    obtain ⟨t104, A30, H⟩ := H
    replace H : (if t104.size + (strOfNums y101).size ≤ 9223372036854775807 then (some (t104 ++ (strOfNums y101))) else (none)) = some r := H
    have A3 := Aside0.mk A30
    clear A30
    by_cases c4 : t104.size + (strOfNums y101).size ≤ 9223372036854775807
    · rw [if_pos c4] at H
      have c4b0 := eq_true c4
      have c4b1 : decide (t104.size + (strOfNums y101).size ≤ 9223372036854775807) = true := decide_eq_true c4
      try have c4b2 : (9223372036854775807 < t104.size + (strOfNums y101).size) = False := eq_false (Nat.not_lt.2 c4)
      obtain rfl := Option.some.inj H
      go_enter Tryz.func28, Tryz.ntmps28
      go_wp2_with (first | ((with_reducible refine gate_dst (N := 8) rfl ?_); refine Kd.R_lit (Kd.int .u8) _ 5 ?hg (N := 8) ?hd (xs := ([(wrap64 (48 + (Int.tmod a0 10))) % 256] : List Int)) (inner := [.int .u8 ((wrap64 (48 + (Int.tmod a0 10))) % 256)]) (ok := fun _ => True) (okp := fun _ => True) ?hr ?hp (fun _ hk => hk) trivial (Below.refl _ _) (Nat.le_refl _) (by simp) ?_; (case hd => rfl); (case hg => rfl); (case hr => first | (go_simp; done) | (go_simp; rfl)); (case hp => exact (Reps.one (show Kd.M (Kd.int .u8) _ _ _ ((wrap64 (48 + (Int.tmod a0 10))) % 256) [.int .u8 ((wrap64 (48 + (Int.tmod a0 10))) % 256)] from rfl) (Reps.none _ _))); intro v102 w5 ho6 hb hg_ hnew_; clear hg_ hnew_; (first | rw [← Ny101.out] at ho6 | (simp only [Int.reduceToNat] at ho6; rw [← Ny101.out] at ho6)); have n0_ := Aside0.mk (Kd.R_lower ho6 (below_size (by repeat (first | (with_reducible first | exact HB.out | apply below_alloc | apply pw_below_drewN | apply below_drew1) | exact HB.out)))); have n1_ := Aside0.mk (below_step (by repeat (first | (with_reducible first | exact HB.out | apply below_alloc | apply pw_below_drewN | apply below_drew1) | exact HB.out)) hb); clear HB; have HO103 := n0_; have HB := n1_; clear n0_ n1_; clear hb ho6; have hcv7 := own_string (P := Tryz.prog) Tryz.underlying50 Tryz.underlying5 Tryz.underlying9 (Kd.own_of_R HO103.out)) | ((with_reducible refine gate_callee (f := 28) rfl ?_); refine goesL_ (some 14) rfl rfl Tryz.func28 (by kernel_rfl) rfl #[.int .i64 (wrap64 (Int.tdiv a0 10))] rfl (by (try simp only [List.map_toArray, List.map_cons, List.map_nil]); first | done | rfl | (simp only [List.length_drop, List.length_take]; rfl)) ?_; (with_reducible refine (ih k (by omega) (wrap64 (Int.tdiv a0 10)) t104 _ A3.out).mono ?_); rintro e w8 ⟨rfl, hb⟩; refine ⟨_, rfl, ?_⟩; have n0_ := Aside0.mk (Kd.R_below (by (with_reducible repeat (first | apply Kd.R_alloc | apply Kd.R_drewN | apply Kd.R_drew)); exact HO103.out) hb); have n1_ := Aside0.mk (below_step (by repeat (first | (with_reducible first | exact HB.out | apply below_alloc | apply pw_below_drewN | apply below_drew1) | exact HB.out)) hb); clear HO103; clear HB; have HO103 := n0_; have HB := n1_; clear n0_ n1_; (try clear hb); (try clear hb2); (try clear hk); (try clear hi)))
      go_ret
      exact ⟨by first | rfl | (simp [errW_none, errW_some] <;> rfl) | (simp [*, errW_none, errW_some] <;> rfl), by repeat (first | (with_reducible first | exact HB.out | apply below_alloc | apply pw_below_drewN | apply below_drew1) | exact HB.out)⟩
    · rw [if_neg c4] at H
      exact absurd H (by simp)
  · rw [if_neg c2] at H
    have c2b0 : decide (10 ≤ a0) = false := decide_eq_false c2
    clear c2
    obtain rfl := Option.some.inj H
    go_enter Tryz.func28, Tryz.ntmps28
    go_wp2_with (first | ((with_reducible refine gate_dst (N := 8) rfl ?_); refine Kd.R_lit (Kd.int .u8) _ 5 ?hg (N := 8) ?hd (xs := ([(wrap64 (48 + (Int.tmod a0 10))) % 256] : List Int)) (inner := [.int .u8 ((wrap64 (48 + (Int.tmod a0 10))) % 256)]) (ok := fun _ => True) (okp := fun _ => True) ?hr ?hp (fun _ hk => hk) trivial (Below.refl _ _) (Nat.le_refl _) (by simp) ?_; (case hd => rfl); (case hg => rfl); (case hr => first | (go_simp; done) | (go_simp; rfl)); (case hp => exact (Reps.one (show Kd.M (Kd.int .u8) _ _ _ ((wrap64 (48 + (Int.tmod a0 10))) % 256) [.int .u8 ((wrap64 (48 + (Int.tmod a0 10))) % 256)] from rfl) (Reps.none _ _))); intro v102 w9 ho10 hb hg_ hnew_; clear hg_ hnew_; (first | rw [← Ny101.out] at ho10 | (simp only [Int.reduceToNat] at ho10; rw [← Ny101.out] at ho10)); have n0_ := Aside0.mk (Kd.R_lower ho10 (below_size (by repeat (first | (with_reducible first | exact HB.out | apply below_alloc | apply pw_below_drewN | apply below_drew1) | exact HB.out)))); have n1_ := Aside0.mk (below_step (by repeat (first | (with_reducible first | exact HB.out | apply below_alloc | apply pw_below_drewN | apply below_drew1) | exact HB.out)) hb); clear HB; have HO103 := n0_; have HB := n1_; clear n0_ n1_; clear hb ho10; have hcv11 := own_string (P := Tryz.prog) Tryz.underlying50 Tryz.underlying5 Tryz.underlying9 (Kd.own_of_R HO103.out)))
    go_ret
    exact ⟨by first | rfl | (simp [errW_none, errW_some] <;> rfl) | (simp [*, errW_none, errW_some] <;> rfl), by repeat (first | (with_reducible first | exact HB.out | apply below_alloc | apply pw_below_drewN | apply below_drew1) | exact HB.out)⟩

/-! ### hagglerlaw06_Seller: function 13 -/
def hagglerlaw06_Seller.f (k : Nat) (a0 : Int) : Option (ByteArray) := (hagglerlaw06_pick.f a0 60).bind fun t105 => ((some (([(⟨#[97]⟩ : ByteArray), (⟨#[98, 111, 98]⟩ : ByteArray), (⟨#[108, 111, 119, 101, 115]⟩ : ByteArray), (⟨#[97, 99, 109, 101, 57]⟩ : ByteArray), (⟨#[120, 49]⟩ : ByteArray), (⟨#[101, 108, 115, 101, 101]⟩ : ByteArray)] : List ByteArray) : List ByteArray)).bind fun y106 => (if 0 ≤ (Int.tmod t105 6) then (if (Int.tmod t105 6) < (y106.length : Int) then ((hagglerlaw06_decimal.f k (wrap64 (Int.tdiv t105 6))).bind fun t110 => (if (rdOf ByteArray.empty y106 (Int.tmod t105 6)).size + t110.size ≤ 9223372036854775807 then (some ((rdOf ByteArray.empty y106 (Int.tmod t105 6)) ++ t110)) else (none))) else (none)) else (none)))
theorem hagglerlaw06_Seller.mono : ∀ a0 k, LeO (hagglerlaw06_Seller.f k a0) (hagglerlaw06_Seller.f (k + 1) a0) := by
  intro a0 k
  unfold hagglerlaw06_Seller.f
  repeat' first
      | (with_reducible exact hagglerlaw06_decimal.mono _ _)
      | (with_reducible exact LeO.refl _)
      | (with_reducible exact LeO.none _)
      | (with_reducible refine LeO.ite ?_ ?_)
      | (with_reducible refine LeO.bind ?_ (fun _ => ?_))
      | exact hagglerlaw06_decimal.mono _ _
      | exact LeO.none _
      | refine LeO.ite ?_ ?_
      | refine LeO.bind ?_ (fun _ => ?_)
def hagglerlaw06_Seller.T2 : Bool × List (List Nat × List Nat) := (true, [([], []), ([], []), ([1], [1]), ([0, 2], [0, 2]), ([3], [3]), ([], []), ([5], [5]), ([6], [6]), ([4, 7], [4, 7]), ([8, 7, 0, 1, 2, 3, 4, 5, 6, 7, 8], [8])])
def hagglerlaw06_Seller.B2 : List Nat := [0, 0, 2, 7, 15, 0, 32, 96, 255, 511]
theorem hagglerlaw06_Seller.tab2 : rtab .any (opsOf Tryz.f13 2) = hagglerlaw06_Seller.T2 := by kernel_rfl
theorem hagglerlaw06_Seller.bits2 : waitsOk hagglerlaw06_Seller.T2.2 hagglerlaw06_Seller.B2 = true := by kernel_rfl
set_option maxHeartbeats 8000000 in
set_option maxRecDepth 100000 in
theorem hagglerlaw06_Seller.calls (k : Nat) (a0 : Int) (r : ByteArray) (w : World) (h : hagglerlaw06_Seller.f k a0 = some r) :
    Calls Tryz.prog 13 #[.int .i64 a0] w fun e w' => e = .returned (.string r) ∧ Below w.heap.size w w' := by
  have HB := Aside0.mk (Below.refl w.heap.size w)
  have H : ((hagglerlaw06_pick.f a0 60).bind fun t105 => ((some (([(⟨#[97]⟩ : ByteArray), (⟨#[98, 111, 98]⟩ : ByteArray), (⟨#[108, 111, 119, 101, 115]⟩ : ByteArray), (⟨#[97, 99, 109, 101, 57]⟩ : ByteArray), (⟨#[120, 49]⟩ : ByteArray), (⟨#[101, 108, 115, 101, 101]⟩ : ByteArray)] : List ByteArray) : List ByteArray)).bind fun y106 => (if 0 ≤ (Int.tmod t105 6) then (if (Int.tmod t105 6) < (y106.length : Int) then ((hagglerlaw06_decimal.f k (wrap64 (Int.tdiv t105 6))).bind fun t110 => (if (rdOf ByteArray.empty y106 (Int.tmod t105 6)).size + t110.size ≤ 9223372036854775807 then (some ((rdOf ByteArray.empty y106 (Int.tmod t105 6)) ++ t110)) else (none))) else (none)) else (none)))) = some r := h
  clear h
  replace H := Option.bind_eq_some_iff.mp H
  obtain ⟨t105, A20, H⟩ := H
  replace H : ((some (([(⟨#[97]⟩ : ByteArray), (⟨#[98, 111, 98]⟩ : ByteArray), (⟨#[108, 111, 119, 101, 115]⟩ : ByteArray), (⟨#[97, 99, 109, 101, 57]⟩ : ByteArray), (⟨#[120, 49]⟩ : ByteArray), (⟨#[101, 108, 115, 101, 101]⟩ : ByteArray)] : List ByteArray) : List ByteArray)).bind fun y106 => (if 0 ≤ (Int.tmod t105 6) then (if (Int.tmod t105 6) < (y106.length : Int) then ((hagglerlaw06_decimal.f k (wrap64 (Int.tdiv t105 6))).bind fun t110 => (if (rdOf ByteArray.empty y106 (Int.tmod t105 6)).size + t110.size ≤ 9223372036854775807 then (some ((rdOf ByteArray.empty y106 (Int.tmod t105 6)) ++ t110)) else (none))) else (none)) else (none))) = some r := H
  have A2 := Aside0.mk A20
  clear A20
  obtain ⟨y106, hy106⟩ : ∃ y_ : List ByteArray, y_ = (([(⟨#[97]⟩ : ByteArray), (⟨#[98, 111, 98]⟩ : ByteArray), (⟨#[108, 111, 119, 101, 115]⟩ : ByteArray), (⟨#[97, 99, 109, 101, 57]⟩ : ByteArray), (⟨#[120, 49]⟩ : ByteArray), (⟨#[101, 108, 115, 101, 101]⟩ : ByteArray)] : List ByteArray)) := ⟨_, rfl⟩
  replace H : (if 0 ≤ (Int.tmod t105 6) then (if (Int.tmod t105 6) < (y106.length : Int) then ((hagglerlaw06_decimal.f k (wrap64 (Int.tdiv t105 6))).bind fun t110 => (if (rdOf ByteArray.empty y106 (Int.tmod t105 6)).size + t110.size ≤ 9223372036854775807 then (some ((rdOf ByteArray.empty y106 (Int.tmod t105 6)) ++ t110)) else (none))) else (none)) else (none)) = some r := by first | (rw [hy106]; with_reducible exact H) | (have H2_ := (Option.bind_some _ _).symm.trans H; rw [hy106]; with_reducible exact H2_) | (have H2_ := (Option.bind_some _ _).symm.trans H; with_reducible exact H2_) | with_reducible exact H | (rw [hy106]; exact H) | exact H
  have Ny106 := Aside0.mk hy106
  clear hy106
  obtain ⟨ji3, hji3⟩ : ∃ j_ : Int, (Int.tmod t105 6) = j_ := ⟨_, rfl⟩
  replace H : (if 0 ≤ (ji3) then (if (ji3) < (y106.length : Int) then ((hagglerlaw06_decimal.f k (wrap64 (Int.tdiv t105 6))).bind fun t110 => (if (rdOf ByteArray.empty y106 (ji3)).size + t110.size ≤ 9223372036854775807 then (some ((rdOf ByteArray.empty y106 (ji3)) ++ t110)) else (none))) else (none)) else (none)) = some r := by first | (rw [hji3] at H; exact H) | (simp only [hji3] at H ⊢; exact H)
  (try rw [hji3] at A2)
  by_cases c4 : 0 ≤ (ji3)
  · rw [if_pos c4] at H
    have c4b0 : decide (0 ≤ (ji3)) = true := decide_eq_true c4
    clear c4
    by_cases c5 : (ji3) < (y106.length : Int)
    · rw [if_pos c5] at H
      have c5b0 : decide ((ji3) < (y106.length : Int)) = true := decide_eq_true c5
      clear c5
      replace H := Option.bind_eq_some_iff.mp H
      obtain ⟨t110, A60, H⟩ := H
      replace H : (if (rdOf ByteArray.empty y106 (ji3)).size + t110.size ≤ 9223372036854775807 then (some ((rdOf ByteArray.empty y106 (ji3)) ++ t110)) else (none)) = some r := H
      have A6 := Aside0.mk A60
      clear A60
      by_cases c7 : (rdOf ByteArray.empty y106 (ji3)).size + t110.size ≤ 9223372036854775807
      · rw [if_pos c7] at H
        have c7b0 := eq_true c7
        have c7b1 : decide ((rdOf ByteArray.empty y106 (ji3)).size + t110.size ≤ 9223372036854775807) = true := decide_eq_true c7
        try have c7b2 : (9223372036854775807 < (rdOf ByteArray.empty y106 (ji3)).size + t110.size) = False := eq_false (Nat.not_lt.2 c7)
        obtain rfl := Option.some.inj H
        go_enter Tryz.func13, Tryz.ntmps13
        try go_wp2_with (first | ((with_reducible refine gate_callee (f := 27) rfl ?_); refine goesL_ (some 5) rfl rfl Tryz.func27 (by kernel_rfl) rfl #[.int .i64 a0, .int .i64 60] rfl (by (try simp only [List.map_toArray, List.map_cons, List.map_nil]); first | done | rfl | (simp only [List.length_drop, List.length_take]; rfl)) ?_; (with_reducible refine (hagglerlaw06_pick.calls a0 60 t105 _ A2.out).mono ?_); rintro e w' ⟨rfl, ⟨nd, rfl⟩⟩; refine ⟨_, rfl, ?_⟩))
        have pi109 : (0 ≤ ((ji3) : Int)) = True := eq_true (of_decide_eq_true (by first | (with_reducible assumption) | assumption))
        have qi109 : ((ji3) < (y106.length : Int)) = True := eq_true (of_decide_eq_true (by first | (with_reducible assumption) | assumption))
        have n0_ := Aside0.mk (below_drew1 HB.out)
        clear HB
        have HB := n0_
        clear n0_
        refine start_ (n := 10) (S := fun w' => True) (ds := []) #[false, false, false, false, false, false, false, false, false, false] (by kernel_rfl) rfl rfl trivial (fun hHeld => ?_); refine with_tabW hagglerlaw06_Seller.tab2 hagglerlaw06_Seller.bits2 (fun HT_ HW_ => ?_)
        generalize w.drew = w8 at HB hHeld ⊢
        refine pure_ (i := 1) (N := some 7) (v := ?_) (a' := ?_) #[false, true, false, false, false, false, false, false, false, false] rfl rfl (any_of HT_.out (by kernel_rfl)) (fun _ _ _ h => h) (Or.inl ⟨by rfl, ?_⟩) ?_ ?_
        rotate_left
        · intro w'
          go_simp
          with_reducible rfl
        rotate_left
        · simp only [Act.put, List.setIfInBounds_toArray, List.set_cons_zero, List.set_cons_succ, i64_w, i32_w]
          rfl
        refine pure_ (i := 5) (N := some 11) (v := ?_) (a' := ?_) #[false, true, false, false, false, true, false, false, false, false] rfl rfl (any_of HT_.out (by kernel_rfl)) (fun _ _ _ h => h) (Or.inl ⟨by rfl, ?_⟩) ?_ ?_
        rotate_left
        · intro w'
          go_simp
          with_reducible rfl
        rotate_left
        · simp only [Act.put, List.setIfInBounds_toArray, List.set_cons_zero, List.set_cons_succ, i64_w, i32_w]
          rfl
        refine inv_at [0, 2, 3, 4, 6, 7, 8, 9] (fun a0_ b a w' => ∃ (v107 : Value) (adz_v107 : Addr) (m3_ : Value), a = putSel a0_ b [(0, 6, v107), (2, 8, .int .i64 ji3), (3, 9, m3_), (4, 10, .string (rdOf ByteArray.empty y106 (ji3))), (6, 12, .int .i64 (wrap64 (Int.tdiv t105 6))), (7, 13, .string t110), (8, 14, .string ((rdOf ByteArray.empty y106 (ji3)) ++ t110)), (9, 2, .string ((rdOf ByteArray.empty y106 (ji3)) ++ t110))] ∧ (Below w.heap.size w w') ∧ (b 0 = true → Kd.R Kd.string 9 w' w.heap.size (fun _ => True) v107 y106) ∧ (b 0 = true → ∃ c_, (v107 : Value) = .slice (some adz_v107) y106.length c_) ∧ (b 3 = true → (m3_ : Value) = .pointer (some (adz_v107.add ((ji3)).toNat)))) HT_.out HW_.out (by kernel_rfl) (by kernel_rfl) ?_ ?_ ?_
        · exact ⟨.bool false, ⟨0, 0, none⟩, .bool false, by simp only [putSel, Bool.false_eq_true, if_false], (by first | exact HB.out | (with_reducible repeat (first | exact HB.out | exact Below.refl _ _ | apply below_alloc | apply pw_below_drewN | apply below_drew1))), fun h_ => absurd h_ (by decide), fun h_ => absurd h_ (by decide), fun h_ => absurd h_ (by decide)⟩
        · skip
          clear HB
          refine steps_cons ?_ ?_
          · rintro b a w' ⟨v107, adz_v107, m3_, ha, Q_HB, Q_HO108, Q_HA_HO108, Q_X3_⟩ hb_ hon hoff
            refine ⟨_, rfl, fun K hK => ?_⟩
            replace ha := Aside0.mk ha
            have HB := Aside0.mk Q_HB
            refine Kd.R_lit_step Kd.string _ 9 ?hg (N := 6) ?hd (xs := ([(⟨#[97]⟩ : ByteArray), (⟨#[98, 111, 98]⟩ : ByteArray), (⟨#[108, 111, 119, 101, 115]⟩ : ByteArray), (⟨#[97, 99, 109, 101, 57]⟩ : ByteArray), (⟨#[120, 49]⟩ : ByteArray), (⟨#[101, 108, 115, 101, 101]⟩ : ByteArray)] : List ByteArray)) (inner := [.string (⟨#[97]⟩ : ByteArray), .string (⟨#[98, 111, 98]⟩ : ByteArray), .string (⟨#[108, 111, 119, 101, 115]⟩ : ByteArray), .string (⟨#[97, 99, 109, 101, 57]⟩ : ByteArray), .string (⟨#[120, 49]⟩ : ByteArray), .string (⟨#[101, 108, 115, 101, 101]⟩ : ByteArray)]) (ok := fun _ => True) (okp := fun _ => True) ?hr ?hp (fun _ hk => hk) trivial (Below.refl _ _) (Nat.le_refl _) (by simp) ?_; (case hd => rfl); (case hg => rfl); (case hr => first | (go_simp; done) | (go_simp; rfl)); (case hp => exact (Reps.one (show Kd.M Kd.string _ _ _ (⟨#[97]⟩ : ByteArray) [.string (⟨#[97]⟩ : ByteArray)] from rfl) (Reps.one (show Kd.M Kd.string _ _ _ (⟨#[98, 111, 98]⟩ : ByteArray) [.string (⟨#[98, 111, 98]⟩ : ByteArray)] from rfl) (Reps.one (show Kd.M Kd.string _ _ _ (⟨#[108, 111, 119, 101, 115]⟩ : ByteArray) [.string (⟨#[108, 111, 119, 101, 115]⟩ : ByteArray)] from rfl) (Reps.one (show Kd.M Kd.string _ _ _ (⟨#[97, 99, 109, 101, 57]⟩ : ByteArray) [.string (⟨#[97, 99, 109, 101, 57]⟩ : ByteArray)] from rfl) (Reps.one (show Kd.M Kd.string _ _ _ (⟨#[120, 49]⟩ : ByteArray) [.string (⟨#[120, 49]⟩ : ByteArray)] from rfl) (Reps.one (show Kd.M Kd.string _ _ _ (⟨#[101, 108, 115, 101, 101]⟩ : ByteArray) [.string (⟨#[101, 108, 115, 101, 101]⟩ : ByteArray)] from rfl) (Reps.none _ _))))))))
            intro v107 w9 ho10 hb hg_ hnew_
            clear hg_ hnew_
            (first | rw [← Ny106.out] at ho10 | (simp only [Int.reduceToNat] at ho10; rw [← Ny106.out] at ho10))
            have n0_ := Aside0.mk (Kd.R_lower ho10 (below_size (by repeat (first | (with_reducible first | exact HB.out | apply below_alloc | apply pw_below_drewN | apply below_drew1) | exact HB.out))))
            have n1_ := Aside0.mk (below_step (by repeat (first | (with_reducible first | exact HB.out | apply below_alloc | apply pw_below_drewN | apply below_drew1) | exact HB.out)) hb)
            clear HB
            have HO108 := n0_
            have HB := n1_
            clear n0_ n1_
            clear hb ho10
            obtain ⟨Ao11, co11, eo11⟩ := Kd.R_slice HO108.out
            subst eo11
            obtain ⟨ado11, fo11, _⟩ := Kd.at_string (Kd.R_reads' HO108.out).2.2 0 (by decide) (by rw [Ny106.out]; simp)
            cases fo11
            refine hK.out _ _ ⟨.slice (some ado11) y106.length co11, ado11, m3_, (by rw [ha.out]; exact putSel_upk 0 hb_ rfl rfl rfl), (by repeat (first | (with_reducible first | exact HB.out | apply below_alloc | apply pw_below_drewN | apply below_drew1) | exact HB.out)), fun _ => (by (with_reducible repeat (first | apply Kd.R_alloc | apply Kd.R_drewN | apply Kd.R_drew)); exact HO108.out), fun _ => ⟨_, rfl⟩, fun h0_ => absurd ((hoff 3 (by kernel_rfl)).symm.trans h0_) (by decide)⟩
          refine steps_cons ?_ ?_
          · rintro b a w' ⟨v107, adz_v107, m3_, ha, Q_HB, Q_HO108, Q_HA_HO108, Q_X3_⟩ hb_ hon hoff
            refine ⟨_, rfl, fun K hK => ?_⟩
            have e7 : a.tmps[7]? = some (.int .i64 t105) := by rw [ha]; exact (putSel_off rfl).trans rfl
            replace ha := Aside0.mk ha
            have HB := Aside0.mk Q_HB
            refine value_ (w1 := w') (v := .int .i64 ji3) (by rfl) rfl ?_ ?_
            · go_simp
              (try simp only [i64_w])
              try rfl
            refine hK.out _ _ ⟨v107, adz_v107, m3_, (by rw [ha.out]; exact putSel_upk 1 hb_ rfl rfl rfl), Q_HB, Q_HO108, Q_HA_HO108, fun h0_ => absurd ((hoff 3 (by kernel_rfl)).symm.trans h0_) (by decide)⟩
          refine steps_cons ?_ ?_
          · rintro b a w' ⟨v107, adz_v107, m3_, ha, Q_HB, Q_HO108, Q_HA_HO108, Q_X3_⟩ hb_ hon hoff
            refine ⟨_, rfl, fun K hK => ?_⟩
            have e6 : a.tmps[6]? = some (v107) := by rw [ha]; exact putSel_on (e := (0, 6, v107)) 0 rfl rfl (hon 0 (by kernel_rfl)) rfl
            have e8 : a.tmps[8]? = some (.int .i64 ji3) := by rw [ha]; exact putSel_on (e := (2, 8, .int .i64 ji3)) 1 rfl rfl (hon 2 (by kernel_rfl)) rfl
            replace ha := Aside0.mk ha
            have HB := Aside0.mk Q_HB
            have HO108 := Aside0.mk (Q_HO108 (hon 0 (by kernel_rfl)))
            have HA_HO108 := Aside0.mk (Q_HA_HO108 (hon 0 (by kernel_rfl)))
            obtain ⟨c_, hv_⟩ := HA_HO108.out
            rw [hv_] at e6
            refine value_ (w1 := w') (v := .pointer (some (adz_v107.add ((ji3)).toNat))) (by rfl) rfl ?_ ?_
            · go_simp
              (try simp only [i64_w])
              try rfl
            refine hK.out _ _ ⟨v107, adz_v107, (.pointer (some (adz_v107.add ((ji3)).toNat))), (by rw [ha.out]; exact putSel_upk 2 hb_ rfl rfl rfl), Q_HB, Q_HO108, Q_HA_HO108, fun _ => rfl⟩
          refine steps_cons ?_ ?_
          · rintro b a w' ⟨v107, adz_v107, m3_, ha, Q_HB, Q_HO108, Q_HA_HO108, Q_X3_⟩ hb_ hon hoff
            refine ⟨_, rfl, fun K hK => ?_⟩
            have e9 : a.tmps[9]? = some (m3_) := by rw [ha]; exact putSel_on (e := (3, 9, m3_)) 2 rfl rfl (hon 3 (by kernel_rfl)) rfl
            rw [Q_X3_ (hon 3 (by kernel_rfl))] at e9
            replace ha := Aside0.mk ha
            have HB := Aside0.mk Q_HB
            have HO108 := Aside0.mk (Q_HO108 (hon 0 (by kernel_rfl)))
            have HA_HO108 := Aside0.mk (Q_HA_HO108 (hon 0 (by kernel_rfl)))
            obtain ⟨c_, hv_⟩ := HA_HO108.out
            have hF_ := HO108.out
            rw [hv_] at hF_
            obtain ⟨ad_, ea_, hx_⟩ := Kd.at_string (Kd.R_reads' hF_).2.2 (ji3) (of_eq_true pi109) (of_eq_true qi109)
            cases ea_
            refine value_ (w1 := w') (v := .string (rdOf ByteArray.empty y106 (ji3))) (by rfl) rfl ?_ ?_
            · go_simp
              (try simp only [i64_w])
              try rfl
            refine hK.out _ _ ⟨v107, adz_v107, m3_, (by rw [ha.out]; exact putSel_upk 3 hb_ rfl rfl rfl), Q_HB, Q_HO108, Q_HA_HO108, Q_X3_⟩
          refine steps_cons ?_ ?_
          · rintro b a w' ⟨v107, adz_v107, m3_, ha, Q_HB, Q_HO108, Q_HA_HO108, Q_X3_⟩ hb_ hon hoff
            refine ⟨_, rfl, fun K hK => ?_⟩
            have e11 : a.tmps[11]? = some (.int .i64 t105) := by rw [ha]; exact (putSel_off rfl).trans rfl
            replace ha := Aside0.mk ha
            have HB := Aside0.mk Q_HB
            refine value_ (w1 := w') (v := .int .i64 (wrap64 (Int.tdiv t105 6))) (by rfl) rfl ?_ ?_
            · go_simp
              (try simp only [i64_w])
              try rfl
            refine hK.out _ _ ⟨v107, adz_v107, m3_, (by rw [ha.out]; exact putSel_upk 4 hb_ rfl rfl rfl), Q_HB, Q_HO108, Q_HA_HO108, Q_X3_⟩
          refine steps_cons ?_ ?_
          · rintro b a w' ⟨v107, adz_v107, m3_, ha, Q_HB, Q_HO108, Q_HA_HO108, Q_X3_⟩ hb_ hon hoff
            refine ⟨_, rfl, fun K hK => ?_⟩
            have e12 : a.tmps[12]? = some (.int .i64 (wrap64 (Int.tdiv t105 6))) := by rw [ha]; exact putSel_on (e := (6, 12, .int .i64 (wrap64 (Int.tdiv t105 6)))) 4 rfl rfl (hon 6 (by kernel_rfl)) rfl
            replace ha := Aside0.mk ha
            have HB := Aside0.mk Q_HB
            refine goes_ Tryz.func28 (by kernel_rfl) rfl #[.int .i64 (wrap64 (Int.tdiv t105 6))] (by rfl) rfl rfl (by first | (simp only [List.map_toArray, List.map_cons, List.map_nil, Act.eval, Array.getD_eq_getD_getElem?, Option.getD_some, e12]; done) | (simp only [List.map_toArray, List.map_cons, List.map_nil, Act.eval, Array.getD_eq_getD_getElem?, Option.getD_some, e12]; rfl)) ?_
            with_reducible refine (hagglerlaw06_decimal.calls k (wrap64 (Int.tdiv t105 6)) t110 _ A6.out).mono ?_
            rintro e w9 ⟨rfl, hb⟩
            refine ⟨_, rfl, ?_⟩
            have n0_ := Aside0.mk (below_step (by repeat (first | (with_reducible first | exact HB.out | apply below_alloc | apply pw_below_drewN | apply below_drew1) | exact HB.out)) hb)
            have z_HO108 := fun (h0_ : b 0 = true) => (show Kd.R Kd.string 9 w9 w.heap.size (fun _ => True) v107 y106 from by first | exact (Kd.R_below (by (with_reducible repeat (first | apply Kd.R_alloc | apply Kd.R_drewN | apply Kd.R_drew)); exact (Q_HO108 h0_)) hb) | exact Kd.R_mono (Kd.R_below (by (with_reducible repeat (first | apply Kd.R_alloc | apply Kd.R_drewN | apply Kd.R_drew)); exact (Q_HO108 h0_)) hb) (fun _ h_ => by first | trivial | exact h_ | exact h_.1))
            clear HB
            have HB := n0_
            clear n0_
            (try clear hb)
            (try clear hb2)
            (try clear hk)
            (try clear hi)
            refine hK.out _ _ ⟨v107, adz_v107, m3_, (by rw [ha.out]; exact putSel_upk 5 hb_ rfl rfl rfl), (by repeat (first | (with_reducible first | exact HB.out | apply below_alloc | apply pw_below_drewN | apply below_drew1) | exact HB.out)), z_HO108, Q_HA_HO108, Q_X3_⟩
          refine steps_cons ?_ ?_
          · rintro b a w' ⟨v107, adz_v107, m3_, ha, Q_HB, Q_HO108, Q_HA_HO108, Q_X3_⟩ hb_ hon hoff
            refine ⟨_, rfl, fun K hK => ?_⟩
            have e10 : a.tmps[10]? = some (.string (rdOf ByteArray.empty y106 (ji3))) := by rw [ha]; exact putSel_on (e := (4, 10, .string (rdOf ByteArray.empty y106 (ji3)))) 3 rfl rfl (hon 4 (by kernel_rfl)) rfl
            have e13 : a.tmps[13]? = some (.string t110) := by rw [ha]; exact putSel_on (e := (7, 13, .string t110)) 5 rfl rfl (hon 7 (by kernel_rfl)) rfl
            replace ha := Aside0.mk ha
            have HB := Aside0.mk Q_HB
            have HO108 := Aside0.mk (Q_HO108 (hon 0 (by kernel_rfl)))
            have HA_HO108 := Aside0.mk (Q_HA_HO108 (hon 0 (by kernel_rfl)))
            refine value_ (w1 := w') (v := .string ((rdOf ByteArray.empty y106 (ji3)) ++ t110)) (by rfl) rfl ?_ ?_
            · go_simp
              (try simp only [i64_w])
              try rfl
            refine hK.out _ _ ⟨v107, adz_v107, m3_, (by rw [ha.out]; exact putSel_upk 6 hb_ rfl rfl rfl), Q_HB, Q_HO108, Q_HA_HO108, Q_X3_⟩
          refine steps_cons ?_ ?_
          · rintro b a w' ⟨v107, adz_v107, m3_, ha, Q_HB, Q_HO108, Q_HA_HO108, Q_X3_⟩ hb_ hon hoff
            refine ⟨_, rfl, fun K hK => ?_⟩
            have e14 : a.tmps[14]? = some (.string ((rdOf ByteArray.empty y106 (ji3)) ++ t110)) := by rw [ha]; exact putSel_on (e := (8, 14, .string ((rdOf ByteArray.empty y106 (ji3)) ++ t110))) 6 rfl rfl (hon 8 (by kernel_rfl)) rfl
            replace ha := Aside0.mk ha
            have HB := Aside0.mk Q_HB
            have HO108 := Aside0.mk (Q_HO108 (hon 0 (by kernel_rfl)))
            have HA_HO108 := Aside0.mk (Q_HA_HO108 (hon 0 (by kernel_rfl)))
            refine value_ (w1 := w') (v := .string ((rdOf ByteArray.empty y106 (ji3)) ++ t110)) (by rfl) rfl ?_ ?_
            · go_simp
              (try simp only [i64_w])
              try rfl
            refine hK.out _ _ ⟨v107, adz_v107, m3_, (by rw [ha.out]; exact putSel_upk 7 hb_ rfl rfl rfl), Q_HB, Q_HO108, Q_HA_HO108, Q_X3_⟩
          exact steps_nil
        rintro b a w13 hall ⟨v107, adz_v107, m3_, ha, Q_HB, Q_HO108, Q_HA_HO108, Q_X3_⟩
        clear HB
        have hb0_ := hall 0 (by kernel_rfl)
        have hb2_ := hall 2 (by kernel_rfl)
        have hb3_ := hall 3 (by kernel_rfl)
        have hb4_ := hall 4 (by kernel_rfl)
        have hb6_ := hall 6 (by kernel_rfl)
        have hb7_ := hall 7 (by kernel_rfl)
        have hb8_ := hall 8 (by kernel_rfl)
        have hb9_ := hall 9 (by kernel_rfl)
        subst ha
        obtain rfl := Q_X3_ hb3_
        simp only [putSel, hb0_, hb2_, hb3_, hb4_, hb6_, hb7_, hb8_, hb9_, if_true, Act.put, List.setIfInBounds_toArray, List.set_cons_zero, List.set_cons_succ]
        have HB := Aside0.mk Q_HB
        clear Q_HB
        have HO108 := Aside0.mk (Q_HO108 hb0_)
        clear Q_HO108
        have HA_HO108 := Aside0.mk (Q_HA_HO108 hb0_)
        clear Q_HA_HO108
        clear hall hb0_ hb2_ hb3_ hb4_ hb6_ hb7_ hb8_ hb9_
        obtain ⟨co14, eo14⟩ := HA_HO108.out
        clear HA_HO108
        subst eo14
        try go_wp2
        go_ret
        exact ⟨by first | rfl | (simp [errW_none, errW_some] <;> rfl) | (simp only [← hji3]; first | rfl | (simp [errW_none, errW_some] <;> rfl)) | (simp [*, errW_none, errW_some] <;> rfl), by repeat (first | (with_reducible first | exact HB.out | apply below_alloc | apply pw_below_drewN | apply below_drew1) | exact HB.out)⟩
      · rw [if_neg c7] at H
        exact absurd H (by simp)
    · rw [if_neg c5] at H
      exact absurd H (by simp)
  · rw [if_neg c4] at H
    exact absurd H (by simp)

-- NOT PRINTED: function 5 (hagglerlaw12_Line)

end Go.Proofs.YtbecemdehelooaaGreatDoor.HLine
