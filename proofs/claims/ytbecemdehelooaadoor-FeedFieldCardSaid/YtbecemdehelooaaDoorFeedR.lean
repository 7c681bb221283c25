/- The document's numbers and amounts. -/
import Derived.Test.YtbecemdehelooaaDoorFeedPm
namespace Go.Proofs.YtbecemdehelooaaDoor.FeedR
open Go.RowKit Go.Proofs.YtbecemdehelooaaDoor.FrameS Go.Proofs.YtbecemdehelooaaDoor.FrameP Go.Proofs.YtbecemdehelooaaDoor.FeedG Go.Proofs.YtbecemdehelooaaDoor.FeedD Go.Proofs.YtbecemdehelooaaDoor.FeedT Go.Proofs.YtbecemdehelooaaDoor.FeedP Go.Proofs.YtbecemdehelooaaDoor.FeedX Go.Proofs.YtbecemdehelooaaDoor.FeedN Go.Proofs.YtbecemdehelooaaDoor.FeedE Go.Proofs.YtbecemdehelooaaDoor.FeedPl Go.Proofs.YtbecemdehelooaaDoorW.PrintWords Go.Proofs.YtbecemdehelooaaDoorW.PrintLast Go.Proofs.YtbecemdehelooaaDoorW.PrintMore
set_option linter.unusedVariables false
set_option linter.unusedSimpArgs false
theorem bd_app (a b : List UInt8) : bd (a ++ b) = bd a ++ bd b := by
  apply tl_inj
  simp [tl, bd, ByteArray.data_append]
theorem digits_size (u : Nat) (h : u ≤ 9223372036854775807) : (bd (Lib.decDigits u)).size ≤ 21 := by
  have := Lib.itoa_length_le (u : Int) (by omega) (by omega)
  rw [Lib.itoa_nonneg] at this
  show (Lib.decDigits u).toArray.size ≤ 21
  rw [List.size_toArray]
  exact this
set_option maxHeartbeats 1000000 in
set_option maxRecDepth 20000 in
theorem digits_calls : ∀ (u : Nat), u ≤ 9223372036854775807 → ∀ w : World, Calls Tryd.prog 42 #[.int .i64 (u : Int)] w fun e w' => e = .returned (.string (bd (Lib.decDigits u))) ∧ Below w.heap.size w w' := by
  intro u
  induction u using Nat.strongRecOn with
  | ind u ih =>
    intro hu w
    have hq1 : Int.tmod (u : Int) 10 = ((u % 10 : Nat) : Int) := by rw [Int.tmod_eq_emod_of_nonneg (by omega)]; omega
    have hq2 : Int.tdiv (u : Int) 10 = ((u / 10 : Nat) : Int) := by rw [Int.tdiv_eq_ediv_of_nonneg (by omega)]; omega
    have hb : (UInt8.ofNat (48 + u % 10)).toNat = 48 + u % 10 := by rw [UInt8.toNat_ofNat']; omega
    have hcv : ∀ w0 : World, w0.heap.size = w.heap.size → (convert 53 9 (.slice (some ⟨w.heap.size, 0, none⟩) 1 1)).run Tryd.prog (w0.alloc (.cells #[.int .u8 (48 + (u : Int) % 10)] 5)) = .ok (.string (bd [UInt8.ofNat (48 + u % 10)])) (w0.alloc (.cells #[.int .u8 (48 + (u : Int) % 10)] 5)) := by
      intro w0 hw0
      refine run_convert_bytes_back (P := Tryd.prog) _ 53 9 5 ⟨w.heap.size, 0, none⟩ 1 [UInt8.ofNat (48 + u % 10)] (by kernel_rfl) (by kernel_rfl) (by kernel_rfl) (fun j hj => ?_)
      obtain rfl : j = 0 := by simp at hj; omega
      have this : (w0.alloc (.cells #[.int .u8 (48 + (u : Int) % 10)] 5)).cell? ⟨w0.heap.size, 0, none⟩ = some (.int .u8 (48 + (u : Int) % 10)) := (new_cell w0 _ _ 0).trans rfl
      rw [show (⟨w.heap.size, 0, none⟩ : Addr).add 0 = ⟨w0.heap.size, 0, none⟩ by rw [hw0]; rfl]
      rw [this]
      simp only [List.getElem_cons_zero, hb]
      simp
    have hcv1 := hcv w rfl
    have HS := Aside0.mk (show Lib.decDigits (u % 10) = [UInt8.ofNat (48 + u % 10)] by rw [Lib.decDigits_one (by omega)])
    have HB := Aside0.mk (below_alloc (Below.refl w.heap.size w) (.cells #[.int .u8 (48 + (u : Int) % 10)] 5))
    obtain ⟨D, hD⟩ : ∃ D, bd [UInt8.ofNat (48 + u % 10)] = D := ⟨_, rfl⟩
    rw [hD] at hcv1
    have HDD := Aside0.mk hD
    have HZ := Aside0.mk (show D.size = 1 by rw [← hD]; rfl)
    clear hcv hb hD hq1
    by_cases h10 : 10 ≤ u
    · have IH := Lib.hid (ih (u / 10) (by omega) (by omega))
      have HD := Aside0.mk (show bd (Lib.decDigits u) = bd (Lib.decDigits (u / 10)) ++ D by rw [← HDD.out, ← bd_app]; rw [Lib.decDigits, dif_neg (by omega)])
      have d1 : ((10 : Int) ≤ (u : Int)) = True := eq_true (by omega)
      have HU := Aside0.mk hu
      have HW := Aside0.mk (show wrap64 ((u : Int) / 10) = ((u / 10 : Nat) : Int) by unfold wrap64; omega)
      clear ih hu h10 hq2
      go_enter Tryd.func42, Tryd.ntmps42
      go_wp2_with fail
      rw [HW.out]
      refine (IH.out _).mono ?_
      rintro e w2 ⟨rfl, b⟩
      have B2 := Aside0.mk (below_step HB.out b)
      obtain ⟨P, hP⟩ : ∃ P, bd (Lib.decDigits (u / 10)) = P := ⟨_, rfl⟩
      have hPs : P.size ≤ 30 := by rw [← hP]; exact Nat.le_trans (digits_size (u / 10) (by have := HU.out; omega)) (by decide)
      rw [hP] at HD ⊢
      have q1 : (9223372036854775807 < P.size + D.size) = False := eq_false (by have := HZ.out; omega)
      clear b hP
      go_wp2_with fail
      go_ret
      exact ⟨by rw [HD.out]; rfl, B2.out⟩
    · have d1 : ((10 : Int) ≤ (u : Int)) = False := eq_false (by omega)
      have HD := Aside0.mk (show bd (Lib.decDigits u) = D by rw [← HDD.out, ← HS.out, Nat.mod_eq_of_lt (by omega)])
      clear ih hu h10
      go_enter Tryd.func42, Tryd.ntmps42
      go_wp2_with fail
      go_ret
      exact ⟨by rw [HD.out]; rfl, HB.out⟩
set_option maxHeartbeats 1000000 in
set_option maxRecDepth 20000 in
theorem number_calls (u : Nat) (hu : u ≤ 9223372036854775807) (w : World) : Calls Tryd.prog 26 #[.int .i64 (u : Int)] w fun e w' => e = .returned (.string (bd (Lib.itoa (u : Int)))) ∧ Below w.heap.size w w' := by
  have HD := Aside0.mk (digits_calls u hu w)
  have d1 : decide ((0 : Int) ≤ (u : Int)) = true := decide_eq_true (by omega)
  have d2 : ((0 : Int) ≤ (u : Int)) = True := eq_true (by omega)
  clear hu
  go_enter Tryd.func26, Tryd.ntmps26
  go_wp2_with fail
  refine HD.out.mono ?_
  rintro e w2 ⟨rfl, b⟩
  have B := Aside0.mk b
  clear b
  go_wp2_with fail
  go_ret
  exact ⟨by rw [Lib.itoa_nonneg]; rfl, B.out⟩
theorem three_drop (m : Nat) (h : m < 100) : (Lib.itoa ((100 + m : Nat) : Int)).drop 1 = Lib.decDigits (m / 10) ++ Lib.decDigits (m % 10) := by
  rw [Lib.itoa_nonneg, Lib.decDigits, dif_neg (by omega), Lib.decDigits_two (by omega) (by omega), Lib.decDigits_one (by omega), Lib.decDigits_one (by omega)]
  have e1 : (100 + m) / 10 % 10 = m / 10 := by omega
  have e2 : (100 + m) % 10 = m % 10 := by omega
  rw [e1, e2]
  rfl
theorem rest_digits (u : Nat) : bd (restL u) = bd (Lib.decDigits (u / 100)) ++ (⟨#[46]⟩ : ByteArray) ++ bd (Lib.decDigits (u / 10 % 10)) ++ bd (Lib.decDigits (u % 10)) := by
  have e3 : (⟨#[46]⟩ : ByteArray) = bd [46] := rfl
  have e1 : u % 100 / 10 = u / 10 % 10 := by omega
  have e2 : u % 100 % 10 = u % 10 := by omega
  rw [e3, ← bd_app, ← bd_app, ← bd_app]
  unfold restL
  rw [three_drop _ (by omega), Lib.itoa_nonneg, e1, e2]
  simp
set_option maxHeartbeats 1000000 in
set_option maxRecDepth 20000 in
theorem text_nat (u : Nat) (hu : u ≤ 1000000000000) (w : World) : Calls Tryd.prog 25 #[.int .i64 (u : Int)] w fun e w' => e = .returned (.string (bd (restL u))) ∧ Below w.heap.size w w' := by
  have D1 := Aside0.mk (fun w0 => digits_calls (u / 100) (by omega) w0)
  have D2 := Aside0.mk (fun w0 => digits_calls (u / 10 % 10) (by omega) w0)
  have D3 := Aside0.mk (fun w0 => digits_calls (u % 10) (by omega) w0)
  have HR := Aside0.mk (rest_digits u)
  have z1 := digits_size (u / 100) (by omega)
  have z2 := digits_size (u / 10 % 10) (by omega)
  have z3 := digits_size (u % 10) (by omega)
  obtain ⟨P1, hP1⟩ : ∃ P, bd (Lib.decDigits (u / 100)) = P := ⟨_, rfl⟩
  obtain ⟨P2, hP2⟩ : ∃ P, bd (Lib.decDigits (u / 10 % 10)) = P := ⟨_, rfl⟩
  obtain ⟨P3, hP3⟩ : ∃ P, bd (Lib.decDigits (u % 10)) = P := ⟨_, rfl⟩
  rw [hP1] at D1 HR z1
  rw [hP2] at D2 HR z2
  rw [hP3] at D3 HR z3
  have n1 : Aside0 (wrap64 ((u : Int) / 100) = ((u / 100 : Nat) : Int)) := ⟨by unfold wrap64; omega⟩
  have n2 : Aside0 (wrap64 ((u : Int) / 10) = ((u / 10 : Nat) : Int)) := ⟨by unfold wrap64; omega⟩
  have a1 : Aside0 ((wrap64 ((u : Int) / 10)).tmod 10 = ((u / 10 % 10 : Nat) : Int)) := ⟨by rw [n2.out, Int.tmod_eq_emod_of_nonneg (by omega)]; omega⟩
  have a3 : Aside0 (Int.tmod (u : Int) 10 = ((u % 10 : Nat) : Int)) := ⟨by rw [Int.tmod_eq_emod_of_nonneg (by omega)]; omega⟩
  have a2 : Aside0 ((u : Int) % 10 = ((u % 10 : Nat) : Int)) := ⟨by omega⟩
  have t1 : Int.tdiv (u : Int) 100 = ((u / 100 : Nat) : Int) := by rw [Int.tdiv_eq_ediv_of_nonneg (by omega)]; omega
  have t2 : Int.tdiv (u : Int) 10 = ((u / 10 : Nat) : Int) := by rw [Int.tdiv_eq_ediv_of_nonneg (by omega)]; omega
  have d1 : decide ((u : Int) < -1000000000000) = false := decide_eq_false (by omega)
  have d2 : decide ((1000000000000 : Int) < (u : Int)) = false := decide_eq_false (by omega)
  have d3 : decide ((u : Int) < 0) = false := decide_eq_false (by omega)
  have q0 : (P1 ++ (⟨#[46]⟩ : ByteArray)).size = P1.size + 1 := by rw [ByteArray.size_append]; rfl
  have q1 : (9223372036854775807 < P1.size + 1) = False := eq_false (by omega)
  have q2 : (9223372036854775807 < P1.size + 1 + P2.size) = False := eq_false (by omega)
  have q3 : (9223372036854775807 < P1.size + 1 + P2.size + P3.size) = False := eq_false (by omega)
  clear hP1 hP2 hP3 z1 z2 z3 hu
  go_enter Tryd.func25, Tryd.ntmps25
  go_wp2_with fail
  (try rw [n1.out])
  refine (D1.out _).mono ?_
  rintro e w2 ⟨rfl, b1⟩
  have B1 := Aside0.mk b1
  clear b1
  go_wp2_with fail
  rw [a1.out]
  refine (D2.out _).mono ?_
  rintro e w3 ⟨rfl, b2⟩
  have B2 := Aside0.mk (below_step B1.out b2)
  clear b2
  go_wp2_with fail
  (try rw [a2.out]); (try rw [a3.out])
  refine (D3.out _).mono ?_
  rintro e w4 ⟨rfl, b3⟩
  have B3 := Aside0.mk (below_step B2.out b3)
  clear b3
  go_wp2_with fail
  go_ret
  exact ⟨by rw [HR.out]; rfl, B3.out⟩
theorem in_nat (u : Nat) (h : u ≤ 1000000000000) : InMoney (u : Int) = true ∧ InMoney (-(u : Int)) = true := by
  unfold InMoney
  rw [decide_eq_true (by omega), decide_eq_true (by omega), decide_eq_true (by omega), decide_eq_true (by omega)]
  exact ⟨rfl, rfl⟩
set_option maxHeartbeats 1000000 in
set_option maxRecDepth 20000 in
theorem reftext_calls (a : Int) (w : World) : Calls Tryd.prog 25 #[.int .i64 a] w fun e w' => e = .returned (.string (bd (textL a))) ∧ Below w.heap.size w w' := by
  by_cases h0 : a < -1000000000000
  · have HR := Aside0.mk (show textL a = [] by unfold textL InMoney; rw [decide_eq_false (by omega : ¬ -1000000000000 ≤ a)]; rfl)
    have d1 : decide (a < -1000000000000) = true := decide_eq_true h0
    clear h0
    go_enter Tryd.func25, Tryd.ntmps25
    go_wp2_with fail
    go_ret
    exact ⟨by rw [HR.out]; rfl, Below.refl _ _⟩
  by_cases h1 : 1000000000000 < a
  · have HR := Aside0.mk (show textL a = [] by unfold textL InMoney; rw [decide_eq_false (by omega : ¬ a ≤ 1000000000000), Bool.and_false]; rfl)
    have d1 : decide (a < -1000000000000) = false := decide_eq_false h0
    have d2 : decide ((1000000000000 : Int) < a) = true := decide_eq_true h1
    clear h0 h1
    go_enter Tryd.func25, Tryd.ntmps25
    go_wp2_with fail
    go_ret
    exact ⟨by rw [HR.out]; rfl, Below.refl _ _⟩
  by_cases h2 : a < 0
  · obtain ⟨u, hu⟩ : ∃ u : Nat, a = -(u : Int) := ⟨a.natAbs, by omega⟩
    have HR := Aside0.mk (show textL a = 45 :: restL u by unfold textL; rw [hu, if_pos (in_nat u (by omega)).2, if_pos (by omega), show (-(u : Int)).natAbs = u by omega]; rfl)
    have HT := Aside0.mk (text_nat u (by omega) w)
    have hsz : (bd (restL u)).size ≤ 40 := by
      have := text_size (u : Int)
      have e : textL (u : Int) = restL u := by unfold textL; rw [if_pos (in_nat u (by omega)).1, if_neg (by omega)]; simp
      rw [e] at this
      show (restL u).toArray.size ≤ 40
      rw [List.size_toArray]; omega
    have d1 : decide (a < -1000000000000) = false := decide_eq_false h0
    have d2 : decide ((1000000000000 : Int) < a) = false := decide_eq_false h1
    have d3 : decide (a < 0) = true := decide_eq_true h2
    have n1 : wrap64 (-a) = (u : Int) := by unfold wrap64; omega
    obtain ⟨T, hT⟩ : ∃ T, bd (restL u) = T := ⟨_, rfl⟩
    have HTT := Aside0.mk (show bd (45 :: restL u) = (⟨#[45]⟩ : ByteArray) ++ T by rw [← hT]; exact bd_app [45] (restL u))
    rw [hT] at HT hsz
    have q0 : (9223372036854775807 < 1 + T.size) = False := eq_false (by omega)
    have HN := Aside0.mk n1
    clear h0 h1 h2 hT hsz hu n1
    go_enter Tryd.func25, Tryd.ntmps25
    go_wp2_with fail
    rw [HN.out]
    refine HT.out.mono ?_
    rintro e w2 ⟨rfl, b⟩
    have B := Aside0.mk b
    clear b
    go_wp2_with fail
    go_ret
    exact ⟨by rw [HR.out, HTT.out]; rfl, B.out⟩
  · obtain ⟨u, rfl⟩ : ∃ u : Nat, a = (u : Int) := ⟨a.toNat, by omega⟩
    have HR : textL (u : Int) = restL u := by unfold textL; rw [if_pos (in_nat u (by omega)).1, if_neg (by omega)]; simp
    rw [HR]
    exact text_nat u (by omega) w
end Go.Proofs.YtbecemdehelooaaDoor.FeedR
