/- The document's numbers and amounts. -/
import Derived.Test.YtbecemdehelooaaGreatDoorFeedPm
namespace Go.Proofs.YtbecemdehelooaaGreatDoor.FeedR
open Go.RowKit Go.Proofs.YtbecemdehelooaaGreatDoor.FrameS Go.Proofs.YtbecemdehelooaaGreatDoor.FrameP Go.Proofs.YtbecemdehelooaaGreatDoor.FeedG Go.Proofs.YtbecemdehelooaaGreatDoor.FeedD Go.Proofs.YtbecemdehelooaaGreatDoor.FeedT Go.Proofs.YtbecemdehelooaaGreatDoor.FeedP Go.Proofs.YtbecemdehelooaaGreatDoor.FeedX Go.Proofs.YtbecemdehelooaaGreatDoor.FeedN Go.Proofs.YtbecemdehelooaaGreatDoor.FeedE Go.Proofs.YtbecemdehelooaaGreatDoor.FeedPl Go.Proofs.YtbecemdehelooaaGreatDoorW.PrintWords Go.Proofs.YtbecemdehelooaaGreatDoorW.PrintLast Go.Proofs.YtbecemdehelooaaGreatDoorW.PrintMore
set_option linter.unusedVariables false
set_option linter.unusedSimpArgs false
theorem bd_app (a b : List UInt8) : bd (a ++ b) = bd a ++ bd b := by
  apply tl_inj
  simp [tl, bd, ByteArray.data_append]
theorem digits_size (u : Nat) (h : u ≤ 9223372036854775807) : (bd (Lib.decDigits u)).size ≤ 21 := by
  have := Lib.itoa_length_le (u : Int) (by omega) (by omega)
  rw [Lib.itoa_nonneg] at this
  show (Lib.decDigits u).toArray.size ≤ 21
  rw [List.size_toArray]
  exact this
set_option maxHeartbeats 1000000 in
set_option maxRecDepth 20000 in
theorem digits_calls : ∀ (u : Nat), u ≤ 9223372036854775807 → ∀ w : World, Calls Tryz.prog 34 #[.int .i64 (u : Int)] w fun e w' => e = .returned (.string (bd (Lib.decDigits u))) ∧ Below w.heap.size w w' := by
  intro u
  induction u using Nat.strongRecOn with
  | ind u ih =>
    intro hu w
    have hq1 : Int.tmod (u : Int) 10 = ((u % 10 : Nat) : Int) := by rw [Int.tmod_eq_emod_of_nonneg (by omega)]; omega
    have hq2 : Int.tdiv (u : Int) 10 = ((u / 10 : Nat) : Int) := by rw [Int.tdiv_eq_ediv_of_nonneg (by omega)]; omega
    have hb : (UInt8.ofNat (48 + u % 10)).toNat = 48 + u % 10 := by rw [UInt8.toNat_ofNat']; omega
    have hcv : ∀ w0 : World, w0.heap.size = w.heap.size → (convert 50 9 (.slice (some ⟨w.heap.size, 0, none⟩) 1 1)).run Tryz.prog (w0.alloc (.cells #[.int .u8 (48 + (u : Int) % 10)] 5)) = .ok (.string (bd [UInt8.ofNat (48 + u % 10)])) (w0.alloc (.cells #[.int .u8 (48 + (u : Int) % 10)] 5)) := by
      intro w0 hw0
      refine run_convert_bytes_back (P := Tryz.prog) _ 50 9 5 ⟨w.heap.size, 0, none⟩ 1 [UInt8.ofNat (48 + u % 10)] (by kernel_rfl) (by kernel_rfl) (by kernel_rfl) (fun j hj => ?_)
      obtain rfl : j = 0 := by simp at hj; omega
      have this : (w0.alloc (.cells #[.int .u8 (48 + (u : Int) % 10)] 5)).cell? ⟨w0.heap.size, 0, none⟩ = some (.int .u8 (48 + (u : Int) % 10)) := (new_cell w0 _ _ 0).trans rfl
      rw [show (⟨w.heap.size, 0, none⟩ : Addr).add 0 = ⟨w0.heap.size, 0, none⟩ by rw [hw0]; rfl]
      rw [this]
      simp only [List.getElem_cons_zero, hb]
      simp
    have hcv1 := hcv w rfl
    have HS := Aside0.mk (show Lib.decDigits (u % 10) = [UInt8.ofNat (48 + u % 10)] by rw [Lib.decDigits_one (by omega)])
    have HB := Aside0.mk (below_alloc (Below.refl w.heap.size w) (.cells #[.int .u8 (48 + (u : Int) % 10)] 5))
    obtain ⟨D, hD⟩ : ∃ D, bd [UInt8.ofNat (48 + u % 10)] = D := ⟨_, rfl⟩
    rw [hD] at hcv1
    have HDD := Aside0.mk hD
    have HZ := Aside0.mk (show D.size = 1 by rw [← hD]; rfl)
    clear hcv hb hD hq1
    by_cases h10 : 10 ≤ u
    · have IH := Lib.hid (ih (u / 10) (by omega) (by omega))
      have HD := Aside0.mk (show bd (Lib.decDigits u) = bd (Lib.decDigits (u / 10)) ++ D by rw [← HDD.out, ← bd_app]; rw [Lib.decDigits, dif_neg (by omega)])
      have d1 : ((10 : Int) ≤ (u : Int)) = True := eq_true (by omega)
      have HU := Aside0.mk hu
      have HW := Aside0.mk (show wrap64 ((u : Int) / 10) = ((u / 10 : Nat) : Int) by unfold wrap64; omega)
      clear ih hu h10 hq2
      go_enter Tryz.func34, Tryz.ntmps34
      go_wp2_with fail
      rw [HW.out]
      refine (IH.out _).mono ?_
      rintro e w2 ⟨rfl, b⟩
      have B2 := Aside0.mk (below_step HB.out b)
      obtain ⟨P, hP⟩ : ∃ P, bd (Lib.decDigits (u / 10)) = P := ⟨_, rfl⟩
      have hPs : P.size ≤ 30 := by rw [← hP]; exact Nat.le_trans (digits_size (u / 10) (by have := HU.out; omega)) (by decide)
      rw [hP] at HD ⊢
      have q1 : (9223372036854775807 < P.size + D.size) = False := eq_false (by have := HZ.out; omega)
      clear b hP
      go_wp2_with fail
      go_ret
      exact ⟨by rw [HD.out]; rfl, B2.out⟩
    · have d1 : ((10 : Int) ≤ (u : Int)) = False := eq_false (by omega)
      have HD := Aside0.mk (show bd (Lib.decDigits u) = D by rw [← HDD.out, ← HS.out, Nat.mod_eq_of_lt (by omega)])
      clear ih hu h10
      go_enter Tryz.func34, Tryz.ntmps34
      go_wp2_with fail
      go_ret
      exact ⟨by rw [HD.out]; rfl, HB.out⟩
set_option maxHeartbeats 1000000 in
set_option maxRecDepth 20000 in
theorem number_calls (u : Nat) (hu : u ≤ 9223372036854775807) (w : World) : Calls Tryz.prog 18 #[.int .i64 (u : Int)] w fun e w' => e = .returned (.string (bd (Lib.itoa (u : Int)))) ∧ Below w.heap.size w w' := by
  have HD := Aside0.mk (digits_calls u hu w)
  have d1 : decide ((0 : Int) ≤ (u : Int)) = true := decide_eq_true (by omega)
  have d2 : ((0 : Int) ≤ (u : Int)) = True := eq_true (by omega)
  clear hu
  go_enter Tryz.func18, Tryz.ntmps18
  go_wp2_with fail
  refine HD.out.mono ?_
  rintro e w2 ⟨rfl, b⟩
  have B := Aside0.mk b
  clear b
  go_wp2_with fail
  go_ret
  exact ⟨by rw [Lib.itoa_nonneg]; rfl, B.out⟩
theorem three_drop (m : Nat) (h : m < 100) : (Lib.itoa ((100 + m : Nat) : Int)).drop 1 = Lib.decDigits (m / 10) ++ Lib.decDigits (m % 10) := by
  rw [Lib.itoa_nonneg, Lib.decDigits, dif_neg (by omega), Lib.decDigits_two (by omega) (by omega), Lib.decDigits_one (by omega), Lib.decDigits_one (by omega)]
  have e1 : (100 + m) / 10 % 10 = m / 10 := by omega
  have e2 : (100 + m) % 10 = m % 10 := by omega
  rw [e1, e2]
  rfl
theorem rest_digits (u : Nat) : bd (restL u) = bd (Lib.decDigits (u / 100)) ++ (⟨#[46]⟩ : ByteArray) ++ bd (Lib.decDigits (u / 10 % 10)) ++ bd (Lib.decDigits (u % 10)) := by
  have e3 : (⟨#[46]⟩ : ByteArray) = bd [46] := rfl
  have e1 : u % 100 / 10 = u / 10 % 10 := by omega
  have e2 : u % 100 % 10 = u % 10 := by omega
  rw [e3, ← bd_app, ← bd_app, ← bd_app]
  unfold restL
  rw [three_drop _ (by omega), Lib.itoa_nonneg, e1, e2]
  simp
set_option maxHeartbeats 1000000 in
set_option maxRecDepth 20000 in
theorem text_nat (u : Nat) (hu : u ≤ 1000000000000) (w : World) : Calls Tryz.prog 17 #[.int .i64 (u : Int)] w fun e w' => e = .returned (.string (bd (restL u))) ∧ Below w.heap.size w w' := by
  have D1 := Aside0.mk (fun w0 => digits_calls (u / 100) (by omega) w0)
  have D2 := Aside0.mk (fun w0 => digits_calls (u / 10 % 10) (by omega) w0)
  have D3 := Aside0.mk (fun w0 => digits_calls (u % 10) (by omega) w0)
  have HR := Aside0.mk (rest_digits u)
  have z1 := digits_size (u / 100) (by omega)
  have z2 := digits_size (u / 10 % 10) (by omega)
  have z3 := digits_size (u % 10) (by omega)
  obtain ⟨P1, hP1⟩ : ∃ P, bd (Lib.decDigits (u / 100)) = P := ⟨_, rfl⟩
  obtain ⟨P2, hP2⟩ : ∃ P, bd (Lib.decDigits (u / 10 % 10)) = P := ⟨_, rfl⟩
  obtain ⟨P3, hP3⟩ : ∃ P, bd (Lib.decDigits (u % 10)) = P := ⟨_, rfl⟩
  rw [hP1] at D1 HR z1
  rw [hP2] at D2 HR z2
  rw [hP3] at D3 HR z3
  have n1 : Aside0 (wrap64 ((u : Int) / 100) = ((u / 100 : Nat) : Int)) := ⟨by unfold wrap64; omega⟩
  have n2 : Aside0 (wrap64 ((u : Int) / 10) = ((u / 10 : Nat) : Int)) := ⟨by unfold wrap64; omega⟩
  have a1 : Aside0 ((wrap64 ((u : Int) / 10)).tmod 10 = ((u / 10 % 10 : Nat) : Int)) := ⟨by rw [n2.out, Int.tmod_eq_emod_of_nonneg (by omega)]; omega⟩
  have a3 : Aside0 (Int.tmod (u : Int) 10 = ((u % 10 : Nat) : Int)) := ⟨by rw [Int.tmod_eq_emod_of_nonneg (by omega)]; omega⟩
  have a2 : Aside0 ((u : Int) % 10 = ((u % 10 : Nat) : Int)) := ⟨by omega⟩
  have t1 : Int.tdiv (u : Int) 100 = ((u / 100 : Nat) : Int) := by rw [Int.tdiv_eq_ediv_of_nonneg (by omega)]; omega
  have t2 : Int.tdiv (u : Int) 10 = ((u / 10 : Nat) : Int) := by rw [Int.tdiv_eq_ediv_of_nonneg (by omega)]; omega
  have d1 : decide ((u : Int) < -1000000000000) = false := decide_eq_false (by omega)
  have d2 : decide ((1000000000000 : Int) < (u : Int)) = false := decide_eq_false (by omega)
  have d3 : decide ((u : Int) < 0) = false := decide_eq_false (by omega)
  have q0 : (P1 ++ (⟨#[46]⟩ : ByteArray)).size = P1.size + 1 := by rw [ByteArray.size_append]; rfl
  have q1 : (9223372036854775807 < P1.size + 1) = False := eq_false (by omega)
  have q2 : (9223372036854775807 < P1.size + 1 + P2.size) = False := eq_false (by omega)
  have q3 : (9223372036854775807 < P1.size + 1 + P2.size + P3.size) = False := eq_false (by omega)
  clear hP1 hP2 hP3 z1 z2 z3 hu
  go_enter Tryz.func17, Tryz.ntmps17
  go_wp2_with fail
  (try rw [n1.out])
  refine (D1.out _).mono ?_
  rintro e w2 ⟨rfl, b1⟩
  have B1 := Aside0.mk b1
  clear b1
  go_wp2_with fail
  rw [a1.out]
  refine (D2.out _).mono ?_
  rintro e w3 ⟨rfl, b2⟩
  have B2 := Aside0.mk (below_step B1.out b2)
  clear b2
  go_wp2_with fail
  (try rw [a2.out]); (try rw [a3.out])
  refine (D3.out _).mono ?_
  rintro e w4 ⟨rfl, b3⟩
  have B3 := Aside0.mk (below_step B2.out b3)
  clear b3
  go_wp2_with fail
  go_ret
  exact ⟨by rw [HR.out]; rfl, B3.out⟩
theorem in_nat (u : Nat) (h : u ≤ 1000000000000) : InMoney (u : Int) = true ∧ InMoney (-(u : Int)) = true := by
  unfold InMoney
  rw [decide_eq_true (by omega), decide_eq_true (by omega), decide_eq_true (by omega), decide_eq_true (by omega)]
  exact ⟨rfl, rfl⟩
set_option maxHeartbeats 1000000 in
set_option maxRecDepth 20000 in
theorem reftext_calls (a : Int) (w : World) : Calls Tryz.prog 17 #[.int .i64 a] w fun e w' => e = .returned (.string (bd (textL a))) ∧ Below w.heap.size w w' := by
  by_cases h0 : a < -1000000000000
  · have HR := Aside0.mk (show textL a = [] by unfold textL InMoney; rw [decide_eq_false (by omega : ¬ -1000000000000 ≤ a)]; rfl)
    have d1 : decide (a < -1000000000000) = true := decide_eq_true h0
    clear h0
    go_enter Tryz.func17, Tryz.ntmps17
    go_wp2_with fail
    go_ret
    exact ⟨by rw [HR.out]; rfl, Below.refl _ _⟩
  by_cases h1 : 1000000000000 < a
  · have HR := Aside0.mk (show textL a = [] by unfold textL InMoney; rw [decide_eq_false (by omega : ¬ a ≤ 1000000000000), Bool.and_false]; rfl)
    have d1 : decide (a < -1000000000000) = false := decide_eq_false h0
    have d2 : decide ((1000000000000 : Int) < a) = true := decide_eq_true h1
    clear h0 h1
    go_enter Tryz.func17, Tryz.ntmps17
    go_wp2_with fail
    go_ret
    exact ⟨by rw [HR.out]; rfl, Below.refl _ _⟩
  by_cases h2 : a < 0
  · obtain ⟨u, hu⟩ : ∃ u : Nat, a = -(u : Int) := ⟨a.natAbs, by omega⟩
    have HR := Aside0.mk (show textL a = 45 :: restL u by unfold textL; rw [hu, if_pos (in_nat u (by omega)).2, if_pos (by omega), show (-(u : Int)).natAbs = u by omega]; rfl)
    have HT := Aside0.mk (text_nat u (by omega) w)
    have hsz : (bd (restL u)).size ≤ 40 := by
      have := text_size (u : Int)
      have e : textL (u : Int) = restL u := by unfold textL; rw [if_pos (in_nat u (by omega)).1, if_neg (by omega)]; simp
      rw [e] at this
      show (restL u).toArray.size ≤ 40
      rw [List.size_toArray]; omega
    have d1 : decide (a < -1000000000000) = false := decide_eq_false h0
    have d2 : decide ((1000000000000 : Int) < a) = false := decide_eq_false h1
    have d3 : decide (a < 0) = true := decide_eq_true h2
    have n1 : wrap64 (-a) = (u : Int) := by unfold wrap64; omega
    obtain ⟨T, hT⟩ : ∃ T, bd (restL u) = T := ⟨_, rfl⟩
    have HTT := Aside0.mk (show bd (45 :: restL u) = (⟨#[45]⟩ : ByteArray) ++ T by rw [← hT]; exact bd_app [45] (restL u))
    rw [hT] at HT hsz
    have q0 : (9223372036854775807 < 1 + T.size) = False := eq_false (by omega)
    have HN := Aside0.mk n1
    clear h0 h1 h2 hT hsz hu n1
    go_enter Tryz.func17, Tryz.ntmps17
    go_wp2_with fail
    rw [HN.out]
    refine HT.out.mono ?_
    rintro e w2 ⟨rfl, b⟩
    have B := Aside0.mk b
    clear b
    go_wp2_with fail
    go_ret
    exact ⟨by rw [HR.out, HTT.out]; rfl, B.out⟩
  · obtain ⟨u, rfl⟩ : ∃ u : Nat, a = (u : Int) := ⟨a.toNat, by omega⟩
    have HR : textL (u : Int) = restL u := by unfold textL; rw [if_pos (in_nat u (by omega)).1, if_neg (by omega)]; simp
    rw [HR]
    exact text_nat u (by omega) w
end Go.Proofs.YtbecemdehelooaaGreatDoor.FeedR
/- The document's names. -/
namespace Go.Proofs.YtbecemdehelooaaGreatDoor.FeedRn
open Go.RowKit Go.Proofs.YtbecemdehelooaaGreatDoor.FrameS Go.Proofs.YtbecemdehelooaaGreatDoor.FrameP Go.Proofs.YtbecemdehelooaaGreatDoor.FeedG Go.Proofs.YtbecemdehelooaaGreatDoor.FeedD Go.Proofs.YtbecemdehelooaaGreatDoor.FeedT Go.Proofs.YtbecemdehelooaaGreatDoor.FeedP Go.Proofs.YtbecemdehelooaaGreatDoor.FeedX Go.Proofs.YtbecemdehelooaaGreatDoor.FeedN Go.Proofs.YtbecemdehelooaaGreatDoor.FeedE Go.Proofs.YtbecemdehelooaaGreatDoor.FeedPl Go.Proofs.YtbecemdehelooaaGreatDoor.FeedR Go.Proofs.YtbecemdehelooaaGreatDoorW.PrintWords Go.Proofs.YtbecemdehelooaaGreatDoorW.PrintLast Go.Proofs.YtbecemdehelooaaGreatDoorW.PrintMore
set_option linter.unusedVariables false
set_option linter.unusedSimpArgs false
def letB (c : UInt8) : Bool := decide (97 ≤ c.toNat) && decide (c.toNat ≤ 122)
theorem let_all : ∀ q : Fin 256, inB (tl lettersB) (UInt8.ofNat q.val) = letB (UInt8.ofNat q.val) := by decide +kernel
theorem low_all : ∀ q : Fin 256, inB (tl lowB) (UInt8.ofNat q.val) = (letB (UInt8.ofNat q.val) || digB (UInt8.ofNat q.val)) := by decide +kernel
theorem let_in (c : UInt8) : inB (tl lettersB) c = letB c := by
  have := let_all ⟨c.toNat, c.toNat_lt⟩
  simpa using this
theorem low_in (c : UInt8) : inB (tl lowB) c = (letB c || digB c) := by
  have := low_all ⟨c.toNat, c.toNat_lt⟩
  simpa using this
theorem letter_calls (c : UInt8) (w : World) : Calls Tryz.prog 36 #[.int .u8 (c.toNat : Int)] w fun e w' => e = .returned (.bool (letB c)) ∧ w = w' := by
  by_cases h1 : 97 ≤ c.toNat
  · have d1 : decide ((97 : Int) ≤ (c.toNat : Int)) = true := decide_eq_true (by omega)
    have HR := Aside0.mk (show letB c = decide ((c.toNat : Int) ≤ 122) by unfold letB; rw [decide_eq_true h1, Bool.true_and]; congr 1; exact propext (by omega))
    clear h1
    go_enter Tryz.func36, Tryz.ntmps36
    go_wp2_with fail
    go_ret
    exact ⟨by rw [HR.out]; rfl, rfl⟩
  · have d1 : decide ((97 : Int) ≤ (c.toNat : Int)) = false := decide_eq_false (by omega)
    have HR := Aside0.mk (show letB c = false by unfold letB; rw [decide_eq_false h1, Bool.false_and])
    clear h1
    go_enter Tryz.func36, Tryz.ntmps36
    go_wp2_with fail
    go_ret
    exact ⟨by rw [HR.out]; rfl, rfl⟩
theorem digit_calls (c : UInt8) (w : World) : Calls Tryz.prog 38 #[.int .u8 (c.toNat : Int)] w fun e w' => e = .returned (.bool (digB c)) ∧ w = w' := by
  by_cases h1 : 48 ≤ c.toNat
  · have d1 : decide ((48 : Int) ≤ (c.toNat : Int)) = true := decide_eq_true (by omega)
    have HR := Aside0.mk (show digB c = decide ((c.toNat : Int) ≤ 57) by unfold digB; rw [decide_eq_true h1, Bool.true_and]; congr 1; exact propext (by omega))
    clear h1
    go_enter Tryz.func38, Tryz.ntmps38
    go_wp2_with fail
    go_ret
    exact ⟨by rw [HR.out]; rfl, rfl⟩
  · have d1 : decide ((48 : Int) ≤ (c.toNat : Int)) = false := decide_eq_false (by omega)
    have HR := Aside0.mk (show digB c = false by unfold digB; rw [decide_eq_false h1, Bool.false_and])
    clear h1
    go_enter Tryz.func38, Tryz.ntmps38
    go_wp2_with fail
    go_ret
    exact ⟨by rw [HR.out]; rfl, rfl⟩
theorem word_at (k : Nat) (hk : k < 11) : wordCells[k]? = some (.string (words.getD k ⟨#[]⟩)) := by
  have hl : words.length = 11 := rfl
  unfold wordCells
  rw [List.getElem?_toArray, List.getElem?_map, List.getElem?_eq_getElem (by omega), List.getD_eq_getElem?_getD, List.getElem?_eq_getElem (by omega)]
  rfl
theorem words_take (k : Nat) (hk : k < 11) : words.take (k + 1) = words.take k ++ [words.getD k ⟨#[]⟩] := by
  have hl : words.length = 11 := rfl
  rw [List.take_add_one, List.getElem?_eq_getElem (by omega), List.getD_eq_getElem?_getD, List.getElem?_eq_getElem (by omega)]
  rfl
set_option maxHeartbeats 1000000 in
set_option maxRecDepth 20000 in
theorem refword_calls (s : ByteArray) (w : World) : Calls Tryz.prog 37 #[.string s] w fun e w' => e = .returned (.bool (Lib.containsS words s)) ∧ Below w.heap.size w w' := by
  have HB := Aside0.mk (below_alloc (Below.refl w.heap.size w) (.cells wordCells 9))
  have HC := Aside0.mk (fun j => new_cell w wordCells 9 j)
  go_enter Tryz.func37, Tryz.ntmps37
  go_wp2_with fail
  change Code.wp _ _ _ _ (w.alloc (.cells wordCells 9))
  obtain ⟨V, hV⟩ : ∃ V, w.alloc (.cells wordCells 9) = V := ⟨_, rfl⟩
  obtain ⟨g, hg⟩ : ∃ g, w.heap.size = g := ⟨_, rfl⟩
  have hBg := HB
  rw [hV] at HB HC ⊢
  rw [hg] at HC ⊢
  clear hV hg hBg
  go_loopw [4] (fun vi wx => ∃ (k : Nat), vi = .int .i64 k ∧ k ≤ 11 ∧ Aside0 (s ∉ words.take k) ∧ V = wx) (fun vi _ => 11 - (intOf vi).toNat)
  case atStart => exact ⟨0, rfl, by omega, ⟨by simp⟩, rfl⟩
  case round =>
    obtain ⟨k, rfl, hk, HN, rfl⟩ := hrel
    by_cases hlt : k < 11
    · have c0 : V.cell? ⟨g, k, none⟩ = some (.string (words.getD k ⟨#[]⟩)) := (HC.out k).trans (word_at k hlt)
      have HT := Aside0.mk (words_take k hlt)
      obtain ⟨x, hx⟩ : ∃ x, words.getD k ⟨#[]⟩ = x := ⟨_, rfl⟩
      rw [hx] at c0 HT
      have hw1 : wrap64 ((k : Int) + 1) = ((k + 1 : Nat) : Int) := by unfold wrap64; omega
      have l1 : (11 ≤ (k : Int)) = False := eq_false (by omega)
      have d1 : decide ((k : Int) < 11) = true := decide_eq_true (by omega)
      have HX := Aside0.mk hx
      clear hx
      by_cases e : x = s
      · have HR := Aside0.mk (show Lib.containsS words s = true by
          rw [Lib.containsS_iff, ← e, ← HX.out, List.getD_eq_getElem?_getD, List.getElem?_eq_getElem (show k < words.length from hlt)]
          exact List.getElem_mem _)
        have b1 : (x.toList == s.toList) = true := by rw [e]; exact beq_self_eq_true _
        clear e
        go_wp2_with fail
        go_ret
        exact ⟨by rw [HR.out]; rfl, HB.out⟩
      · have b1 : (x.toList == s.toList) = false := beq_eq_false_iff_ne.2 (fun h => e (tl_inj (by rw [toList_data, toList_data] at h; exact h)))
        have HE := Aside0.mk e
        clear e
        go_wp2_with fail
        go_roundw
        case rel => exact ⟨k + 1, by first | rfl | (push_cast; rfl), by omega, ⟨by rw [HT.out, List.mem_append, List.mem_singleton]; rintro (h | h); exact HN.out h; exact HE.out h.symm⟩, by first | rfl | trivial⟩
        case measure => simp [intOf]; omega
    · obtain rfl : k = 11 := by omega
      have HR := Aside0.mk (show Lib.containsS words s = false by
        rw [← Bool.not_eq_true, Lib.containsS_iff]; exact HN.out)
      go_wp2_with fail
      go_ret
      exact ⟨by rw [HR.out]; rfl, HB.out⟩
/-- What a name is, byte by byte. -/
theorem name_eq (s : ByteArray) : nameB s = (decide (0 < s.size) && decide (s.size ≤ 12) && letB ((tl s).headD 0) && !Lib.containsS words s && (tl s).all (fun c => letB c || digB c)) := by
  unfold nameB
  rw [let_in]
  have e1 : (!(tl s).isEmpty) = decide (0 < s.size) := by
    rw [← tl_length s]
    cases tl s <;> simp
  have e2 : decide (runL (tl lowB) (tl s) = s.size) = (tl s).all (fun c => letB c || digB c) := by
    rw [Bool.eq_iff_iff, decide_eq_true_eq, List.all_eq_true]
    constructor
    · intro h b hb
      rw [← low_in]
      exact runL_full _ _ (h.trans (tl_length s).symm) b hb
    · intro h
      rw [runL_all (fun j hj => by rw [low_in]; exact h _ (List.getElem_mem hj)), tl_length]
  rw [e1, e2]
  cases decide (0 < s.size) <;> cases decide (s.size ≤ 12) <;> cases letB ((tl s).headD 0) <;> cases Lib.containsS words s <;> cases (tl s).all (fun c => letB c || digB c) <;> rfl
set_option maxHeartbeats 2000000 in
set_option maxRecDepth 20000 in
theorem refname_calls (s : ByteArray) (w : World) : Calls Tryz.prog 20 #[.string s] w fun e w' => e = .returned (.bool (nameB s)) ∧ Below w.heap.size w w' := by
  have hl := tl_length s
  have hn := name_eq s
  have B0 := Aside0.mk (Below.refl w.heap.size w)
  by_cases h0 : tl s = []
  · have hs : s = ⟨#[]⟩ := tl_inj h0
    have hr := Aside0.mk (show nameB s = false by unfold nameB; rw [h0]; rfl)
    subst hs
    clear hn hl h0
    go_enter Tryz.func20, Tryz.ntmps20
    go_wp2_with fail
    go_ret
    exact ⟨by rw [hr.out]; rfl, Below.refl _ _⟩
  obtain ⟨c, l, hc⟩ : ∃ c l, tl s = c :: l := by
    cases h : tl s with
    | nil => exact absurd h h0
    | cons c l => exact ⟨c, l, rfl⟩
  have hp : 0 < s.size := by rw [← hl, hc]; simp
  have dne : s.toList.isEmpty = false := by rw [toList_data]; show (tl s).isEmpty = false; rw [hc]; rfl
  have hsc : ∀ h : 0 < s.size, s[0]'h = c := fun h => by
    have : (tl s)[0]'(by rw [hc]; simp) = c := by simp [hc]
    exact this
  rw [decide_eq_true hp, Bool.true_and, hc, List.headD_cons, ← hc] at hn
  by_cases h12 : s.size ≤ 12
  · have d12 : decide ((12 : Int) < (s.size : Int)) = false := decide_eq_false (by omega)
    rw [decide_eq_true h12, Bool.true_and] at hn
    have HS12 := Aside0.mk h12
    cases hin : letB c with
    | false =>
      rw [hin, Bool.false_and, Bool.false_and] at hn
      have HN := Aside0.mk hn
      have HI := Aside0.mk hin
      clear hl h0 hc h12 hn hin
      go_enter Tryz.func20, Tryz.ntmps20
      go_wp2_with fail
      refine (letter_calls c _).mono ?_
      rintro e w' ⟨rfl, rfl⟩
      rw [HI.out]
      go_wp2_with fail
      go_ret
      exact ⟨by rw [HN.out]; rfl, Below.refl _ _⟩
    | true =>
      rw [hin, Bool.true_and] at hn
      have HI := Aside0.mk hin
      have HL := Aside0.mk hl
      cases hw : Lib.containsS words s with
      | true =>
        rw [hw] at hn
        have HN := Aside0.mk (show nameB s = false by rw [hn]; rfl)
        have HW := Aside0.mk hw
        clear hl h0 hc h12 hn hin hw
        go_enter Tryz.func20, Tryz.ntmps20
        go_wp2_with fail
        refine (letter_calls c _).mono ?_
        rintro e w' ⟨rfl, rfl⟩
        rw [HI.out]
        go_wp2_with fail
        refine (refword_calls s _).mono ?_
        rintro e w1 ⟨rfl, b⟩
        rw [HW.out]
        have B1 := Aside0.mk b
        clear b
        go_wp2_with fail
        go_ret
        exact ⟨by rw [HN.out]; rfl, B1.out⟩
      | false =>
        rw [hw] at hn
        have HN := Aside0.mk (show nameB s = (tl s).all (fun c => letB c || digB c) by rw [hn]; rfl)
        have HW := Aside0.mk hw
        clear hl h0 hc h12 hn hin hw
        go_enter Tryz.func20, Tryz.ntmps20
        go_wp2_with fail
        refine (letter_calls c _).mono ?_
        rintro e w' ⟨rfl, rfl⟩
        rw [HI.out]
        go_wp2_with fail
        refine (refword_calls s _).mono ?_
        rintro e w1 ⟨rfl, b⟩
        rw [HW.out]
        have B1 := Aside0.mk b
        clear b dne hsc d12
        have h12 := HS12.out
        go_wp2_with fail
        go_loopw [3] (fun vi wx => ∃ (k : Nat), vi = .int .i64 k ∧ k ≤ s.size ∧ Aside0 (∀ j, ∀ hj : j < (tl s).length, j < k → (letB (tl s)[j] || digB (tl s)[j]) = true) ∧ w1 = wx) (fun vi _ => s.size - (intOf vi).toNat)
        case atStart => exact ⟨0, rfl, by omega, ⟨fun j _ h => absurd h (Nat.not_lt_zero j)⟩, rfl⟩
        case round =>
          obtain ⟨k, rfl, hk, hall, rfl⟩ := hrel
          by_cases hlt : k < s.size
          · have d0 : decide ((k : Int) < (s.size : Int)) = true := decide_eq_true (by omega)
            have hkl : k < (tl s).length := by have := HL.out; omega
            obtain ⟨b, hb⟩ : ∃ c, (tl s)[k] = c := ⟨_, rfl⟩
            have hsc : ∀ h : k < s.size, s[k]'h = b := fun h => by rw [← hb]; rfl
            have HK := Aside0.mk hkl
            have HBB := Aside0.mk hb
            have hw1 : wrap64 ((k : Int) + 1) = ((k + 1 : Nat) : Int) := by unfold wrap64; have := HS12.out; omega
            clear hb hw1
            cases hin : letB b with
            | true =>
              have HIN := Aside0.mk hin
              clear hin
              go_wp2_with fail
              refine (letter_calls b _).mono ?_
              rintro e w' ⟨rfl, rfl⟩
              rw [HIN.out]
              go_wp2_with fail
              go_roundw
              case rel =>
                refine ⟨k + 1, by first | rfl | (push_cast; rfl), hlt, ⟨fun j hj h => ?_⟩, by first | rfl | trivial⟩
                by_cases e : j = k
                · subst e; rw [HBB.out, HIN.out]; rfl
                · exact hall.out j hj (by omega)
              case measure => simp [intOf]; omega
            | false =>
              have HIN := Aside0.mk hin
              clear hin
              cases hdg : digB b with
              | true =>
                have HDG := Aside0.mk hdg
                clear hdg
                go_wp2_with fail
                refine (letter_calls b _).mono ?_
                rintro e w' ⟨rfl, rfl⟩
                rw [HIN.out]
                go_wp2_with fail
                refine (digit_calls b _).mono ?_
                rintro e w' ⟨rfl, rfl⟩
                rw [HDG.out]
                go_wp2_with fail
                go_roundw
                case rel =>
                  refine ⟨k + 1, by first | rfl | (push_cast; rfl), hlt, ⟨fun j hj h => ?_⟩, by first | rfl | trivial⟩
                  by_cases e : j = k
                  · subst e; rw [HBB.out, HIN.out, HDG.out]; rfl
                  · exact hall.out j hj (by omega)
                case measure => simp [intOf]; omega
              | false =>
                have HDG := Aside0.mk hdg
                have HR := Aside0.mk (show nameB s = false by
                  rw [HN.out, ← Bool.not_eq_true, List.all_eq_true]
                  intro h
                  have := h _ (List.getElem_mem HK.out)
                  rw [HBB.out, HIN.out, HDG.out] at this
                  cases this)
                clear hdg
                go_wp2_with fail
                refine (letter_calls b _).mono ?_
                rintro e w' ⟨rfl, rfl⟩
                rw [HIN.out]
                go_wp2_with fail
                refine (digit_calls b _).mono ?_
                rintro e w' ⟨rfl, rfl⟩
                rw [HDG.out]
                go_wp2_with fail
                go_ret
                exact ⟨by rw [HR.out]; rfl, B1.out⟩
          · have d0 : decide ((k : Int) < (s.size : Int)) = false := decide_eq_false (by omega)
            have HR := Aside0.mk (show nameB s = true by
              rw [HN.out, List.all_eq_true]
              intro b hb
              obtain ⟨j, hj, rfl⟩ := List.getElem_of_mem hb
              exact hall.out j hj (by have := HL.out; omega))
            go_wp2_with fail
            go_ret
            exact ⟨by rw [HR.out]; rfl, B1.out⟩
  · have HN := Aside0.mk (show nameB s = false by rw [hn, decide_eq_false h12]; rfl)
    have d12 : decide ((12 : Int) < (s.size : Int)) = true := decide_eq_true (by omega)
    clear hl h0 hc h12 hn
    go_enter Tryz.func20, Tryz.ntmps20
    go_wp2_with fail
    go_ret
    exact ⟨by rw [HN.out]; rfl, Below.refl _ _⟩
end Go.Proofs.YtbecemdehelooaaGreatDoor.FeedRn
/- The document's lines: Right and Encode. -/
namespace Go.Proofs.YtbecemdehelooaaGreatDoor.FeedRe
open Go.RowKit Go.Proofs.YtbecemdehelooaaGreatDoor.FrameS Go.Proofs.YtbecemdehelooaaGreatDoor.FrameP Go.Proofs.YtbecemdehelooaaGreatDoor.FeedG Go.Proofs.YtbecemdehelooaaGreatDoor.FeedD Go.Proofs.YtbecemdehelooaaGreatDoor.FeedT Go.Proofs.YtbecemdehelooaaGreatDoor.FeedP Go.Proofs.YtbecemdehelooaaGreatDoor.FeedX Go.Proofs.YtbecemdehelooaaGreatDoor.FeedN Go.Proofs.YtbecemdehelooaaGreatDoor.FeedW Go.Proofs.YtbecemdehelooaaGreatDoor.FeedE Go.Proofs.YtbecemdehelooaaGreatDoor.FeedPl Go.Proofs.YtbecemdehelooaaGreatDoor.FeedR Go.Proofs.YtbecemdehelooaaGreatDoor.FeedRn Go.Proofs.YtbecemdehelooaaGreatDoorW.PrintWords Go.Proofs.YtbecemdehelooaaGreatDoorW.PrintLast Go.Proofs.YtbecemdehelooaaGreatDoorW.PrintMore
set_option linter.unusedVariables false
set_option linter.unusedSimpArgs false
set_option maxHeartbeats 2000000 in
set_option maxRecDepth 20000 in
theorem refright_calls (so sk se : ByteArray) (n p : Int) (w : World) :
    Calls Tryz.prog 9 #[.agg #[.string so, .int .i64 n, .string sk, .string se, .int .i64 p]] w fun e w' => e = .returned (.bool (rightF so sk se n p)) ∧ Below w.heap.size w w' := by
  obtain ⟨B, hB⟩ : ∃ B, w.heap.size = B := ⟨_, rfl⟩
  obtain ⟨W, hW⟩ : ∃ W, w.alloc (Obj.cells #[Value.string so, Value.int IntKind.i64 n, Value.string sk, Value.string se, Value.int IntKind.i64 p] 23) = W := ⟨_, rfl⟩
  have h0 := Aside0.mk (show W.heap[B]? = some (.cells #[Value.string so, Value.int IntKind.i64 n, Value.string sk, Value.string se, Value.int IntKind.i64 p] 23 (0, 0)) by rw [← hW, ← hB]; exact blk_new w _)
  have BW := Aside0.mk (show Below w.heap.size w W by rw [← hW]; exact below_alloc (Below.refl _ _) _)
  have HB := Aside0.mk hB
  have HW := Aside0.mk hW
  have hR : rightF so sk se n p = (nameB so && !badSeq n && nameB sk && nameB se && !badPrice p) := rfl
  clear hB hW
  cases hA : nameB so with
  | false =>
    have HR := Aside0.mk (show rightF so sk se n p = false by rw [hR, hA]; rfl)
    have HA := Aside0.mk hA
    clear hA hR
    go_enter Tryz.func9, Tryz.ntmps9
    go_wp2_with fail
    rw [HB.out, HW.out]
    refine (refname_calls so _).mono ?_
    rintro e w1 ⟨rfl, b1⟩
    rw [HA.out]
    have D1 := Aside0.mk (blk_below h0.out b1)
    have B1 := Aside0.mk (below_step BW.out b1)
    clear b1
    have y0 : w1.cell? ⟨B, 0, none⟩ = some (.string so) := (blk_cell D1.out 0).trans rfl
    have y1 : w1.cell? ⟨B, 1, none⟩ = some (.int .i64 n) := (blk_cell D1.out 1).trans rfl
    have y2 : w1.cell? ⟨B, 2, none⟩ = some (.string sk) := (blk_cell D1.out 2).trans rfl
    have y3 : w1.cell? ⟨B, 3, none⟩ = some (.string se) := (blk_cell D1.out 3).trans rfl
    have y4 : w1.cell? ⟨B, 4, none⟩ = some (.int .i64 p) := (blk_cell D1.out 4).trans rfl
    go_wp2_with fail
    go_ret
    exact ⟨by rw [HR.out]; rfl, B1.out⟩
  | true =>
    have HA := Aside0.mk hA
    rw [hA, Bool.true_and] at hR
    cases hS : nameB sk with
    | false =>
      have HR := Aside0.mk (show rightF so sk se n p = false by rw [hR, hS, Bool.and_false]; rfl)
      have HSK := Aside0.mk hS
      clear hA hR hS
      go_enter Tryz.func9, Tryz.ntmps9
      go_wp2_with fail
      rw [HB.out, HW.out]
      refine (refname_calls so _).mono ?_
      rintro e w1 ⟨rfl, b1⟩
      rw [HA.out]
      have D1 := Aside0.mk (blk_below h0.out b1)
      have B1 := Aside0.mk (below_step BW.out b1)
      clear b1
      have y0 : w1.cell? ⟨B, 0, none⟩ = some (.string so) := (blk_cell D1.out 0).trans rfl
      have y1 : w1.cell? ⟨B, 1, none⟩ = some (.int .i64 n) := (blk_cell D1.out 1).trans rfl
      have y2 : w1.cell? ⟨B, 2, none⟩ = some (.string sk) := (blk_cell D1.out 2).trans rfl
      have y3 : w1.cell? ⟨B, 3, none⟩ = some (.string se) := (blk_cell D1.out 3).trans rfl
      have y4 : w1.cell? ⟨B, 4, none⟩ = some (.int .i64 p) := (blk_cell D1.out 4).trans rfl
      go_wp2_with fail
      refine (refname_calls sk _).mono ?_
      rintro e w2 ⟨rfl, b2⟩
      rw [HSK.out]
      have D2 := Aside0.mk (blk_below D1.out b2)
      have B2 := Aside0.mk (below_step B1.out b2)
      clear b2 y0 y1 y2 y3 y4
      have y0 : w2.cell? ⟨B, 0, none⟩ = some (.string so) := (blk_cell D2.out 0).trans rfl
      have y1 : w2.cell? ⟨B, 1, none⟩ = some (.int .i64 n) := (blk_cell D2.out 1).trans rfl
      have y2 : w2.cell? ⟨B, 2, none⟩ = some (.string sk) := (blk_cell D2.out 2).trans rfl
      have y3 : w2.cell? ⟨B, 3, none⟩ = some (.string se) := (blk_cell D2.out 3).trans rfl
      have y4 : w2.cell? ⟨B, 4, none⟩ = some (.int .i64 p) := (blk_cell D2.out 4).trans rfl
      go_wp2_with fail
      go_ret
      exact ⟨by rw [HR.out]; rfl, B2.out⟩
    | true =>
      have HSK := Aside0.mk hS
      rw [hS, Bool.and_true] at hR
      cases hE : nameB se with
      | false =>
        have HR := Aside0.mk (show rightF so sk se n p = false by rw [hR, hE, Bool.and_false]; rfl)
        have HSE := Aside0.mk hE
        clear hA hR hS hE
        go_enter Tryz.func9, Tryz.ntmps9
        go_wp2_with fail
        rw [HB.out, HW.out]
        refine (refname_calls so _).mono ?_
        rintro e w1 ⟨rfl, b1⟩
        rw [HA.out]
        have D1 := Aside0.mk (blk_below h0.out b1)
        have B1 := Aside0.mk (below_step BW.out b1)
        clear b1
        have y0 : w1.cell? ⟨B, 0, none⟩ = some (.string so) := (blk_cell D1.out 0).trans rfl
        have y1 : w1.cell? ⟨B, 1, none⟩ = some (.int .i64 n) := (blk_cell D1.out 1).trans rfl
        have y2 : w1.cell? ⟨B, 2, none⟩ = some (.string sk) := (blk_cell D1.out 2).trans rfl
        have y3 : w1.cell? ⟨B, 3, none⟩ = some (.string se) := (blk_cell D1.out 3).trans rfl
        have y4 : w1.cell? ⟨B, 4, none⟩ = some (.int .i64 p) := (blk_cell D1.out 4).trans rfl
        go_wp2_with fail
        refine (refname_calls sk _).mono ?_
        rintro e w2 ⟨rfl, b2⟩
        rw [HSK.out]
        have D2 := Aside0.mk (blk_below D1.out b2)
        have B2 := Aside0.mk (below_step B1.out b2)
        clear b2 y0 y1 y2 y3 y4
        have y0 : w2.cell? ⟨B, 0, none⟩ = some (.string so) := (blk_cell D2.out 0).trans rfl
        have y1 : w2.cell? ⟨B, 1, none⟩ = some (.int .i64 n) := (blk_cell D2.out 1).trans rfl
        have y2 : w2.cell? ⟨B, 2, none⟩ = some (.string sk) := (blk_cell D2.out 2).trans rfl
        have y3 : w2.cell? ⟨B, 3, none⟩ = some (.string se) := (blk_cell D2.out 3).trans rfl
        have y4 : w2.cell? ⟨B, 4, none⟩ = some (.int .i64 p) := (blk_cell D2.out 4).trans rfl
        go_wp2_with fail
        refine (refname_calls se _).mono ?_
        rintro e w3 ⟨rfl, b3⟩
        rw [HSE.out]
        have B3 := Aside0.mk (below_step B2.out b3)
        have D3 := blk_below D2.out b3
        clear b3 y0 y1 y2 y3 y4
        have y0 : w3.cell? ⟨B, 0, none⟩ = some (.string so) := (blk_cell D3 0).trans rfl
        have y1 : w3.cell? ⟨B, 1, none⟩ = some (.int .i64 n) := (blk_cell D3 1).trans rfl
        have y2 : w3.cell? ⟨B, 2, none⟩ = some (.string sk) := (blk_cell D3 2).trans rfl
        have y3 : w3.cell? ⟨B, 3, none⟩ = some (.string se) := (blk_cell D3 3).trans rfl
        have y4 : w3.cell? ⟨B, 4, none⟩ = some (.int .i64 p) := (blk_cell D3 4).trans rfl
        clear D3
        go_wp2_with fail
        go_ret
        exact ⟨by rw [HR.out]; rfl, B3.out⟩
      | true =>
        have HSE := Aside0.mk hE
        rw [hE, Bool.and_true] at hR
        unfold badSeq badPrice at hR
        by_cases n1 : n < 1
        · have HR := Aside0.mk (show rightF so sk se n p = false by rw [hR, decide_eq_true n1]; rfl)
          have d1 : decide (1 ≤ n) = false := decide_eq_false (by omega)
          clear hA hR hS hE n1
          go_enter Tryz.func9, Tryz.ntmps9
          go_wp2_with fail
          rw [HB.out, HW.out]
          refine (refname_calls so _).mono ?_
          rintro e w1 ⟨rfl, b1⟩
          rw [HA.out]
          have D1 := Aside0.mk (blk_below h0.out b1)
          have B1 := Aside0.mk (below_step BW.out b1)
          clear b1
          have y0 : w1.cell? ⟨B, 0, none⟩ = some (.string so) := (blk_cell D1.out 0).trans rfl
          have y1 : w1.cell? ⟨B, 1, none⟩ = some (.int .i64 n) := (blk_cell D1.out 1).trans rfl
          have y2 : w1.cell? ⟨B, 2, none⟩ = some (.string sk) := (blk_cell D1.out 2).trans rfl
          have y3 : w1.cell? ⟨B, 3, none⟩ = some (.string se) := (blk_cell D1.out 3).trans rfl
          have y4 : w1.cell? ⟨B, 4, none⟩ = some (.int .i64 p) := (blk_cell D1.out 4).trans rfl
          go_wp2_with fail
          refine (refname_calls sk _).mono ?_
          rintro e w2 ⟨rfl, b2⟩
          rw [HSK.out]
          have D2 := Aside0.mk (blk_below D1.out b2)
          have B2 := Aside0.mk (below_step B1.out b2)
          clear b2 y0 y1 y2 y3 y4
          have y0 : w2.cell? ⟨B, 0, none⟩ = some (.string so) := (blk_cell D2.out 0).trans rfl
          have y1 : w2.cell? ⟨B, 1, none⟩ = some (.int .i64 n) := (blk_cell D2.out 1).trans rfl
          have y2 : w2.cell? ⟨B, 2, none⟩ = some (.string sk) := (blk_cell D2.out 2).trans rfl
          have y3 : w2.cell? ⟨B, 3, none⟩ = some (.string se) := (blk_cell D2.out 3).trans rfl
          have y4 : w2.cell? ⟨B, 4, none⟩ = some (.int .i64 p) := (blk_cell D2.out 4).trans rfl
          go_wp2_with fail
          refine (refname_calls se _).mono ?_
          rintro e w3 ⟨rfl, b3⟩
          rw [HSE.out]
          have B3 := Aside0.mk (below_step B2.out b3)
          have D3 := blk_below D2.out b3
          clear b3 y0 y1 y2 y3 y4
          have y0 : w3.cell? ⟨B, 0, none⟩ = some (.string so) := (blk_cell D3 0).trans rfl
          have y1 : w3.cell? ⟨B, 1, none⟩ = some (.int .i64 n) := (blk_cell D3 1).trans rfl
          have y2 : w3.cell? ⟨B, 2, none⟩ = some (.string sk) := (blk_cell D3 2).trans rfl
          have y3 : w3.cell? ⟨B, 3, none⟩ = some (.string se) := (blk_cell D3 3).trans rfl
          have y4 : w3.cell? ⟨B, 4, none⟩ = some (.int .i64 p) := (blk_cell D3 4).trans rfl
          clear D3
          go_wp2_with fail
          go_ret
          exact ⟨by rw [HR.out]; rfl, B3.out⟩
        · have d1 : decide (1 ≤ n) = true := decide_eq_true (by omega)
          by_cases n2 : 1000000000000 < n
          · have HR := Aside0.mk (show rightF so sk se n p = false by rw [hR, decide_eq_true n2, Bool.or_true]; rfl)
            have d2 : decide (n ≤ 1000000000000) = false := decide_eq_false (by omega)
            clear hA hR hS hE n1 n2
            go_enter Tryz.func9, Tryz.ntmps9
            go_wp2_with fail
            rw [HB.out, HW.out]
            refine (refname_calls so _).mono ?_
            rintro e w1 ⟨rfl, b1⟩
            rw [HA.out]
            have D1 := Aside0.mk (blk_below h0.out b1)
            have B1 := Aside0.mk (below_step BW.out b1)
            clear b1
            have y0 : w1.cell? ⟨B, 0, none⟩ = some (.string so) := (blk_cell D1.out 0).trans rfl
            have y1 : w1.cell? ⟨B, 1, none⟩ = some (.int .i64 n) := (blk_cell D1.out 1).trans rfl
            have y2 : w1.cell? ⟨B, 2, none⟩ = some (.string sk) := (blk_cell D1.out 2).trans rfl
            have y3 : w1.cell? ⟨B, 3, none⟩ = some (.string se) := (blk_cell D1.out 3).trans rfl
            have y4 : w1.cell? ⟨B, 4, none⟩ = some (.int .i64 p) := (blk_cell D1.out 4).trans rfl
            go_wp2_with fail
            refine (refname_calls sk _).mono ?_
            rintro e w2 ⟨rfl, b2⟩
            rw [HSK.out]
            have D2 := Aside0.mk (blk_below D1.out b2)
            have B2 := Aside0.mk (below_step B1.out b2)
            clear b2 y0 y1 y2 y3 y4
            have y0 : w2.cell? ⟨B, 0, none⟩ = some (.string so) := (blk_cell D2.out 0).trans rfl
            have y1 : w2.cell? ⟨B, 1, none⟩ = some (.int .i64 n) := (blk_cell D2.out 1).trans rfl
            have y2 : w2.cell? ⟨B, 2, none⟩ = some (.string sk) := (blk_cell D2.out 2).trans rfl
            have y3 : w2.cell? ⟨B, 3, none⟩ = some (.string se) := (blk_cell D2.out 3).trans rfl
            have y4 : w2.cell? ⟨B, 4, none⟩ = some (.int .i64 p) := (blk_cell D2.out 4).trans rfl
            go_wp2_with fail
            refine (refname_calls se _).mono ?_
            rintro e w3 ⟨rfl, b3⟩
            rw [HSE.out]
            have B3 := Aside0.mk (below_step B2.out b3)
            have D3 := blk_below D2.out b3
            clear b3 y0 y1 y2 y3 y4
            have y0 : w3.cell? ⟨B, 0, none⟩ = some (.string so) := (blk_cell D3 0).trans rfl
            have y1 : w3.cell? ⟨B, 1, none⟩ = some (.int .i64 n) := (blk_cell D3 1).trans rfl
            have y2 : w3.cell? ⟨B, 2, none⟩ = some (.string sk) := (blk_cell D3 2).trans rfl
            have y3 : w3.cell? ⟨B, 3, none⟩ = some (.string se) := (blk_cell D3 3).trans rfl
            have y4 : w3.cell? ⟨B, 4, none⟩ = some (.int .i64 p) := (blk_cell D3 4).trans rfl
            clear D3
            go_wp2_with fail
            go_ret
            exact ⟨by rw [HR.out]; rfl, B3.out⟩
          · have d2 : decide (n ≤ 1000000000000) = true := decide_eq_true (by omega)
            by_cases p1 : p < 0
            · have HR := Aside0.mk (show rightF so sk se n p = false by rw [hR, decide_eq_true p1, Bool.true_or, Bool.not_true, Bool.and_false])
              have d3 : decide (0 ≤ p) = false := decide_eq_false (by omega)
              clear hA hR hS hE n1 n2 p1
              go_enter Tryz.func9, Tryz.ntmps9
              go_wp2_with fail
              rw [HB.out, HW.out]
              refine (refname_calls so _).mono ?_
              rintro e w1 ⟨rfl, b1⟩
              rw [HA.out]
              have D1 := Aside0.mk (blk_below h0.out b1)
              have B1 := Aside0.mk (below_step BW.out b1)
              clear b1
              have y0 : w1.cell? ⟨B, 0, none⟩ = some (.string so) := (blk_cell D1.out 0).trans rfl
              have y1 : w1.cell? ⟨B, 1, none⟩ = some (.int .i64 n) := (blk_cell D1.out 1).trans rfl
              have y2 : w1.cell? ⟨B, 2, none⟩ = some (.string sk) := (blk_cell D1.out 2).trans rfl
              have y3 : w1.cell? ⟨B, 3, none⟩ = some (.string se) := (blk_cell D1.out 3).trans rfl
              have y4 : w1.cell? ⟨B, 4, none⟩ = some (.int .i64 p) := (blk_cell D1.out 4).trans rfl
              go_wp2_with fail
              refine (refname_calls sk _).mono ?_
              rintro e w2 ⟨rfl, b2⟩
              rw [HSK.out]
              have D2 := Aside0.mk (blk_below D1.out b2)
              have B2 := Aside0.mk (below_step B1.out b2)
              clear b2 y0 y1 y2 y3 y4
              have y0 : w2.cell? ⟨B, 0, none⟩ = some (.string so) := (blk_cell D2.out 0).trans rfl
              have y1 : w2.cell? ⟨B, 1, none⟩ = some (.int .i64 n) := (blk_cell D2.out 1).trans rfl
              have y2 : w2.cell? ⟨B, 2, none⟩ = some (.string sk) := (blk_cell D2.out 2).trans rfl
              have y3 : w2.cell? ⟨B, 3, none⟩ = some (.string se) := (blk_cell D2.out 3).trans rfl
              have y4 : w2.cell? ⟨B, 4, none⟩ = some (.int .i64 p) := (blk_cell D2.out 4).trans rfl
              go_wp2_with fail
              refine (refname_calls se _).mono ?_
              rintro e w3 ⟨rfl, b3⟩
              rw [HSE.out]
              have B3 := Aside0.mk (below_step B2.out b3)
              have D3 := blk_below D2.out b3
              clear b3 y0 y1 y2 y3 y4
              have y0 : w3.cell? ⟨B, 0, none⟩ = some (.string so) := (blk_cell D3 0).trans rfl
              have y1 : w3.cell? ⟨B, 1, none⟩ = some (.int .i64 n) := (blk_cell D3 1).trans rfl
              have y2 : w3.cell? ⟨B, 2, none⟩ = some (.string sk) := (blk_cell D3 2).trans rfl
              have y3 : w3.cell? ⟨B, 3, none⟩ = some (.string se) := (blk_cell D3 3).trans rfl
              have y4 : w3.cell? ⟨B, 4, none⟩ = some (.int .i64 p) := (blk_cell D3 4).trans rfl
              clear D3
              go_wp2_with fail
              go_ret
              exact ⟨by rw [HR.out]; rfl, B3.out⟩
            · have d3 : decide (0 ≤ p) = true := decide_eq_true (by omega)
              have HR := Aside0.mk (show rightF so sk se n p = decide (p ≤ 1000000000000) by
                rw [hR, decide_eq_false n1, decide_eq_false n2, decide_eq_false p1, Bool.false_or, Bool.false_or, Bool.not_false, Bool.true_and]
                by_cases p2 : 1000000000000 < p
                · rw [decide_eq_true p2, decide_eq_false (by omega)]; rfl
                · rw [decide_eq_false p2, decide_eq_true (by omega)]; rfl)
              clear hA hR hS hE n1 n2 p1
              go_enter Tryz.func9, Tryz.ntmps9
              go_wp2_with fail
              rw [HB.out, HW.out]
              refine (refname_calls so _).mono ?_
              rintro e w1 ⟨rfl, b1⟩
              rw [HA.out]
              have D1 := Aside0.mk (blk_below h0.out b1)
              have B1 := Aside0.mk (below_step BW.out b1)
              clear b1
              have y0 : w1.cell? ⟨B, 0, none⟩ = some (.string so) := (blk_cell D1.out 0).trans rfl
              have y1 : w1.cell? ⟨B, 1, none⟩ = some (.int .i64 n) := (blk_cell D1.out 1).trans rfl
              have y2 : w1.cell? ⟨B, 2, none⟩ = some (.string sk) := (blk_cell D1.out 2).trans rfl
              have y3 : w1.cell? ⟨B, 3, none⟩ = some (.string se) := (blk_cell D1.out 3).trans rfl
              have y4 : w1.cell? ⟨B, 4, none⟩ = some (.int .i64 p) := (blk_cell D1.out 4).trans rfl
              go_wp2_with fail
              refine (refname_calls sk _).mono ?_
              rintro e w2 ⟨rfl, b2⟩
              rw [HSK.out]
              have D2 := Aside0.mk (blk_below D1.out b2)
              have B2 := Aside0.mk (below_step B1.out b2)
              clear b2 y0 y1 y2 y3 y4
              have y0 : w2.cell? ⟨B, 0, none⟩ = some (.string so) := (blk_cell D2.out 0).trans rfl
              have y1 : w2.cell? ⟨B, 1, none⟩ = some (.int .i64 n) := (blk_cell D2.out 1).trans rfl
              have y2 : w2.cell? ⟨B, 2, none⟩ = some (.string sk) := (blk_cell D2.out 2).trans rfl
              have y3 : w2.cell? ⟨B, 3, none⟩ = some (.string se) := (blk_cell D2.out 3).trans rfl
              have y4 : w2.cell? ⟨B, 4, none⟩ = some (.int .i64 p) := (blk_cell D2.out 4).trans rfl
              go_wp2_with fail
              refine (refname_calls se _).mono ?_
              rintro e w3 ⟨rfl, b3⟩
              rw [HSE.out]
              have B3 := Aside0.mk (below_step B2.out b3)
              have D3 := blk_below D2.out b3
              clear b3 y0 y1 y2 y3 y4
              have y0 : w3.cell? ⟨B, 0, none⟩ = some (.string so) := (blk_cell D3 0).trans rfl
              have y1 : w3.cell? ⟨B, 1, none⟩ = some (.int .i64 n) := (blk_cell D3 1).trans rfl
              have y2 : w3.cell? ⟨B, 2, none⟩ = some (.string sk) := (blk_cell D3 2).trans rfl
              have y3 : w3.cell? ⟨B, 3, none⟩ = some (.string se) := (blk_cell D3 3).trans rfl
              have y4 : w3.cell? ⟨B, 4, none⟩ = some (.int .i64 p) := (blk_cell D3 4).trans rfl
              clear D3
              go_wp2_with fail
              go_ret
              exact ⟨by rw [HR.out]; rfl, B3.out⟩
/-- A line's text, put together. -/
theorem line_bd (so sk se : ByteArray) (n p : Int) : (⟨(lineL so sk se n p).toArray⟩ : ByteArray) = so ++ (⟨#[32]⟩ : ByteArray) ++ bd (Lib.itoa n) ++ (⟨#[32]⟩ : ByteArray) ++ sk ++ (⟨#[32]⟩ : ByteArray) ++ se ++ (⟨#[32]⟩ : ByteArray) ++ priceT p := by
  apply tl_inj
  have a : ∀ x y : ByteArray, tl (x ++ y) = tl x ++ tl y := fun x y => by simp [tl, ByteArray.data_append]
  have m : ∀ l : List UInt8, tl (⟨l.toArray⟩ : ByteArray) = l := fun l => by simp [tl]
  rw [m]
  simp only [a, tl_bd]
  have e : tl (⟨#[32]⟩ : ByteArray) = [32] := rfl
  rw [e]
  unfold lineL lineT
  rw [List.map_cons, Lib.join_cons]
  simp only [List.map_cons, List.map_nil, Lib.joinTail, m, List.flatten_cons, List.flatten_nil]
  simp
set_option maxHeartbeats 4000000 in
set_option maxRecDepth 20000 in
theorem refencode_calls (so sk se : ByteArray) (n p : Int) (w : World) :
    Calls Tryz.prog 7 #[.agg #[.string so, .int .i64 n, .string sk, .string se, .int .i64 p]] w fun e w' =>
      e = (if rightF so sk se n p = true then .returned (.tuple #[.string ⟨(lineL so sk se n p).toArray⟩, .int .i64 0]) else .returned (.tuple #[.string ⟨#[]⟩, .int .i64 1])) ∧ Below w.heap.size w w' := by
  obtain ⟨B, hB⟩ : ∃ B, w.heap.size = B := ⟨_, rfl⟩
  obtain ⟨W, hW⟩ : ∃ W, w.alloc (Obj.cells #[Value.string so, Value.int IntKind.i64 n, Value.string sk, Value.string se, Value.int IntKind.i64 p] 23) = W := ⟨_, rfl⟩
  have h0 := Aside0.mk (show W.heap[B]? = some (.cells #[Value.string so, Value.int IntKind.i64 n, Value.string sk, Value.string se, Value.int IntKind.i64 p] 23 (0, 0)) by rw [← hW, ← hB]; exact blk_new w _)
  have BW := Aside0.mk (show Below w.heap.size w W by rw [← hW]; exact below_alloc (Below.refl _ _) _)
  have HB := Aside0.mk hB
  have HW := Aside0.mk hW
  clear hB hW
  cases hr : rightF so sk se n p with
  | false =>
    have HR := Aside0.mk hr
    clear hr
    go_enter Tryz.func7, Tryz.ntmps7
    go_wp2_with fail
    rw [HW.out]
    refine (refright_calls so sk se n p _).mono ?_
    rintro e w2 ⟨rfl, b2⟩
    rw [HR.out]
    have B2 := Aside0.mk (below_step BW.out b2)
    clear b2
    go_wp2_with fail
    go_ret2
    exact ⟨rfl, B2.out⟩
  | true =>
    have hsq : 1 ≤ n ∧ n ≤ 1000000000000 := by
      unfold rightF badSeq at hr
      simp at hr
      omega
    have hnm : nameB so = true ∧ nameB sk = true ∧ nameB se = true := by
      unfold rightF at hr
      simp only [Bool.and_eq_true] at hr
      exact ⟨hr.1.1.1.1, hr.1.1.2, hr.1.2⟩
    obtain ⟨u, rfl⟩ : ∃ u : Nat, n = (u : Int) := ⟨n.toNat, by omega⟩
    have HNU0 := fun w0 => number_calls u (by omega) w0
    have z0 := name_size hnm.1
    have z1 := name_size hnm.2.1
    have z2 := name_size hnm.2.2
    have zn : (bd (Lib.itoa (u : Int))).size ≤ 21 := by rw [Lib.itoa_nonneg]; exact digits_size u (by omega)
    have zp : (priceT p).size ≤ 30 := by
      have e := text_size p
      unfold priceT
      split
      · show (textL p).toArray.size ≤ 30
        rw [List.size_toArray]; exact e
      · decide
    have hL := line_bd so sk se (u : Int) p
    have HR := Aside0.mk hr
    obtain ⟨N, hN⟩ : ∃ N, bd (Lib.itoa (u : Int)) = N := ⟨_, rfl⟩
    rw [hN] at HNU0 zn hL
    have HNU := Aside0.mk HNU0
    have q1 : (9223372036854775807 < so.size + 1) = False := eq_false (by omega)
    have q2 : (9223372036854775807 < so.size + 1 + N.size) = False := eq_false (by omega)
    have q3 : (9223372036854775807 < so.size + 1 + N.size + 1) = False := eq_false (by omega)
    have q4 : (9223372036854775807 < so.size + 1 + N.size + 1 + sk.size) = False := eq_false (by omega)
    have q5 : (9223372036854775807 < so.size + 1 + N.size + 1 + sk.size + 1) = False := eq_false (by omega)
    have q6 : (9223372036854775807 < so.size + 1 + N.size + 1 + sk.size + 1 + se.size) = False := eq_false (by omega)
    have q7 : (9223372036854775807 < so.size + 1 + N.size + 1 + sk.size + 1 + se.size + 1) = False := eq_false (by omega)
    have ZZ := Aside0.mk (show so.size + 1 + N.size + 1 + sk.size + 1 + se.size + 1 ≤ 1000 by omega)
    clear HNU0 hr hsq hnm hN z0 z1 z2 zn
    by_cases hp : 0 < p
    · have e : priceT p = bd (textL p) := by unfold priceT; rw [if_pos hp]; rfl
      have HT := Aside0.mk (fun w0 => reftext_calls p w0)
      rw [← e] at HT
      obtain ⟨P, hP⟩ : ∃ P, priceT p = P := ⟨_, rfl⟩
      rw [hP] at hL HT zp
      have HL := Aside0.mk hL
      have dp : decide (0 < p) = true := decide_eq_true hp
      have q8 : (9223372036854775807 < so.size + 1 + N.size + 1 + sk.size + 1 + se.size + 1 + P.size) = False := eq_false (by have := ZZ.out; omega)
      clear hL e hP zp
      go_enter Tryz.func7, Tryz.ntmps7
      go_wp2_with fail
      rw [HW.out, HB.out]
      refine (refright_calls so sk se (u : Int) p _).mono ?_
      rintro e w2 ⟨rfl, b2⟩
      rw [HR.out]
      have D2 := Aside0.mk (blk_below h0.out b2)
      have B2 := Aside0.mk (below_step BW.out b2)
      have y4 : w2.cell? ⟨B, 4, none⟩ = some (.int .i64 p) := (blk_cell D2.out 4).trans rfl
      clear b2
      go_wp2_with fail
      refine (HT.out _).mono ?_
      rintro e w3 ⟨rfl, b3⟩
      have D3 := Aside0.mk (blk_below D2.out b3)
      have B3 := Aside0.mk (below_step B2.out b3)
      clear b3 y4 hp
      go_wp2_with fail
      refine start_ (n := 20) (S := fun w' => w'.cell? ⟨B, 0, none⟩ = some (.string so) ∧ w'.cell? ⟨B, 1, none⟩ = some (.int .i64 (u : Int)) ∧ w'.cell? ⟨B, 2, none⟩ = some (.string sk) ∧ w'.cell? ⟨B, 3, none⟩ = some (.string se) ∧ Below w.heap.size w w') (ds := []) #[false, false, false, false, false, false, false, false, false, false, false, false, false, false, false, false, false, false, false, false] (by kernel_rfl) rfl rfl ⟨(blk_cell D3.out 0).trans rfl, (blk_cell D3.out 1).trans rfl, (blk_cell D3.out 2).trans rfl, (blk_cell D3.out 3).trans rfl, (by apply below_drew1; exact B3.out)⟩ (fun hHeld => ?_)
      refine pure_ (i := 0) (N := some 16) (v := ?_) (a' := ?_) #[true, false, false, false, false, false, false, false, false, false, false, false, false, false, false, false, false, false, false, false] rfl rfl (by kernel_rfl) (fun _ _ _ h => h) (Or.inl ⟨by rfl, ?_⟩) ?_ ?_
      rotate_left
      · intro w'
        go_simp
        with_reducible rfl
      rotate_left
      · simp only [Act.put, List.setIfInBounds_toArray, List.set_cons_zero, List.set_cons_succ, i64_w, i32_w]
        rfl
      refine pure_ (i := 3) (N := some 19) (v := ?_) (a' := ?_) #[true, false, false, true, false, false, false, false, false, false, false, false, false, false, false, false, false, false, false, false] rfl rfl (by kernel_rfl) (fun _ _ _ h => h) (Or.inl ⟨by rfl, ?_⟩) ?_ ?_
      rotate_left
      · intro w'
        go_simp
        with_reducible rfl
      rotate_left
      · simp only [Act.put, List.setIfInBounds_toArray, List.set_cons_zero, List.set_cons_succ, i64_w, i32_w]
        rfl
      refine pure_ (i := 8) (N := some 24) (v := ?_) (a' := ?_) #[true, false, false, true, false, false, false, false, true, false, false, false, false, false, false, false, false, false, false, false] rfl rfl (by kernel_rfl) (fun _ _ _ h => h) (Or.inl ⟨by rfl, ?_⟩) ?_ ?_
      rotate_left
      · intro w'
        go_simp
        with_reducible rfl
      rotate_left
      · simp only [Act.put, List.setIfInBounds_toArray, List.set_cons_zero, List.set_cons_succ, i64_w, i32_w]
        rfl
      refine pure_ (i := 12) (N := some 28) (v := ?_) (a' := ?_) #[true, false, false, true, false, false, false, false, true, false, false, false, true, false, false, false, false, false, false, false] rfl rfl (by kernel_rfl) (fun _ _ _ h => h) (Or.inl ⟨by rfl, ?_⟩) ?_ ?_
      rotate_left
      · intro w'
        go_simp
        with_reducible rfl
      rotate_left
      · simp only [Act.put, List.setIfInBounds_toArray, List.set_cons_zero, List.set_cons_succ, i64_w, i32_w]
        rfl
      refine pure_ (i := 16) (N := some 32) (v := ?_) (a' := ?_) #[true, false, false, true, false, false, false, false, true, false, false, false, true, false, false, false, true, false, false, false] rfl rfl (by kernel_rfl) (fun _ _ _ h => h) (Or.inl ⟨by rfl, ?_⟩) ?_ ?_
      rotate_left
      · intro w'
        go_simp
        with_reducible rfl
      rotate_left
      · simp only [Act.put, List.setIfInBounds_toArray, List.set_cons_zero, List.set_cons_succ, i64_w, i32_w]
        rfl
      refine take_ (i := 1) (N := some 17) (v := ?_) (a' := ?_) #[true, true, false, true, false, false, false, false, true, false, false, false, true, false, false, false, true, false, false, false] rfl rfl (by kernel_rfl) (fun _ _ _ h => h) (Or.inl ⟨by rfl, ?_⟩) hHeld ?_ ?_
      rotate_left
      · rintro w' ⟨s0, s1, s2, s3, s4⟩
        go_simp
        with_reducible rfl
      rotate_left
      · simp only [Act.put, List.setIfInBounds_toArray, List.set_cons_zero, List.set_cons_succ, i64_w, i32_w]
        rfl
      refine pure_ (i := 2) (N := some 18) (v := ?_) (a' := ?_) #[true, true, true, true, false, false, false, false, true, false, false, false, true, false, false, false, true, false, false, false] rfl rfl (by kernel_rfl) (fun _ _ _ h => h) (Or.inl ⟨by rfl, ?_⟩) ?_ ?_
      rotate_left
      · intro w'
        go_simp
        with_reducible rfl
      rotate_left
      · simp only [Act.put, List.setIfInBounds_toArray, List.set_cons_zero, List.set_cons_succ, i64_w, i32_w]
        rfl
      refine take_ (i := 4) (N := some 20) (v := ?_) (a' := ?_) #[true, true, true, true, true, false, false, false, true, false, false, false, true, false, false, false, true, false, false, false] rfl rfl (by kernel_rfl) (fun _ _ _ h => h) (Or.inl ⟨by rfl, ?_⟩) hHeld ?_ ?_
      rotate_left
      · rintro w' ⟨s0, s1, s2, s3, s4⟩
        go_simp
        with_reducible rfl
      rotate_left
      · simp only [Act.put, List.setIfInBounds_toArray, List.set_cons_zero, List.set_cons_succ, i64_w, i32_w]
        rfl
      refine take_ (i := 9) (N := some 25) (v := ?_) (a' := ?_) #[true, true, true, true, true, false, false, false, true, true, false, false, true, false, false, false, true, false, false, false] rfl rfl (by kernel_rfl) (fun _ _ _ h => h) (Or.inl ⟨by rfl, ?_⟩) hHeld ?_ ?_
      rotate_left
      · rintro w' ⟨s0, s1, s2, s3, s4⟩
        go_simp
        with_reducible rfl
      rotate_left
      · simp only [Act.put, List.setIfInBounds_toArray, List.set_cons_zero, List.set_cons_succ, i64_w, i32_w]
        rfl
      refine take_ (i := 13) (N := some 29) (v := ?_) (a' := ?_) #[true, true, true, true, true, false, false, false, true, true, false, false, true, true, false, false, true, false, false, false] rfl rfl (by kernel_rfl) (fun _ _ _ h => h) (Or.inl ⟨by rfl, ?_⟩) hHeld ?_ ?_
      rotate_left
      · rintro w' ⟨s0, s1, s2, s3, s4⟩
        go_simp
        with_reducible rfl
      rotate_left
      · simp only [Act.put, List.setIfInBounds_toArray, List.set_cons_zero, List.set_cons_succ, i64_w, i32_w]
        rfl
      refine one_ (i := 5) (N := some 21) #[true, true, true, true, true, true, false, false, true, true, false, false, true, true, false, false, true, false, false, false] rfl rfl (by kernel_rfl) (by decide) (fun K hK => ?_)
      refine goes_ Tryz.func18 (by kernel_rfl) rfl #[.int .i64 (u : Int)] (by rfl) rfl rfl (by simp only [List.map_toArray, List.map_cons, List.map_nil]; rfl) ?_
      with_reducible refine (HNU.out _).mono ?_
      rintro e w6 ⟨rfl, hb3⟩
      refine ⟨_, rfl, ?_⟩
      refine hK.out _ _ ⟨(hb3.cell (cell_lt hHeld.1)).trans hHeld.1, (hb3.cell (cell_lt hHeld.2.1)).trans hHeld.2.1, (hb3.cell (cell_lt hHeld.2.2.1)).trans hHeld.2.2.1, (hb3.cell (cell_lt hHeld.2.2.2.1)).trans hHeld.2.2.2.1, below_step hHeld.2.2.2.2 hb3⟩ (fun hHeld => ?_)
      clear hK K
      refine norm_ (a' := ?_) ?_ ?_
      rotate_left
      · show Act.put _ (some 21) _ = _
        simp only [Act.put, List.setIfInBounds_toArray, List.set_cons_zero, List.set_cons_succ, i64_w, i32_w]
        rfl
      refine pure_ (i := 6) (N := some 22) (v := ?_) (a' := ?_) #[true, true, true, true, true, true, true, false, true, true, false, false, true, true, false, false, true, false, false, false] rfl rfl (by kernel_rfl) (fun _ _ _ h => h) (Or.inl ⟨by rfl, ?_⟩) ?_ ?_
      rotate_left
      · intro w'
        go_simp
        with_reducible rfl
      rotate_left
      · simp only [Act.put, List.setIfInBounds_toArray, List.set_cons_zero, List.set_cons_succ, i64_w, i32_w]
        rfl
      refine pure_ (i := 7) (N := some 23) (v := ?_) (a' := ?_) #[true, true, true, true, true, true, true, true, true, true, false, false, true, true, false, false, true, false, false, false] rfl rfl (by kernel_rfl) (fun _ _ _ h => h) (Or.inl ⟨by rfl, ?_⟩) ?_ ?_
      rotate_left
      · intro w'
        go_simp
        with_reducible rfl
      rotate_left
      · simp only [Act.put, List.setIfInBounds_toArray, List.set_cons_zero, List.set_cons_succ, i64_w, i32_w]
        rfl
      refine pure_ (i := 10) (N := some 26) (v := ?_) (a' := ?_) #[true, true, true, true, true, true, true, true, true, true, true, false, true, true, false, false, true, false, false, false] rfl rfl (by kernel_rfl) (fun _ _ _ h => h) (Or.inl ⟨by rfl, ?_⟩) ?_ ?_
      rotate_left
      · intro w'
        go_simp
        with_reducible rfl
      rotate_left
      · simp only [Act.put, List.setIfInBounds_toArray, List.set_cons_zero, List.set_cons_succ, i64_w, i32_w]
        rfl
      refine pure_ (i := 11) (N := some 27) (v := ?_) (a' := ?_) #[true, true, true, true, true, true, true, true, true, true, true, true, true, true, false, false, true, false, false, false] rfl rfl (by kernel_rfl) (fun _ _ _ h => h) (Or.inl ⟨by rfl, ?_⟩) ?_ ?_
      rotate_left
      · intro w'
        go_simp
        with_reducible rfl
      rotate_left
      · simp only [Act.put, List.setIfInBounds_toArray, List.set_cons_zero, List.set_cons_succ, i64_w, i32_w]
        rfl
      refine pure_ (i := 14) (N := some 30) (v := ?_) (a' := ?_) #[true, true, true, true, true, true, true, true, true, true, true, true, true, true, true, false, true, false, false, false] rfl rfl (by kernel_rfl) (fun _ _ _ h => h) (Or.inl ⟨by rfl, ?_⟩) ?_ ?_
      rotate_left
      · intro w'
        go_simp
        with_reducible rfl
      rotate_left
      · simp only [Act.put, List.setIfInBounds_toArray, List.set_cons_zero, List.set_cons_succ, i64_w, i32_w]
        rfl
      refine pure_ (i := 15) (N := some 31) (v := ?_) (a' := ?_) #[true, true, true, true, true, true, true, true, true, true, true, true, true, true, true, true, true, false, false, false] rfl rfl (by kernel_rfl) (fun _ _ _ h => h) (Or.inl ⟨by rfl, ?_⟩) ?_ ?_
      rotate_left
      · intro w'
        go_simp
        with_reducible rfl
      rotate_left
      · simp only [Act.put, List.setIfInBounds_toArray, List.set_cons_zero, List.set_cons_succ, i64_w, i32_w]
        rfl
      refine pure_ (i := 17) (N := some 33) (v := ?_) (a' := ?_) #[true, true, true, true, true, true, true, true, true, true, true, true, true, true, true, true, true, true, false, false] rfl rfl (by kernel_rfl) (fun _ _ _ h => h) (Or.inl ⟨by rfl, ?_⟩) ?_ ?_
      rotate_left
      · intro w'
        go_simp
        with_reducible rfl
      rotate_left
      · simp only [Act.put, List.setIfInBounds_toArray, List.set_cons_zero, List.set_cons_succ, i64_w, i32_w]
        rfl
      refine pure_ (i := 18) (N := some 2) (v := ?_) (a' := ?_) #[true, true, true, true, true, true, true, true, true, true, true, true, true, true, true, true, true, true, true, false] rfl rfl (by kernel_rfl) (fun _ _ _ h => h) (Or.inl ⟨by rfl, ?_⟩) ?_ ?_
      rotate_left
      · intro w'
        go_simp
        with_reducible rfl
      rotate_left
      · simp only [Act.put, List.setIfInBounds_toArray, List.set_cons_zero, List.set_cons_succ, i64_w, i32_w]
        rfl
      refine pure_ (i := 19) (N := some 3) (v := ?_) (a' := ?_) #[true, true, true, true, true, true, true, true, true, true, true, true, true, true, true, true, true, true, true, true] rfl rfl (by kernel_rfl) (fun _ _ _ h => h) (Or.inl ⟨by rfl, ?_⟩) ?_ ?_
      rotate_left
      · intro w'
        go_simp
        with_reducible rfl
      rotate_left
      · simp only [Act.put, List.setIfInBounds_toArray, List.set_cons_zero, List.set_cons_succ, i64_w, i32_w]
        rfl
      refine done_ (by kernel_rfl) ?_

      have BZ := Aside0.mk hHeld.2.2.2.2
      clear hHeld
      go_wp2_with fail
      go_ret2
      exact ⟨by rw [HL.out]; rfl, BZ.out⟩
    · have e : priceT p = ⟨#[103, 111, 110, 101]⟩ := by unfold priceT; rw [if_neg hp]
      rw [e] at hL
      have HL := Aside0.mk hL
      have dp : decide (0 < p) = false := decide_eq_false hp
      have q8 : (9223372036854775807 < so.size + 1 + N.size + 1 + sk.size + 1 + se.size + 1 + 4) = False := eq_false (by have := ZZ.out; omega)
      clear hL e zp hp
      go_enter Tryz.func7, Tryz.ntmps7
      go_wp2_with fail
      rw [HW.out, HB.out]
      refine (refright_calls so sk se (u : Int) p _).mono ?_
      rintro e w2 ⟨rfl, b2⟩
      rw [HR.out]
      have D2 := Aside0.mk (blk_below h0.out b2)
      have B2 := Aside0.mk (below_step BW.out b2)
      have y4 : w2.cell? ⟨B, 4, none⟩ = some (.int .i64 p) := (blk_cell D2.out 4).trans rfl
      clear b2
      go_wp2_with fail
      refine start_ (n := 20) (S := fun w' => w'.cell? ⟨B, 0, none⟩ = some (.string so) ∧ w'.cell? ⟨B, 1, none⟩ = some (.int .i64 (u : Int)) ∧ w'.cell? ⟨B, 2, none⟩ = some (.string sk) ∧ w'.cell? ⟨B, 3, none⟩ = some (.string se) ∧ Below w.heap.size w w') (ds := []) #[false, false, false, false, false, false, false, false, false, false, false, false, false, false, false, false, false, false, false, false] (by kernel_rfl) rfl rfl ⟨(blk_cell D2.out 0).trans rfl, (blk_cell D2.out 1).trans rfl, (blk_cell D2.out 2).trans rfl, (blk_cell D2.out 3).trans rfl, (by apply below_drew1; exact B2.out)⟩ (fun hHeld => ?_)
      refine pure_ (i := 0) (N := some 16) (v := ?_) (a' := ?_) #[true, false, false, false, false, false, false, false, false, false, false, false, false, false, false, false, false, false, false, false] rfl rfl (by kernel_rfl) (fun _ _ _ h => h) (Or.inl ⟨by rfl, ?_⟩) ?_ ?_
      rotate_left
      · intro w'
        go_simp
        with_reducible rfl
      rotate_left
      · simp only [Act.put, List.setIfInBounds_toArray, List.set_cons_zero, List.set_cons_succ, i64_w, i32_w]
        rfl
      refine pure_ (i := 3) (N := some 19) (v := ?_) (a' := ?_) #[true, false, false, true, false, false, false, false, false, false, false, false, false, false, false, false, false, false, false, false] rfl rfl (by kernel_rfl) (fun _ _ _ h => h) (Or.inl ⟨by rfl, ?_⟩) ?_ ?_
      rotate_left
      · intro w'
        go_simp
        with_reducible rfl
      rotate_left
      · simp only [Act.put, List.setIfInBounds_toArray, List.set_cons_zero, List.set_cons_succ, i64_w, i32_w]
        rfl
      refine pure_ (i := 8) (N := some 24) (v := ?_) (a' := ?_) #[true, false, false, true, false, false, false, false, true, false, false, false, false, false, false, false, false, false, false, false] rfl rfl (by kernel_rfl) (fun _ _ _ h => h) (Or.inl ⟨by rfl, ?_⟩) ?_ ?_
      rotate_left
      · intro w'
        go_simp
        with_reducible rfl
      rotate_left
      · simp only [Act.put, List.setIfInBounds_toArray, List.set_cons_zero, List.set_cons_succ, i64_w, i32_w]
        rfl
      refine pure_ (i := 12) (N := some 28) (v := ?_) (a' := ?_) #[true, false, false, true, false, false, false, false, true, false, false, false, true, false, false, false, false, false, false, false] rfl rfl (by kernel_rfl) (fun _ _ _ h => h) (Or.inl ⟨by rfl, ?_⟩) ?_ ?_
      rotate_left
      · intro w'
        go_simp
        with_reducible rfl
      rotate_left
      · simp only [Act.put, List.setIfInBounds_toArray, List.set_cons_zero, List.set_cons_succ, i64_w, i32_w]
        rfl
      refine pure_ (i := 16) (N := some 32) (v := ?_) (a' := ?_) #[true, false, false, true, false, false, false, false, true, false, false, false, true, false, false, false, true, false, false, false] rfl rfl (by kernel_rfl) (fun _ _ _ h => h) (Or.inl ⟨by rfl, ?_⟩) ?_ ?_
      rotate_left
      · intro w'
        go_simp
        with_reducible rfl
      rotate_left
      · simp only [Act.put, List.setIfInBounds_toArray, List.set_cons_zero, List.set_cons_succ, i64_w, i32_w]
        rfl
      refine take_ (i := 1) (N := some 17) (v := ?_) (a' := ?_) #[true, true, false, true, false, false, false, false, true, false, false, false, true, false, false, false, true, false, false, false] rfl rfl (by kernel_rfl) (fun _ _ _ h => h) (Or.inl ⟨by rfl, ?_⟩) hHeld ?_ ?_
      rotate_left
      · rintro w' ⟨s0, s1, s2, s3, s4⟩
        go_simp
        with_reducible rfl
      rotate_left
      · simp only [Act.put, List.setIfInBounds_toArray, List.set_cons_zero, List.set_cons_succ, i64_w, i32_w]
        rfl
      refine pure_ (i := 2) (N := some 18) (v := ?_) (a' := ?_) #[true, true, true, true, false, false, false, false, true, false, false, false, true, false, false, false, true, false, false, false] rfl rfl (by kernel_rfl) (fun _ _ _ h => h) (Or.inl ⟨by rfl, ?_⟩) ?_ ?_
      rotate_left
      · intro w'
        go_simp
        with_reducible rfl
      rotate_left
      · simp only [Act.put, List.setIfInBounds_toArray, List.set_cons_zero, List.set_cons_succ, i64_w, i32_w]
        rfl
      refine take_ (i := 4) (N := some 20) (v := ?_) (a' := ?_) #[true, true, true, true, true, false, false, false, true, false, false, false, true, false, false, false, true, false, false, false] rfl rfl (by kernel_rfl) (fun _ _ _ h => h) (Or.inl ⟨by rfl, ?_⟩) hHeld ?_ ?_
      rotate_left
      · rintro w' ⟨s0, s1, s2, s3, s4⟩
        go_simp
        with_reducible rfl
      rotate_left
      · simp only [Act.put, List.setIfInBounds_toArray, List.set_cons_zero, List.set_cons_succ, i64_w, i32_w]
        rfl
      refine take_ (i := 9) (N := some 25) (v := ?_) (a' := ?_) #[true, true, true, true, true, false, false, false, true, true, false, false, true, false, false, false, true, false, false, false] rfl rfl (by kernel_rfl) (fun _ _ _ h => h) (Or.inl ⟨by rfl, ?_⟩) hHeld ?_ ?_
      rotate_left
      · rintro w' ⟨s0, s1, s2, s3, s4⟩
        go_simp
        with_reducible rfl
      rotate_left
      · simp only [Act.put, List.setIfInBounds_toArray, List.set_cons_zero, List.set_cons_succ, i64_w, i32_w]
        rfl
      refine take_ (i := 13) (N := some 29) (v := ?_) (a' := ?_) #[true, true, true, true, true, false, false, false, true, true, false, false, true, true, false, false, true, false, false, false] rfl rfl (by kernel_rfl) (fun _ _ _ h => h) (Or.inl ⟨by rfl, ?_⟩) hHeld ?_ ?_
      rotate_left
      · rintro w' ⟨s0, s1, s2, s3, s4⟩
        go_simp
        with_reducible rfl
      rotate_left
      · simp only [Act.put, List.setIfInBounds_toArray, List.set_cons_zero, List.set_cons_succ, i64_w, i32_w]
        rfl
      refine one_ (i := 5) (N := some 21) #[true, true, true, true, true, true, false, false, true, true, false, false, true, true, false, false, true, false, false, false] rfl rfl (by kernel_rfl) (by decide) (fun K hK => ?_)
      refine goes_ Tryz.func18 (by kernel_rfl) rfl #[.int .i64 (u : Int)] (by rfl) rfl rfl (by simp only [List.map_toArray, List.map_cons, List.map_nil]; rfl) ?_
      with_reducible refine (HNU.out _).mono ?_
      rintro e w6 ⟨rfl, hb3⟩
      refine ⟨_, rfl, ?_⟩
      refine hK.out _ _ ⟨(hb3.cell (cell_lt hHeld.1)).trans hHeld.1, (hb3.cell (cell_lt hHeld.2.1)).trans hHeld.2.1, (hb3.cell (cell_lt hHeld.2.2.1)).trans hHeld.2.2.1, (hb3.cell (cell_lt hHeld.2.2.2.1)).trans hHeld.2.2.2.1, below_step hHeld.2.2.2.2 hb3⟩ (fun hHeld => ?_)
      clear hK K
      refine norm_ (a' := ?_) ?_ ?_
      rotate_left
      · show Act.put _ (some 21) _ = _
        simp only [Act.put, List.setIfInBounds_toArray, List.set_cons_zero, List.set_cons_succ, i64_w, i32_w]
        rfl
      refine pure_ (i := 6) (N := some 22) (v := ?_) (a' := ?_) #[true, true, true, true, true, true, true, false, true, true, false, false, true, true, false, false, true, false, false, false] rfl rfl (by kernel_rfl) (fun _ _ _ h => h) (Or.inl ⟨by rfl, ?_⟩) ?_ ?_
      rotate_left
      · intro w'
        go_simp
        with_reducible rfl
      rotate_left
      · simp only [Act.put, List.setIfInBounds_toArray, List.set_cons_zero, List.set_cons_succ, i64_w, i32_w]
        rfl
      refine pure_ (i := 7) (N := some 23) (v := ?_) (a' := ?_) #[true, true, true, true, true, true, true, true, true, true, false, false, true, true, false, false, true, false, false, false] rfl rfl (by kernel_rfl) (fun _ _ _ h => h) (Or.inl ⟨by rfl, ?_⟩) ?_ ?_
      rotate_left
      · intro w'
        go_simp
        with_reducible rfl
      rotate_left
      · simp only [Act.put, List.setIfInBounds_toArray, List.set_cons_zero, List.set_cons_succ, i64_w, i32_w]
        rfl
      refine pure_ (i := 10) (N := some 26) (v := ?_) (a' := ?_) #[true, true, true, true, true, true, true, true, true, true, true, false, true, true, false, false, true, false, false, false] rfl rfl (by kernel_rfl) (fun _ _ _ h => h) (Or.inl ⟨by rfl, ?_⟩) ?_ ?_
      rotate_left
      · intro w'
        go_simp
        with_reducible rfl
      rotate_left
      · simp only [Act.put, List.setIfInBounds_toArray, List.set_cons_zero, List.set_cons_succ, i64_w, i32_w]
        rfl
      refine pure_ (i := 11) (N := some 27) (v := ?_) (a' := ?_) #[true, true, true, true, true, true, true, true, true, true, true, true, true, true, false, false, true, false, false, false] rfl rfl (by kernel_rfl) (fun _ _ _ h => h) (Or.inl ⟨by rfl, ?_⟩) ?_ ?_
      rotate_left
      · intro w'
        go_simp
        with_reducible rfl
      rotate_left
      · simp only [Act.put, List.setIfInBounds_toArray, List.set_cons_zero, List.set_cons_succ, i64_w, i32_w]
        rfl
      refine pure_ (i := 14) (N := some 30) (v := ?_) (a' := ?_) #[true, true, true, true, true, true, true, true, true, true, true, true, true, true, true, false, true, false, false, false] rfl rfl (by kernel_rfl) (fun _ _ _ h => h) (Or.inl ⟨by rfl, ?_⟩) ?_ ?_
      rotate_left
      · intro w'
        go_simp
        with_reducible rfl
      rotate_left
      · simp only [Act.put, List.setIfInBounds_toArray, List.set_cons_zero, List.set_cons_succ, i64_w, i32_w]
        rfl
      refine pure_ (i := 15) (N := some 31) (v := ?_) (a' := ?_) #[true, true, true, true, true, true, true, true, true, true, true, true, true, true, true, true, true, false, false, false] rfl rfl (by kernel_rfl) (fun _ _ _ h => h) (Or.inl ⟨by rfl, ?_⟩) ?_ ?_
      rotate_left
      · intro w'
        go_simp
        with_reducible rfl
      rotate_left
      · simp only [Act.put, List.setIfInBounds_toArray, List.set_cons_zero, List.set_cons_succ, i64_w, i32_w]
        rfl
      refine pure_ (i := 17) (N := some 33) (v := ?_) (a' := ?_) #[true, true, true, true, true, true, true, true, true, true, true, true, true, true, true, true, true, true, false, false] rfl rfl (by kernel_rfl) (fun _ _ _ h => h) (Or.inl ⟨by rfl, ?_⟩) ?_ ?_
      rotate_left
      · intro w'
        go_simp
        with_reducible rfl
      rotate_left
      · simp only [Act.put, List.setIfInBounds_toArray, List.set_cons_zero, List.set_cons_succ, i64_w, i32_w]
        rfl
      refine pure_ (i := 18) (N := some 2) (v := ?_) (a' := ?_) #[true, true, true, true, true, true, true, true, true, true, true, true, true, true, true, true, true, true, true, false] rfl rfl (by kernel_rfl) (fun _ _ _ h => h) (Or.inl ⟨by rfl, ?_⟩) ?_ ?_
      rotate_left
      · intro w'
        go_simp
        with_reducible rfl
      rotate_left
      · simp only [Act.put, List.setIfInBounds_toArray, List.set_cons_zero, List.set_cons_succ, i64_w, i32_w]
        rfl
      refine pure_ (i := 19) (N := some 3) (v := ?_) (a' := ?_) #[true, true, true, true, true, true, true, true, true, true, true, true, true, true, true, true, true, true, true, true] rfl rfl (by kernel_rfl) (fun _ _ _ h => h) (Or.inl ⟨by rfl, ?_⟩) ?_ ?_
      rotate_left
      · intro w'
        go_simp
        with_reducible rfl
      rotate_left
      · simp only [Act.put, List.setIfInBounds_toArray, List.set_cons_zero, List.set_cons_succ, i64_w, i32_w]
        rfl
      refine done_ (by kernel_rfl) ?_

      have BZ := Aside0.mk hHeld.2.2.2.2
      clear hHeld
      go_wp2_with fail
      go_ret2
      exact ⟨by rw [HL.out]; rfl, BZ.out⟩
end Go.Proofs.YtbecemdehelooaaGreatDoor.FeedRe
