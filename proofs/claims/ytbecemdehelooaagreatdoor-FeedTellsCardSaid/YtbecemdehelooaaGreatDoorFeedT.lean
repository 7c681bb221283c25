/- Amounts' texts. -/
import Derived.Test.YtbecemdehelooaaGreatDoorFeedD
namespace Go.Proofs.YtbecemdehelooaaGreatDoor.FeedT
open Go.RowKit Go.Proofs.YtbecemdehelooaaGreatDoor.FrameS Go.Proofs.YtbecemdehelooaaGreatDoor.FeedG Go.Proofs.YtbecemdehelooaaGreatDoor.FeedD Go.Proofs.YtbecemdehelooaaGreatDoorW.PrintWords Go.Proofs.YtbecemdehelooaaGreatDoorW.PrintLast Go.Proofs.YtbecemdehelooaaGreatDoorW.PrintMore
set_option linter.unusedVariables false
set_option linter.unusedSimpArgs false
def InMoney (a : Int) : Bool := decide (-1000000000000 ≤ a) && decide (a ≤ 1000000000000)
set_option maxHeartbeats 1000000 in
theorem within_calls (a : Int) (w : World) : Calls Tryz.prog 45 #[.int .i64 a, .int .i64 (-1000000000000), .int .i64 1000000000000] w fun e w' => e = .returned (.bool (InMoney a)) ∧ w = w' := by
  by_cases c1 : -1000000000000 ≤ a
  · have d1 : decide (-1000000000000 ≤ a) = true := decide_eq_true c1
    have hr := Aside0.mk (show InMoney a = decide (a ≤ 1000000000000) by unfold InMoney; rw [d1]; rfl)
    go_enter Tryz.func45, Tryz.ntmps45
    go_wp2
    go_ret
    exact ⟨by rw [hr.out]; rfl, rfl⟩
  · have d1 : decide (-1000000000000 ≤ a) = false := decide_eq_false c1
    have hr := Aside0.mk (show InMoney a = false by unfold InMoney; rw [d1]; rfl)
    go_enter Tryz.func45, Tryz.ntmps45
    go_wp2
    go_ret
    exact ⟨by rw [hr.out]; rfl, rfl⟩
theorem money_calls (a : Int) (w : World) : Calls Tryz.prog 29 #[.int .i64 a] w fun e w' => e = .returned (.bool (InMoney a)) ∧ w = w' := by
  go_enter Tryz.func29, Tryz.ntmps29
  go_wp2_with fail
  refine (within_calls a _).mono ?_
  rintro e w' ⟨rfl, rfl⟩
  go_wp2_with fail
  go_ret
  exact ⟨rfl, rfl⟩
/-- An amount's text, of its sign and size. -/
def restL (u : Nat) : List UInt8 := Lib.itoa ((u / 100 : Nat) : Int) ++ 46 :: (Lib.itoa ((100 + u % 100 : Nat) : Int)).drop 1
def textL (a : Int) : List UInt8 := if InMoney a = true then (if a < 0 then [45] else []) ++ restL a.natAbs else []
theorem three_digits (u : Nat) : (Lib.itoa ((100 + u % 100 : Nat) : Int)).length = 3 := by
  unfold Lib.itoa
  rw [if_neg (by omega), Int.toNat_natCast, Lib.decDigits_length, Lib.nDigits_big (by omega), Lib.nDigits_big (by omega), Lib.nDigits_small (by omega)]
theorem tl_ext (s : ByteArray) (i j : Nat) : tl (s.extract i j) = ((tl s).take j).drop i := by
  unfold tl
  rw [ByteArray.data_extract, Array.toList_extract, List.extract_eq_take_drop, List.drop_take]
theorem rest_val (sg : ByteArray) (u : Nat) : sg ++ (⟨(Lib.itoa ((u / 100 : Nat) : Int)).toArray⟩ : ByteArray) ++ (⟨#[46]⟩ : ByteArray) ++ (⟨(Lib.itoa ((100 + u % 100 : Nat) : Int)).toArray⟩ : ByteArray).extract 1 3 = ⟨(tl sg ++ restL u).toArray⟩ := by
  apply tl_inj
  have h3 := three_digits u
  have e : tl ((⟨(Lib.itoa ((100 + u % 100 : Nat) : Int)).toArray⟩ : ByteArray).extract 1 3) = (Lib.itoa ((100 + u % 100 : Nat) : Int)).drop 1 := by
    have m : ∀ l : List UInt8, tl (⟨l.toArray⟩ : ByteArray) = l := fun l => by simp [tl]
    rw [tl_ext, m, List.take_of_length_le (by omega)]
  have a : ∀ x y : ByteArray, tl (x ++ y) = tl x ++ tl y := fun x y => by simp [tl, ByteArray.data_append]
  rw [a, a, a, e]
  unfold restL
  simp [tl]
set_option maxHeartbeats 2000000 in
set_option maxRecDepth 100000 in
theorem text_calls (a : Int) (w : World) (hG : G w) :
    Calls Tryz.prog 14 #[.int .i64 a] w fun e w' => e = .returned (.string ⟨(textL a).toArray⟩) ∧ Below w.heap.size w w' := by
  have HG := Aside0.mk hG
  clear hG
  by_cases hin : InMoney a = true
  · have hb : -1000000000000 ≤ a ∧ a ≤ 1000000000000 := by
      unfold InMoney at hin
      simpa using hin
    by_cases hneg : a < 0
    · obtain ⟨u, hu0⟩ : ∃ u : Nat, -a = (u : Int) := ⟨a.natAbs, by omega⟩
      have hr := Aside0.mk (show textL a = [45] ++ restL u by unfold textL; rw [if_pos hin, if_pos hneg]; congr 2; omega)
      have hu : u ≤ 1000000000000 := by omega
      have d1 : decide (a < 0) = true := decide_eq_true hneg
      have hw : wrap64 (-a) = (u : Int) := by unfold wrap64; omega
      clear hu0
      clear hb hneg
      go_enter Tryz.func14, Tryz.ntmps14
      go_wp2_with fail
      refine (money_calls _ _).mono ?_
      rintro e w1 ⟨rfl, rfl⟩
      rw [hin]
      clear hin
      have hq1 : Int.tmod (u : Int) 100 = ((u % 100 : Nat) : Int) := by rw [Int.tmod_eq_emod_of_nonneg (by omega)]; omega
      have hq2 : wrap64 ((u % 100 : Nat) : Int) = ((u % 100 : Nat) : Int) := by unfold wrap64; omega
      have hq3 : wrap64 (100 + ((u % 100 : Nat) : Int)) = ((100 + u % 100 : Nat) : Int) := by unfold wrap64; omega
      have hq4 : Int.tdiv (u : Int) 100 = ((u / 100 : Nat) : Int) := by rw [Int.tdiv_eq_ediv_of_nonneg (by omega)]; omega
      have hq5 : wrap64 ((u / 100 : Nat) : Int) = ((u / 100 : Nat) : Int) := by unfold wrap64; omega
      have h3 := three_digits u
      obtain ⟨p, hp⟩ : ∃ p, u % 100 = p := ⟨_, rfl⟩
      obtain ⟨v, hv⟩ : ∃ v, u / 100 = v := ⟨_, rfl⟩
      have HP := Aside0.mk hp
      have HV := Aside0.mk hv
      have hu2 := Aside0.mk hu
      rw [hp] at hq1 hq2 hq3 h3
      rw [hv] at hq4 hq5
      have hp100 : p < 100 := by omega
      have hvb : v ≤ 10000000000 := by omega
      have hP := Aside0.mk hp100
      have hVB := Aside0.mk hvb
      obtain ⟨m, hm⟩ : ∃ m : Nat, 100 + p = m := ⟨_, rfl⟩
      have HM := Aside0.mk hm
      rw [hm] at hq3 h3
      clear hp hv hu hp100 hvb hm
      go_wp2_with fail
      have HT1 := Aside0.mk HG.out.tab
      refine (Tryz.strconv_Itoa (m : Int) (by omega) (by have := hP.out; have := HM.out; omega) _ HT1.out).mono ?_
      rintro e w1 ⟨rfl, k1, os1, rfl⟩
      have B1 := Aside0.mk (below_grown' w k1 os1)
      generalize Sort.grow (w.drewN k1) os1 = w1 at B1 ⊢
      have G1 := Aside0.mk (HG.out.below B1.out)
      obtain ⟨x, hx⟩ : ∃ x : ByteArray, ⟨(Lib.itoa (m : Int)).toArray⟩ = x := ⟨_, rfl⟩
      have hxs : x.size = 3 := by rw [← hx]; show (List.toArray _).size = 3; rw [List.size_toArray]; exact h3
      rw [hx]
      have HX := Aside0.mk hx
      clear hx h3
      obtain ⟨y, hy⟩ : ∃ y : ByteArray, ⟨(Lib.itoa (v : Int)).toArray⟩ = y := ⟨_, rfl⟩
      have hys : y.size ≤ 21 := by rw [← hy]; show (List.toArray _).size ≤ 21; rw [List.size_toArray]; exact Lib.itoa_length_le _ (by omega) (by have := hVB.out; omega)
      have HY := Aside0.mk hy
      clear hy
      have z1 : (9223372036854775807 < 1 + y.size) = False := eq_false (by omega)
      have z2 : (9223372036854775807 < ((⟨#[45]⟩ : ByteArray) ++ y).size + 1) = False := eq_false (by rw [ByteArray.size_append]; have := (show ((⟨#[45]⟩ : ByteArray) : ByteArray).size ≤ 1 by decide); omega)
      have z2' : (9223372036854775807 < 1 + y.size + 1) = False := eq_false (by omega)
      have z3 : (9223372036854775807 < 1 + y.size + 1 + (x.size - 1)) = False := eq_false (by omega)
      have z4 : (9223372036854775807 < 1 + y.size + 1 + 2) = False := eq_false (by omega)
      have z6 : (9223372036854775807 < 1 + y.size + 1 + (3 - 1)) = False := eq_false (by omega)
      have hq6 : IntKind.i64.wrap (v : Int) = v := (i64_w _).trans hq5
      have z5 : (1 : Int) ≤ (x.size : Int) := by omega
      have cI := Aside0.mk (fun (w' : World) (h : G w') => Tryz.strconv_Itoa (v : Int) (by omega) (by have := hVB.out; omega) w' h.tab)
      go_wp2_with fail
      refine start_ (n := 10) (S := fun w' => G w' ∧ Below w.heap.size w w') (ds := []) #[false, false, false, false, false, false, false, false, false, false] (by kernel_rfl) rfl rfl ⟨G1.out.below (by apply below_drew1; exact Below.refl _ _), (by apply below_drew1; exact B1.out)⟩ (fun hHeld => ?_)
      refine pure_ (i := 0) (N := some 18) (v := ?_) (a' := ?_) #[true, false, false, false, false, false, false, false, false, false] rfl rfl (by kernel_rfl) (fun _ _ _ h => h) (Or.inl ⟨by rfl, ?_⟩) ?_ ?_
      rotate_left
      · intro w'
        go_simp
        with_reducible rfl
      rotate_left
      · simp only [Act.put, List.setIfInBounds_toArray, List.set_cons_zero, List.set_cons_succ, i64_w, i32_w]
        rfl
      refine pure_ (i := 1) (N := some 19) (v := ?_) (a' := ?_) #[true, true, false, false, false, false, false, false, false, false] rfl rfl (by kernel_rfl) (fun _ _ _ h => h) (Or.inl ⟨by rfl, ?_⟩) ?_ ?_
      rotate_left
      · intro w'
        go_simp
        with_reducible rfl
      rotate_left
      · simp only [Act.put, List.setIfInBounds_toArray, List.set_cons_zero, List.set_cons_succ, i64_w, i32_w]
        rfl
      refine pure_ (i := 2) (N := some 20) (v := ?_) (a' := ?_) #[true, true, true, false, false, false, false, false, false, false] rfl rfl (by kernel_rfl) (fun _ _ _ h => h) (Or.inl ⟨by rfl, ?_⟩) ?_ ?_
      rotate_left
      · intro w'
        go_simp
        with_reducible rfl
      rotate_left
      · simp only [Act.put, List.setIfInBounds_toArray, List.set_cons_zero, List.set_cons_succ, i64_w, i32_w]
        rfl
      refine pure_ (i := 6) (N := some 24) (v := ?_) (a' := ?_) #[true, true, true, false, false, false, true, false, false, false] rfl rfl (by kernel_rfl) (fun _ _ _ h => h) (Or.inl ⟨by rfl, ?_⟩) ?_ ?_
      rotate_left
      · intro w'
        go_simp
        with_reducible rfl
      rotate_left
      · simp only [Act.put, List.setIfInBounds_toArray, List.set_cons_zero, List.set_cons_succ, i64_w, i32_w]
        rfl
      refine pure_ (i := 7) (N := some 25) (v := ?_) (a' := ?_) #[true, true, true, false, false, false, true, true, false, false] rfl rfl (by kernel_rfl) (fun _ _ _ h => h) (Or.inl ⟨by rfl, ?_⟩) ?_ ?_
      rotate_left
      · intro w'
        go_simp
        with_reducible rfl
      rotate_left
      · simp only [Act.put, List.setIfInBounds_toArray, List.set_cons_zero, List.set_cons_succ, i64_w, i32_w]
        rfl
      refine one_ (i := 3) (N := some 21) #[true, true, true, true, false, false, true, true, false, false] rfl rfl (by kernel_rfl) (by decide) (fun K hK => ?_)
      refine goes_ Tryz.func30 (by kernel_rfl) rfl #[.int .i64 (v : Int)] (by rfl) rfl rfl (by simp only [List.map_toArray, List.map_cons, List.map_nil]; rfl) ?_
      with_reducible refine (cI.out _ hHeld.1).mono ?_
      rintro e w3 ⟨rfl, k3, os3, rfl⟩
      refine ⟨_, rfl, ?_⟩
      rw [HY.out]
      refine hK.out _ _ ⟨hHeld.1.below (below_grown' _ k3 os3), below_step hHeld.2 (below_grown' _ k3 os3)⟩ (fun hHeld => ?_)
      clear hK K
      refine norm_ (a' := ?_) ?_ ?_
      rotate_left
      · show Act.put _ (some 21) _ = _
        simp only [Act.put, List.setIfInBounds_toArray, List.set_cons_zero, List.set_cons_succ, i64_w, i32_w]
        rfl
      refine pure_ (i := 4) (N := some 22) (v := ?_) (a' := ?_) #[true, true, true, true, true, false, true, true, false, false] rfl rfl (by kernel_rfl) (fun _ _ _ h => h) (Or.inl ⟨by rfl, ?_⟩) ?_ ?_
      rotate_left
      · intro w'
        go_simp
        with_reducible rfl
      rotate_left
      · simp only [Act.put, List.setIfInBounds_toArray, List.set_cons_zero, List.set_cons_succ, i64_w, i32_w]
        rfl
      refine pure_ (i := 5) (N := some 23) (v := ?_) (a' := ?_) #[true, true, true, true, true, true, true, true, false, false] rfl rfl (by kernel_rfl) (fun _ _ _ h => h) (Or.inl ⟨by rfl, ?_⟩) ?_ ?_
      rotate_left
      · intro w'
        go_simp
        with_reducible rfl
      rotate_left
      · simp only [Act.put, List.setIfInBounds_toArray, List.set_cons_zero, List.set_cons_succ, i64_w, i32_w]
        rfl
      refine pure_ (i := 8) (N := some 26) (v := ?_) (a' := ?_) #[true, true, true, true, true, true, true, true, true, false] rfl rfl (by kernel_rfl) (fun _ _ _ h => h) (Or.inl ⟨by rfl, ?_⟩) ?_ ?_
      rotate_left
      · intro w'
        go_simp
        with_reducible rfl
      rotate_left
      · simp only [Act.put, List.setIfInBounds_toArray, List.set_cons_zero, List.set_cons_succ, i64_w, i32_w]
        rfl
      refine pure_ (i := 9) (N := some 2) (v := ?_) (a' := ?_) #[true, true, true, true, true, true, true, true, true, true] rfl rfl (by kernel_rfl) (fun _ _ _ h => h) (Or.inl ⟨by rfl, ?_⟩) ?_ ?_
      rotate_left
      · intro w'
        go_simp
        with_reducible rfl
      rotate_left
      · simp only [Act.put, List.setIfInBounds_toArray, List.set_cons_zero, List.set_cons_succ, i64_w, i32_w]
        rfl
      refine done_ (by kernel_rfl) ?_

      go_wp2_with fail
      go_ret
      refine ⟨?_, hHeld.2⟩
      rw [hr.out]
      have e := rest_val (⟨#[45]⟩ : ByteArray) u
      rw [HP.out, HV.out, HM.out, HX.out, HY.out] at e
      show Ending.returned (.string ((⟨#[45]⟩ : ByteArray) ++ y ++ (⟨#[46]⟩ : ByteArray) ++ x.extract 1 3)) = _
      rw [e]
      rfl
    · obtain ⟨u, rfl⟩ := Int.eq_ofNat_of_zero_le (show 0 ≤ a by omega)
      have hr := Aside0.mk (show textL (u : Int) = restL u by unfold textL; rw [if_pos hin, if_neg hneg]; rfl)
      have hu : u ≤ 1000000000000 := by omega
      have d1 : decide ((u : Int) < 0) = false := decide_eq_false hneg
      clear hb hneg
      go_enter Tryz.func14, Tryz.ntmps14
      go_wp2_with fail
      refine (money_calls _ _).mono ?_
      rintro e w1 ⟨rfl, rfl⟩
      rw [hin]
      clear hin
      have hq1 : Int.tmod (u : Int) 100 = ((u % 100 : Nat) : Int) := by rw [Int.tmod_eq_emod_of_nonneg (by omega)]; omega
      have hq2 : wrap64 ((u % 100 : Nat) : Int) = ((u % 100 : Nat) : Int) := by unfold wrap64; omega
      have hq3 : wrap64 (100 + ((u % 100 : Nat) : Int)) = ((100 + u % 100 : Nat) : Int) := by unfold wrap64; omega
      have hq4 : Int.tdiv (u : Int) 100 = ((u / 100 : Nat) : Int) := by rw [Int.tdiv_eq_ediv_of_nonneg (by omega)]; omega
      have hq5 : wrap64 ((u / 100 : Nat) : Int) = ((u / 100 : Nat) : Int) := by unfold wrap64; omega
      have h3 := three_digits u
      obtain ⟨p, hp⟩ : ∃ p, u % 100 = p := ⟨_, rfl⟩
      obtain ⟨v, hv⟩ : ∃ v, u / 100 = v := ⟨_, rfl⟩
      have HP := Aside0.mk hp
      have HV := Aside0.mk hv
      have hu2 := Aside0.mk hu
      rw [hp] at hq1 hq2 hq3 h3
      rw [hv] at hq4 hq5
      have hp100 : p < 100 := by omega
      have hvb : v ≤ 10000000000 := by omega
      have hP := Aside0.mk hp100
      have hVB := Aside0.mk hvb
      obtain ⟨m, hm⟩ : ∃ m : Nat, 100 + p = m := ⟨_, rfl⟩
      have HM := Aside0.mk hm
      rw [hm] at hq3 h3
      clear hp hv hu hp100 hvb hm
      go_wp2_with fail
      have HT1 := Aside0.mk HG.out.tab
      refine (Tryz.strconv_Itoa (m : Int) (by omega) (by have := hP.out; have := HM.out; omega) _ HT1.out).mono ?_
      rintro e w1 ⟨rfl, k1, os1, rfl⟩
      have B1 := Aside0.mk (below_grown' w k1 os1)
      generalize Sort.grow (w.drewN k1) os1 = w1 at B1 ⊢
      have G1 := Aside0.mk (HG.out.below B1.out)
      obtain ⟨x, hx⟩ : ∃ x : ByteArray, ⟨(Lib.itoa (m : Int)).toArray⟩ = x := ⟨_, rfl⟩
      have hxs : x.size = 3 := by rw [← hx]; show (List.toArray _).size = 3; rw [List.size_toArray]; exact h3
      rw [hx]
      have HX := Aside0.mk hx
      clear hx h3
      obtain ⟨y, hy⟩ : ∃ y : ByteArray, ⟨(Lib.itoa (v : Int)).toArray⟩ = y := ⟨_, rfl⟩
      have hys : y.size ≤ 21 := by rw [← hy]; show (List.toArray _).size ≤ 21; rw [List.size_toArray]; exact Lib.itoa_length_le _ (by omega) (by have := hVB.out; omega)
      have HY := Aside0.mk hy
      clear hy
      have z1 : (9223372036854775807 < y.size) = False := eq_false (by omega)
      have z2 : (9223372036854775807 < ((⟨#[]⟩ : ByteArray) ++ y).size + 1) = False := eq_false (by rw [ByteArray.size_append]; have := (show ((⟨#[]⟩ : ByteArray) : ByteArray).size ≤ 1 by decide); omega)
      have z2' : (9223372036854775807 < y.size + 1) = False := eq_false (by omega)
      have z3 : (9223372036854775807 < y.size + 1 + (x.size - 1)) = False := eq_false (by omega)
      have z4 : (9223372036854775807 < y.size + 1 + 2) = False := eq_false (by omega)
      have z6 : (9223372036854775807 < y.size + 1 + (3 - 1)) = False := eq_false (by omega)
      have hq6 : IntKind.i64.wrap (v : Int) = v := (i64_w _).trans hq5
      have z5 : (1 : Int) ≤ (x.size : Int) := by omega
      have cI := Aside0.mk (fun (w' : World) (h : G w') => Tryz.strconv_Itoa (v : Int) (by omega) (by have := hVB.out; omega) w' h.tab)
      go_wp2_with fail
      refine start_ (n := 10) (S := fun w' => G w' ∧ Below w.heap.size w w') (ds := []) #[false, false, false, false, false, false, false, false, false, false] (by kernel_rfl) rfl rfl ⟨G1.out.below (by apply below_drew1; exact Below.refl _ _), (by apply below_drew1; exact B1.out)⟩ (fun hHeld => ?_)
      refine pure_ (i := 0) (N := some 18) (v := ?_) (a' := ?_) #[true, false, false, false, false, false, false, false, false, false] rfl rfl (by kernel_rfl) (fun _ _ _ h => h) (Or.inl ⟨by rfl, ?_⟩) ?_ ?_
      rotate_left
      · intro w'
        go_simp
        with_reducible rfl
      rotate_left
      · simp only [Act.put, List.setIfInBounds_toArray, List.set_cons_zero, List.set_cons_succ, i64_w, i32_w]
        rfl
      refine pure_ (i := 1) (N := some 19) (v := ?_) (a' := ?_) #[true, true, false, false, false, false, false, false, false, false] rfl rfl (by kernel_rfl) (fun _ _ _ h => h) (Or.inl ⟨by rfl, ?_⟩) ?_ ?_
      rotate_left
      · intro w'
        go_simp
        with_reducible rfl
      rotate_left
      · simp only [Act.put, List.setIfInBounds_toArray, List.set_cons_zero, List.set_cons_succ, i64_w, i32_w]
        rfl
      refine pure_ (i := 2) (N := some 20) (v := ?_) (a' := ?_) #[true, true, true, false, false, false, false, false, false, false] rfl rfl (by kernel_rfl) (fun _ _ _ h => h) (Or.inl ⟨by rfl, ?_⟩) ?_ ?_
      rotate_left
      · intro w'
        go_simp
        with_reducible rfl
      rotate_left
      · simp only [Act.put, List.setIfInBounds_toArray, List.set_cons_zero, List.set_cons_succ, i64_w, i32_w]
        rfl
      refine pure_ (i := 6) (N := some 24) (v := ?_) (a' := ?_) #[true, true, true, false, false, false, true, false, false, false] rfl rfl (by kernel_rfl) (fun _ _ _ h => h) (Or.inl ⟨by rfl, ?_⟩) ?_ ?_
      rotate_left
      · intro w'
        go_simp
        with_reducible rfl
      rotate_left
      · simp only [Act.put, List.setIfInBounds_toArray, List.set_cons_zero, List.set_cons_succ, i64_w, i32_w]
        rfl
      refine pure_ (i := 7) (N := some 25) (v := ?_) (a' := ?_) #[true, true, true, false, false, false, true, true, false, false] rfl rfl (by kernel_rfl) (fun _ _ _ h => h) (Or.inl ⟨by rfl, ?_⟩) ?_ ?_
      rotate_left
      · intro w'
        go_simp
        with_reducible rfl
      rotate_left
      · simp only [Act.put, List.setIfInBounds_toArray, List.set_cons_zero, List.set_cons_succ, i64_w, i32_w]
        rfl
      refine one_ (i := 3) (N := some 21) #[true, true, true, true, false, false, true, true, false, false] rfl rfl (by kernel_rfl) (by decide) (fun K hK => ?_)
      refine goes_ Tryz.func30 (by kernel_rfl) rfl #[.int .i64 (v : Int)] (by rfl) rfl rfl (by simp only [List.map_toArray, List.map_cons, List.map_nil]; rfl) ?_
      with_reducible refine (cI.out _ hHeld.1).mono ?_
      rintro e w3 ⟨rfl, k3, os3, rfl⟩
      refine ⟨_, rfl, ?_⟩
      rw [HY.out]
      refine hK.out _ _ ⟨hHeld.1.below (below_grown' _ k3 os3), below_step hHeld.2 (below_grown' _ k3 os3)⟩ (fun hHeld => ?_)
      clear hK K
      refine norm_ (a' := ?_) ?_ ?_
      rotate_left
      · show Act.put _ (some 21) _ = _
        simp only [Act.put, List.setIfInBounds_toArray, List.set_cons_zero, List.set_cons_succ, i64_w, i32_w]
        rfl
      refine pure_ (i := 4) (N := some 22) (v := ?_) (a' := ?_) #[true, true, true, true, true, false, true, true, false, false] rfl rfl (by kernel_rfl) (fun _ _ _ h => h) (Or.inl ⟨by rfl, ?_⟩) ?_ ?_
      rotate_left
      · intro w'
        go_simp
        with_reducible rfl
      rotate_left
      · simp only [Act.put, List.setIfInBounds_toArray, List.set_cons_zero, List.set_cons_succ, i64_w, i32_w]
        rfl
      refine pure_ (i := 5) (N := some 23) (v := ?_) (a' := ?_) #[true, true, true, true, true, true, true, true, false, false] rfl rfl (by kernel_rfl) (fun _ _ _ h => h) (Or.inl ⟨by rfl, ?_⟩) ?_ ?_
      rotate_left
      · intro w'
        go_simp
        with_reducible rfl
      rotate_left
      · simp only [Act.put, List.setIfInBounds_toArray, List.set_cons_zero, List.set_cons_succ, i64_w, i32_w]
        rfl
      refine pure_ (i := 8) (N := some 26) (v := ?_) (a' := ?_) #[true, true, true, true, true, true, true, true, true, false] rfl rfl (by kernel_rfl) (fun _ _ _ h => h) (Or.inl ⟨by rfl, ?_⟩) ?_ ?_
      rotate_left
      · intro w'
        go_simp
        with_reducible rfl
      rotate_left
      · simp only [Act.put, List.setIfInBounds_toArray, List.set_cons_zero, List.set_cons_succ, i64_w, i32_w]
        rfl
      refine pure_ (i := 9) (N := some 2) (v := ?_) (a' := ?_) #[true, true, true, true, true, true, true, true, true, true] rfl rfl (by kernel_rfl) (fun _ _ _ h => h) (Or.inl ⟨by rfl, ?_⟩) ?_ ?_
      rotate_left
      · intro w'
        go_simp
        with_reducible rfl
      rotate_left
      · simp only [Act.put, List.setIfInBounds_toArray, List.set_cons_zero, List.set_cons_succ, i64_w, i32_w]
        rfl
      refine done_ (by kernel_rfl) ?_

      go_wp2_with fail
      go_ret
      refine ⟨?_, hHeld.2⟩
      rw [hr.out]
      have e := rest_val (⟨#[]⟩ : ByteArray) u
      rw [HP.out, HV.out, HM.out, HX.out, HY.out] at e
      show Ending.returned (.string ((⟨#[]⟩ : ByteArray) ++ y ++ (⟨#[46]⟩ : ByteArray) ++ x.extract 1 3)) = _
      rw [e]
      rfl
  · have hno : InMoney a = false := by simpa using hin
    have hr := Aside0.mk (show textL a = [] by unfold textL; rw [if_neg hin])
    clear hin
    go_enter Tryz.func14, Tryz.ntmps14
    go_wp2_with fail
    refine (money_calls _ _).mono ?_
    rintro e w1 ⟨rfl, rfl⟩
    rw [hno]
    clear hno
    go_wp2_with fail
    go_ret
    exact ⟨by rw [hr.out]; rfl, Below.refl _ _⟩
end Go.Proofs.YtbecemdehelooaaGreatDoor.FeedT
