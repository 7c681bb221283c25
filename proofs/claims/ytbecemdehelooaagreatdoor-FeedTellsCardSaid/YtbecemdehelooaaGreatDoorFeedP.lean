/- Amounts, read. -/
import Derived.Test.YtbecemdehelooaaGreatDoorFeedT
namespace Go.Proofs.YtbecemdehelooaaGreatDoor.FeedP
open Go.RowKit Go.Proofs.YtbecemdehelooaaGreatDoor.FrameS Go.Proofs.YtbecemdehelooaaGreatDoor.FeedG Go.Proofs.YtbecemdehelooaaGreatDoor.FeedD Go.Proofs.YtbecemdehelooaaGreatDoor.FeedT Go.Proofs.YtbecemdehelooaaGreatDoorW.PrintWords Go.Proofs.YtbecemdehelooaaGreatDoorW.PrintLast Go.Proofs.YtbecemdehelooaaGreatDoorW.PrintMore
set_option linter.unusedVariables false
set_option linter.unusedSimpArgs false
def bd (l : List UInt8) : ByteArray := ⟨l.toArray⟩
theorem tl_bd (l : List UInt8) : tl (bd l) = l := by simp [tl, bd]
/-- The parts of a text: ahead of the point, behind it. -/
def wholeL (l : List UInt8) : List UInt8 := (Lib.cut (Lib.trimPrefix l [45]) [46]).1
def behindL (l : List UInt8) : List UInt8 := (Lib.cut (Lib.trimPrefix l [45]) [46]).2.1
def sizeL (l : List UInt8) : Int := countL (wholeL l) 10000000000 * 100 + (((behindL l).getD 0 0).toNat - 48 : Nat) * 10 + (((behindL l).getD 1 0).toNat - 48 : Nat)
def amountL (l : List UInt8) : Int := if l.head? = some 45 then -(sizeL l) else sizeL l
def parseB (l : List UInt8) : Bool := decide (0 ≤ countL (wholeL l) 10000000000) && decide ((behindL l).length = 2) && allB (behindL l) && (textL (amountL l) == l)
def parseL (l : List UInt8) : Int × Int := if parseB l = true then (amountL l, 0) else (0, 20)
theorem parse_no {l : List UInt8} (h : parseB l = false) : parseL l = (0, 20) := by unfold parseL; rw [h]; rfl
theorem parse_yes {l : List UInt8} (h : parseB l = true) : parseL l = (amountL l, 0) := by unfold parseL; rw [h]; rfl
theorem count_le (l : List UInt8) (most : Int) (h : 0 ≤ most) : countL l most ≤ most ∧ -9223372036854775808 ≤ countL l most := by
  unfold countL
  split
  · rename_i n hn
    have := atoi_ok_bound hn
    split
    · rename_i h2; exact ⟨h2.2.1, this.1⟩
    · exact ⟨by omega, by omega⟩
  · exact ⟨by omega, by omega⟩
theorem trim_len (l p : List UInt8) : (Lib.trimPrefix l p).length ≤ l.length := by
  unfold Lib.trimPrefix
  split
  · rw [List.length_drop]; omega
  · exact Nat.le_refl _
theorem cut_len (l p : List UInt8) : (Lib.cut l p).1.length ≤ l.length ∧ (Lib.cut l p).2.1.length ≤ l.length := by
  unfold Lib.cut
  split
  · show (List.take _ l).length ≤ _ ∧ (List.drop _ l).length ≤ _
    rw [List.length_take, List.length_drop]; omega
  · exact ⟨Nat.le_refl _, Nat.zero_le _⟩
theorem cut_sizes (l : List UInt8) : (wholeL l).length ≤ l.length ∧ (behindL l).length ≤ l.length := by
  have h1 := trim_len l [45]
  have h2 := cut_len (Lib.trimPrefix l [45]) [46]
  exact ⟨Nat.le_trans h2.1 h1, Nat.le_trans h2.2 h1⟩
theorem whole_ne {l : List UInt8} (h : 0 ≤ countL (wholeL l) 10000000000) : l ≠ [] := by
  rintro rfl
  revert h
  decide
set_option maxHeartbeats 2000000 in
set_option maxRecDepth 100000 in
theorem parse_calls (s : ByteArray) (w : World) (hG : G w) (hs : s.size ≤ 100000) :
    Calls Tryz.prog 42 #[.string s] w fun e w' => e = .returned (.tuple #[.int .i64 (parseL (tl s)).1, .int .i64 (parseL (tl s)).2]) ∧ Below w.heap.size w w' := by
  have HG := Aside0.mk hG
  have hl := tl_length s
  have hcs := cut_sizes (tl s)
  have hcl := count_le (wholeL (tl s)) 10000000000 (by decide)
  obtain ⟨n, hn⟩ : ∃ n, countL (wholeL (tl s)) 10000000000 = n := ⟨_, rfl⟩
  obtain ⟨W, hW⟩ : ∃ W, bd (wholeL (tl s)) = W := ⟨_, rfl⟩
  obtain ⟨R, hR⟩ : ∃ R, bd (behindL (tl s)) = R := ⟨_, rfl⟩
  have hWt : tl W = wholeL (tl s) := by rw [← hW, tl_bd]
  have hRt : tl R = behindL (tl s) := by rw [← hR, tl_bd]
  have hWs := tl_length W
  have hRs := tl_length R
  rw [hWt] at hWs
  rw [hRt] at hRs
  rw [hn] at hcl
  have hWb := Aside0.mk (show W.size ≤ 281474976710656 by omega)
  have hTb : Lib.trimPrefix s.data.toList [45] = Lib.trimPrefix (tl s) [45] := rfl
  obtain ⟨T, hT⟩ : ∃ T, bd (Lib.trimPrefix (tl s) [45]) = T := ⟨_, rfl⟩
  have hTs : T.size < 4294967281 := by
    have h1 := trim_len (tl s) [45]
    have h2 := tl_length T
    rw [← hT, tl_bd] at h2
    rw [← hT]; omega
  obtain ⟨mm, hmm⟩ := hG.m0
  have HMM := Aside0.mk hmm
  have HTS := Aside0.mk hTs
  have HTE := Aside0.mk hT
  have hcutW : (⟨(Lib.cut T.data.toList [46]).1.toArray⟩ : ByteArray) = W := by rw [← hW, ← hT]; show bd (Lib.cut (tl (bd _)) [46]).1 = _; rw [tl_bd]; rfl
  have hcutR : (⟨(Lib.cut T.data.toList [46]).2.1.toArray⟩ : ByteArray) = R := by rw [← hR, ← hT]; show bd (Lib.cut (tl (bd _)) [46]).2.1 = _; rw [tl_bd]; rfl
  have HCW := Aside0.mk hcutW
  have HCR := Aside0.mk hcutR
  have HN := Aside0.mk hn
  have HWT := Aside0.mk hWt
  have HRT := Aside0.mk hRt
  have HRS := Aside0.mk hRs
  have HCL := Aside0.mk hcl
  have HL := Aside0.mk hl
  clear hG hl hcs hn hW hR hWt hRt hWs hRs hcl hTb hT hTs hmm hcutW hcutR
  go_enter Tryz.func42, Tryz.ntmps42
  go_wp2_with fail
  refine (Tryz.strings_TrimPrefix s ⟨#[45]⟩ _).mono ?_
  rintro e w1 ⟨rfl, h1⟩
  obtain rfl : w = w1 := h1.symm
  rw [show (⟨(Lib.trimPrefix s.data.toList (⟨#[45]⟩ : ByteArray).data.toList).toArray⟩ : ByteArray) = T from HTE.out]
  go_wp2_with fail
  refine (Tryz.strings_Cut T ⟨#[46]⟩ mm _ HTS.out HMM.out).mono ?_
  rintro e w2 ⟨rfl, k2, rfl⟩
  rw [HCW.out, HCR.out]
  obtain ⟨fd, hfd⟩ : ∃ x, (Lib.cut T.data.toList (⟨#[46]⟩ : ByteArray).data.toList).2.2 = x := ⟨_, rfl⟩
  try rw [hfd]
  clear hfd
  have B2 := Aside0.mk (pw_below_drewN (Below.refl w.heap.size w) k2)
  go_wp2_with fail
  refine (count_calls W 10000000000 _ (HG.out.below B2.out) hWb.out (by decide)).mono ?_
  rintro e w3 ⟨rfl, b3⟩
  rw [HWT.out, HN.out]
  have B3 := Aside0.mk (below_step B2.out b3)
  clear b3 B2
  by_cases hneg : n < 0
  · have d1 : decide (n < 0) = true := decide_eq_true hneg
    have hp := Aside0.mk (parse_no (l := tl s) (by unfold parseB; rw [HN.out, decide_eq_false (by omega)]; rfl))
    clear hneg
    go_wp2_with fail
    go_ret2
    exact ⟨by rw [hp.out]; rfl, B3.out⟩
  have d1 : decide (n < 0) = false := decide_eq_false hneg
  by_cases h2 : R.size = 2
  · have d2 : ((R.size : Int) != 2) = false := bne_eq_false_iff_eq.2 (by omega)
    have hR2 := Aside0.mk h2
    clear h2
    go_wp2_with fail
    refine (all_calls R _).mono ?_
    rintro e w4 ⟨rfl, b4⟩
    have B4 := Aside0.mk (below_step B3.out b4)
    clear b4 B3
    cases hal : allB (tl R) with
    | false =>
      have hp := Aside0.mk (parse_no (l := tl s) (by unfold parseB; rw [← HRT.out, hal]; simp))
      clear hal
      go_wp2_with fail
      go_ret2
      exact ⟨by rw [hp.out]; rfl, B4.out⟩
    | true =>
      obtain ⟨x0, x1, hx⟩ : ∃ x0 x1, tl R = [x0, x1] := by
        have h := tl_length R
        rw [hR2.out] at h
        match hq : tl R, h with
        | [a, b], _ => exact ⟨a, b, rfl⟩
      have hbe : behindL (tl s) = [x0, x1] := by rw [← HRT.out, hx]
      have hdg : digB x0 = true ∧ digB x1 = true := by
        rw [hx] at hal
        unfold allB at hal
        simpa using hal
      have hd0 : 48 ≤ x0.toNat ∧ x0.toNat ≤ 57 := by have := hdg.1; unfold digB at this; simpa using this
      have hd1 : 48 ≤ x1.toNat ∧ x1.toNat ≤ 57 := by have := hdg.2; unfold digB at this; simpa using this
      have e0 : ∀ h : 0 < R.size, R[0]'h = x0 := fun h => by
        have : (tl R)[0]'(by rw [hx]; simp) = x0 := by simp [hx]
        exact this
      have e1 : ∀ h : 1 < R.size, R[1]'h = x1 := fun h => by
        have : (tl R)[1]'(by rw [hx]; simp) = x1 := by simp [hx]
        exact this
      obtain ⟨m, rfl⟩ := Int.eq_ofNat_of_zero_le (show 0 ≤ n by omega)
      have hm := HCL.out.1
      have HN0 := Aside0.mk (show decide (0 ≤ countL (wholeL (tl s)) 10000000000) = true by rw [HN.out]; exact decide_eq_true (by omega))
      have HR2 := Aside0.mk (show decide ((behindL (tl s)).length = 2) = true by rw [hbe]; rfl)
      have HAL := Aside0.mk (show allB (behindL (tl s)) = true by rw [← HRT.out, hal])
      obtain ⟨v0, hv0⟩ : ∃ v : Nat, x0.toNat - 48 = v := ⟨_, rfl⟩
      obtain ⟨v1, hv1⟩ : ∃ v : Nat, x1.toNat - 48 = v := ⟨_, rfl⟩
      obtain ⟨z, hz⟩ : ∃ z : Nat, 100 * m + 10 * v0 + v1 = z := ⟨_, rfl⟩
      have hsz := Aside0.mk (show sizeL (tl s) = (z : Int) by
        unfold sizeL
        rw [HN.out, hbe]
        show (m : Int) * 100 + ((x0.toNat - 48 : Nat) : Int) * 10 + ((x1.toNat - 48 : Nat) : Int) = _
        rw [hv0, hv1, ← hz]; omega)
      obtain ⟨m1, hm1⟩ : ∃ z : Nat, 100 * m = z := ⟨_, rfl⟩
      obtain ⟨w0, hw0⟩ : ∃ z : Nat, 10 * v0 = z := ⟨_, rfl⟩
      obtain ⟨m2, hm2⟩ : ∃ z : Nat, m1 + w0 = z := ⟨_, rfl⟩
      have a1 : IntKind.i64.wrap ((m : Int) * 100) = (m1 : Int) := (i64_w _).trans (by unfold wrap64; omega)
      have a2 : IntKind.u8.wrap ((x0.toNat : Int) - 48) = (v0 : Int) := by simp [IntKind.wrap, IntKind.bits, IntKind.signed]; omega
      have a3 : IntKind.i64.wrap (v0 : Int) = (v0 : Int) := (i64_w _).trans (by unfold wrap64; omega)
      have a4 : IntKind.i64.wrap ((v0 : Int) * 10) = (w0 : Int) := (i64_w _).trans (by unfold wrap64; omega)
      have a5 : IntKind.i64.wrap ((m1 : Int) + (w0 : Int)) = (m2 : Int) := (i64_w _).trans (by unfold wrap64; omega)
      have a6 : IntKind.u8.wrap ((x1.toNat : Int) - 48) = (v1 : Int) := by simp [IntKind.wrap, IntKind.bits, IntKind.signed]; omega
      have a7 : IntKind.i64.wrap (v1 : Int) = (v1 : Int) := (i64_w _).trans (by unfold wrap64; omega)
      have a8 : IntKind.i64.wrap ((m2 : Int) + (v1 : Int)) = (z : Int) := (i64_w _).trans (by unfold wrap64; omega)
      have a9 : wrap64 (-(z : Int)) = -(z : Int) := by unfold wrap64; omega
      have a10 : IntKind.i64.wrap (-(z : Int)) = -(z : Int) := (i64_w _).trans a9
      have zR0 : 0 < R.size := by have := hR2.out; omega
      have zR1 : 1 < R.size := by have := hR2.out; omega
      have zR2 : ((1 : Int) < (R.size : Int)) = True := eq_true (by have := hR2.out; omega)
      obtain ⟨c, l', hc⟩ : ∃ c l', tl s = c :: l' := by
        cases h : tl s with
        | nil => exact absurd h (whole_ne (by rw [HN.out]; omega))
        | cons c l => exact ⟨c, l, rfl⟩
      have hps : 0 < s.size := by rw [← HL.out, hc]; simp
      have es : ∀ h : 0 < s.size, s[0]'h = c := fun h => by
        have : (tl s)[0]'(by rw [hc]; simp) = c := by simp [hc]
        exact this
      have HC := Aside0.mk hc
      clear hx hbe hdg hd0 hd1 hm hv0 hv1 hz hm1 hw0 hm2 hal hc hneg
      go_wp2_with fail
      refine start_ (n := 14) (S := fun w' => G w' ∧ Below w.heap.size w w') (ds := []) #[false, false, false, false, false, false, false, false, false, false, false, false, false, false] (by kernel_rfl) rfl rfl ⟨HG.out.below (by apply below_drew1; exact B4.out), (by apply below_drew1; exact B4.out)⟩ (fun hHeld => ?_)
      refine pure_ (i := 0) (N := some 30) (v := ?_) (a' := ?_) #[true, false, false, false, false, false, false, false, false, false, false, false, false, false] rfl rfl (by kernel_rfl) (fun _ _ _ h => h) (Or.inl ⟨by rfl, ?_⟩) ?_ ?_
      rotate_left
      · intro w'
        go_simp
        with_reducible rfl
      rotate_left
      · simp only [Act.put, List.setIfInBounds_toArray, List.set_cons_zero, List.set_cons_succ, i64_w, i32_w]
        rfl
      refine pure_ (i := 1) (N := some 31) (v := ?_) (a' := ?_) #[true, true, false, false, false, false, false, false, false, false, false, false, false, false] rfl rfl (by kernel_rfl) (fun _ _ _ h => h) (Or.inl ⟨by rfl, ?_⟩) ?_ ?_
      rotate_left
      · intro w'
        go_simp
        with_reducible rfl
      rotate_left
      · simp only [Act.put, List.setIfInBounds_toArray, List.set_cons_zero, List.set_cons_succ, i64_w, i32_w]
        rfl
      refine pure_ (i := 2) (N := some 32) (v := ?_) (a' := ?_) #[true, true, true, false, false, false, false, false, false, false, false, false, false, false] rfl rfl (by kernel_rfl) (fun _ _ _ h => h) (Or.inl ⟨by rfl, ?_⟩) ?_ ?_
      rotate_left
      · intro w'
        go_simp
        with_reducible rfl
      rotate_left
      · simp only [Act.put, List.setIfInBounds_toArray, List.set_cons_zero, List.set_cons_succ, i64_w, i32_w]
        rfl
      refine pure_ (i := 8) (N := some 38) (v := ?_) (a' := ?_) #[true, true, true, false, false, false, false, false, true, false, false, false, false, false] rfl rfl (by kernel_rfl) (fun _ _ _ h => h) (Or.inl ⟨by rfl, ?_⟩) ?_ ?_
      rotate_left
      · intro w'
        go_simp
        with_reducible rfl
      rotate_left
      · simp only [Act.put, List.setIfInBounds_toArray, List.set_cons_zero, List.set_cons_succ, i64_w, i32_w]
        rfl
      refine take_ (i := 3) (N := some 33) (v := ?_) (a' := ?_) #[true, true, true, true, false, false, false, false, true, false, false, false, false, false] rfl rfl (by kernel_rfl) (fun _ _ _ h => h) (Or.inl ⟨by rfl, ?_⟩) hHeld ?_ ?_
      rotate_left
      · rintro w' ⟨s0, s1⟩
        go_simp
        with_reducible rfl
      rotate_left
      · simp only [Act.put, List.setIfInBounds_toArray, List.set_cons_zero, List.set_cons_succ, i64_w, i32_w]
        rfl
      refine pure_ (i := 4) (N := some 34) (v := ?_) (a' := ?_) #[true, true, true, true, true, false, false, false, true, false, false, false, false, false] rfl rfl (by kernel_rfl) (fun _ _ _ h => h) (Or.inl ⟨by rfl, ?_⟩) ?_ ?_
      rotate_left
      · intro w'
        go_simp
        with_reducible rfl
      rotate_left
      · simp only [Act.put, List.setIfInBounds_toArray, List.set_cons_zero, List.set_cons_succ, i64_w, i32_w]
        rfl
      refine pure_ (i := 5) (N := some 35) (v := ?_) (a' := ?_) #[true, true, true, true, true, true, false, false, true, false, false, false, false, false] rfl rfl (by kernel_rfl) (fun _ _ _ h => h) (Or.inl ⟨by rfl, ?_⟩) ?_ ?_
      rotate_left
      · intro w'
        go_simp
        with_reducible rfl
      rotate_left
      · simp only [Act.put, List.setIfInBounds_toArray, List.set_cons_zero, List.set_cons_succ, i64_w, i32_w]
        rfl
      refine pure_ (i := 6) (N := some 36) (v := ?_) (a' := ?_) #[true, true, true, true, true, true, true, false, true, false, false, false, false, false] rfl rfl (by kernel_rfl) (fun _ _ _ h => h) (Or.inl ⟨by rfl, ?_⟩) ?_ ?_
      rotate_left
      · intro w'
        go_simp
        with_reducible rfl
      rotate_left
      · simp only [Act.put, List.setIfInBounds_toArray, List.set_cons_zero, List.set_cons_succ, i64_w, i32_w]
        rfl
      refine pure_ (i := 7) (N := some 37) (v := ?_) (a' := ?_) #[true, true, true, true, true, true, true, true, true, false, false, false, false, false] rfl rfl (by kernel_rfl) (fun _ _ _ h => h) (Or.inl ⟨by rfl, ?_⟩) ?_ ?_
      rotate_left
      · intro w'
        go_simp
        with_reducible rfl
      rotate_left
      · simp only [Act.put, List.setIfInBounds_toArray, List.set_cons_zero, List.set_cons_succ, i64_w, i32_w]
        rfl
      refine take_ (i := 9) (N := some 39) (v := ?_) (a' := ?_) #[true, true, true, true, true, true, true, true, true, true, false, false, false, false] rfl rfl (by kernel_rfl) (fun _ _ _ h => h) (Or.inl ⟨by rfl, ?_⟩) hHeld ?_ ?_
      rotate_left
      · rintro w' ⟨s0, s1⟩
        go_simp
        with_reducible rfl
      rotate_left
      · simp only [Act.put, List.setIfInBounds_toArray, List.set_cons_zero, List.set_cons_succ, i64_w, i32_w]
        rfl
      refine pure_ (i := 10) (N := some 40) (v := ?_) (a' := ?_) #[true, true, true, true, true, true, true, true, true, true, true, false, false, false] rfl rfl (by kernel_rfl) (fun _ _ _ h => h) (Or.inl ⟨by rfl, ?_⟩) ?_ ?_
      rotate_left
      · intro w'
        go_simp
        with_reducible rfl
      rotate_left
      · simp only [Act.put, List.setIfInBounds_toArray, List.set_cons_zero, List.set_cons_succ, i64_w, i32_w]
        rfl
      refine pure_ (i := 11) (N := some 41) (v := ?_) (a' := ?_) #[true, true, true, true, true, true, true, true, true, true, true, true, false, false] rfl rfl (by kernel_rfl) (fun _ _ _ h => h) (Or.inl ⟨by rfl, ?_⟩) ?_ ?_
      rotate_left
      · intro w'
        go_simp
        with_reducible rfl
      rotate_left
      · simp only [Act.put, List.setIfInBounds_toArray, List.set_cons_zero, List.set_cons_succ, i64_w, i32_w]
        rfl
      refine pure_ (i := 12) (N := some 42) (v := ?_) (a' := ?_) #[true, true, true, true, true, true, true, true, true, true, true, true, true, false] rfl rfl (by kernel_rfl) (fun _ _ _ h => h) (Or.inl ⟨by rfl, ?_⟩) ?_ ?_
      rotate_left
      · intro w'
        go_simp
        with_reducible rfl
      rotate_left
      · simp only [Act.put, List.setIfInBounds_toArray, List.set_cons_zero, List.set_cons_succ, i64_w, i32_w]
        rfl
      refine pure_ (i := 13) (N := some 8) (v := ?_) (a' := ?_) #[true, true, true, true, true, true, true, true, true, true, true, true, true, true] rfl rfl (by kernel_rfl) (fun _ _ _ h => h) (Or.inl ⟨by rfl, ?_⟩) ?_ ?_
      rotate_left
      · intro w'
        go_simp
        with_reducible rfl
      rotate_left
      · simp only [Act.put, List.setIfInBounds_toArray, List.set_cons_zero, List.set_cons_succ, i64_w, i32_w]
        rfl
      refine done_ (by kernel_rfl) ?_

      have B4 := Aside0.mk hHeld.2
      by_cases h45 : c = 45
      · have d45 : ((c.toNat : Int) == 45) = true := by rw [h45]; rfl
        have ham := Aside0.mk (show amountL (tl s) = -(z : Int) by unfold amountL; rw [if_pos (show (tl s).head? = some 45 by rw [HC.out, h45]; rfl), hsz.out])
        clear h45
        go_wp2_with fail
        refine (text_calls (-(z : Int)) _ (HG.out.below B4.out)).mono ?_
        rintro e w5 ⟨rfl, b5⟩
        have B5 := Aside0.mk (below_step B4.out b5)
        clear b5
        by_cases hi : textL (-(z : Int)) = tl s
        · have hp := Aside0.mk (parse_yes (l := tl s) (by unfold parseB; rw [HN0.out, HR2.out, HAL.out, ham.out, hi]; simp))
          have hq : (⟨(textL (-(z : Int))).toArray⟩ : ByteArray) = s := tl_inj (by rw [hi]; simp [tl])
          rw [hq]
          clear hi hq
          go_wp2_with fail
          go_ret2
          exact ⟨by rw [hp.out, ham.out]; rfl, B5.out⟩
        · have hp := Aside0.mk (parse_no (l := tl s) (by unfold parseB; rw [ham.out, show (textL (-(z : Int)) == tl s) = false from beq_eq_false_iff_ne.2 hi, Bool.and_false]))
          have hq : ((⟨(textL (-(z : Int))).toArray⟩ : ByteArray).toList == s.toList) = false := beq_eq_false_iff_ne.2 (fun h => hi (by rw [toList_data, toList_data] at h; exact h))
          obtain ⟨q, hqq⟩ : ∃ q, (⟨(textL (-(z : Int))).toArray⟩ : ByteArray) = q := ⟨_, rfl⟩
          rw [hqq] at hq ⊢
          clear hqq hi
          go_wp2_with fail
          go_ret2
          exact ⟨by rw [hp.out]; rfl, B5.out⟩
      · have d45 : ((c.toNat : Int) == 45) = false := beq_eq_false_iff_ne.2 (fun h => h45 (UInt8.toNat_inj.1 (by show c.toNat = 45; omega)))
        have ham := Aside0.mk (show amountL (tl s) = (z : Int) by unfold amountL; rw [if_neg (show ¬ (tl s).head? = some 45 by rw [HC.out]; simpa using h45), hsz.out])
        clear h45
        go_wp2_with fail
        refine (text_calls (z : Int) _ (HG.out.below B4.out)).mono ?_
        rintro e w5 ⟨rfl, b5⟩
        have B5 := Aside0.mk (below_step B4.out b5)
        clear b5
        by_cases hi : textL (z : Int) = tl s
        · have hp := Aside0.mk (parse_yes (l := tl s) (by unfold parseB; rw [HN0.out, HR2.out, HAL.out, ham.out, hi]; simp))
          have hq : (⟨(textL (z : Int)).toArray⟩ : ByteArray) = s := tl_inj (by rw [hi]; simp [tl])
          rw [hq]
          clear hi hq
          go_wp2_with fail
          go_ret2
          exact ⟨by rw [hp.out, ham.out]; rfl, B5.out⟩
        · have hp := Aside0.mk (parse_no (l := tl s) (by unfold parseB; rw [ham.out, show (textL (z : Int) == tl s) = false from beq_eq_false_iff_ne.2 hi, Bool.and_false]))
          have hq : ((⟨(textL (z : Int)).toArray⟩ : ByteArray).toList == s.toList) = false := beq_eq_false_iff_ne.2 (fun h => hi (by rw [toList_data, toList_data] at h; exact h))
          obtain ⟨q, hqq⟩ : ∃ q, (⟨(textL (z : Int)).toArray⟩ : ByteArray) = q := ⟨_, rfl⟩
          rw [hqq] at hq ⊢
          clear hqq hi
          go_wp2_with fail
          go_ret2
          exact ⟨by rw [hp.out]; rfl, B5.out⟩
  · have d2 : ((R.size : Int) != 2) = true := bne_iff_ne.2 (by omega)
    have hp := Aside0.mk (parse_no (l := tl s) (by unfold parseB; rw [HRS.out, decide_eq_false h2]; simp))
    clear h2
    go_wp2_with fail
    go_ret2
    exact ⟨by rw [hp.out]; rfl, B3.out⟩
end Go.Proofs.YtbecemdehelooaaGreatDoor.FeedP
