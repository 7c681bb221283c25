/- Lines that may be; their texts. -/
import Derived.Test.YtbecemdehelooaaGreatDoorFeedW
import Derived.Test.YtbecemdehelooaaGreatDoorFeedQ
import Derived.Lib.Join
namespace Go.Proofs.YtbecemdehelooaaGreatDoor.FeedE
open Go.RowKit Go.Proofs.YtbecemdehelooaaGreatDoor.FrameS Go.Proofs.YtbecemdehelooaaGreatDoor.FeedG Go.Proofs.YtbecemdehelooaaGreatDoor.FeedX Go.Proofs.YtbecemdehelooaaGreatDoor.FeedN Go.Proofs.YtbecemdehelooaaGreatDoor.FeedW Go.Proofs.YtbecemdehelooaaGreatDoorW.PrintWords Go.Proofs.YtbecemdehelooaaGreatDoorW.PrintLast Go.Proofs.YtbecemdehelooaaGreatDoorW.PrintMore
set_option linter.unusedVariables false
set_option linter.unusedSimpArgs false
theorem eq5 (x0 x1 x2 x3 x4 : Bool) (w : World) : (Op.equalIn 10000 39 (.agg #[.bool !x0, .bool x1, .bool !x2, .bool !x3, .bool x4]) (.agg #[.bool false, .bool false, .bool false, .bool false, .bool false])).run Tryz.prog w = .ok (x0 && !x1 && x2 && x3 && !x4) w := by
  cases x0 <;> cases x1 <;> cases x2 <;> cases x3 <;> cases x4 <;> kernel_rfl
/-- May it be a line? -/
def rightF (so sk se : ByteArray) (n p : Int) : Bool := nameB so && !badSeq n && nameB sk && nameB se && !badPrice p
set_option maxHeartbeats 2000000 in
set_option maxRecDepth 100000 in
theorem right_calls (so sk se : ByteArray) (n p : Int) (w : World) :
    Calls Tryz.prog 8 #[.agg #[.string so, .int .i64 n, .string sk, .string se, .int .i64 p]] w fun e w' =>
      e = .returned (.bool (rightF so sk se n p)) ∧ Below w.heap.size w w' := by
  obtain ⟨x0, h0⟩ : ∃ b, nameB so = b := ⟨_, rfl⟩
  obtain ⟨x1, h1⟩ : ∃ b, badSeq n = b := ⟨_, rfl⟩
  obtain ⟨x2, h2⟩ : ∃ b, nameB sk = b := ⟨_, rfl⟩
  obtain ⟨x3, h3⟩ : ∃ b, nameB se = b := ⟨_, rfl⟩
  obtain ⟨x4, h4⟩ : ∃ b, badPrice p = b := ⟨_, rfl⟩
  have hr := Aside0.mk (show rightF so sk se n p = (x0 && !x1 && x2 && x3 && !x4) by unfold rightF; rw [h0, h1, h2, h3, h4])
  have H := Lib.hid (And.intro h0 (And.intro h1 (And.intro h2 (And.intro h3 h4))))
  clear h0 h1 h2 h3 h4
  go_enter Tryz.func8, Tryz.ntmps8
  go_wp2_with fail
  refine (wrong_calls so sk se n p _).mono ?_
  rintro e w1 ⟨rfl, b1⟩
  have B1 := Aside0.mk (show Below w.heap.size w w1 from below_step (below_alloc (Below.refl _ _) _) b1)
  clear b1
  obtain ⟨h0, h1, h2, h3, h4⟩ := H.out
  rw [h0, h1, h2, h3, h4]
  clear h0 h1 h2 h3 h4
  have h5 := eq5 x0 x1 x2 x3 x4 w1
  go_wp2_with fail
  go_ret
  exact ⟨by rw [hr.out]; rfl, B1.out⟩
/-- The text of a line that may be. -/
def priceT (p : Int) : ByteArray := if p > 0 then ⟨(FeedT.textL p).toArray⟩ else ⟨#[103, 111, 110, 101]⟩
def lineT (so sk se : ByteArray) (n p : Int) : List ByteArray := [so, ⟨(Lib.itoa n).toArray⟩, sk, se, priceT p]
def lineL (so sk se : ByteArray) (n p : Int) : List UInt8 := Lib.join ((lineT so sk se n p).map tl) [32]
theorem name_size {s : ByteArray} (h : nameB s = true) : s.size ≤ 12 := by
  unfold nameB at h
  simp at h
  exact h.1.1.1.2
theorem text_size (p : Int) : (FeedT.textL p).length ≤ 30 := by
  have h1 := FeedT.three_digits p.natAbs
  have h2 : p.natAbs / 100 ≤ 10000000000 → (Lib.itoa ((p.natAbs / 100 : Nat) : Int)).length ≤ 21 := fun h => Lib.itoa_length_le _ (by omega) (by omega)
  unfold FeedT.textL FeedT.restL
  split
  · rename_i hm
    have hb : -1000000000000 ≤ p ∧ p ≤ 1000000000000 := by unfold FeedT.InMoney at hm; simpa using hm
    have h3 := h2 (by omega)
    split <;> simp only [List.length_append, List.length_cons, List.length_drop, List.length_nil] <;> omega
  · simp
theorem line_size {so sk se : ByteArray} {n p : Int} (h0 : so.size ≤ 12) (h1 : sk.size ≤ 12) (h2 : se.size ≤ 12) (h3 : 1 ≤ n ∧ n ≤ 1000000000000) : (lineL so sk se n p).length ≤ 1000 := by
  have a := tl_length so; have b := tl_length sk; have c := tl_length se
  have d := Lib.itoa_length_le n (by omega) (by omega)
  have e := text_size p
  have f : (tl (priceT p)).length ≤ 30 := by
    unfold priceT
    split
    · simpa [tl] using e
    · decide
  have g : (tl (⟨(Lib.itoa n).toArray⟩ : ByteArray)).length ≤ 21 := by simpa [tl] using d
  unfold lineL lineT
  rw [List.map_cons, Lib.join_cons]
  simp only [List.map_cons, List.map_nil, Lib.joinTail, List.length_append, List.length_cons, List.length_nil, List.flatten_cons, List.flatten_nil]
  omega
set_option maxHeartbeats 2000000 in
set_option maxRecDepth 100000 in
theorem encode_calls (so sk se : ByteArray) (n p : Int) (w : World) (hG : G w) :
    Calls Tryz.prog 6 #[.agg #[.string so, .int .i64 n, .string sk, .string se, .int .i64 p]] w fun e w' =>
      e = (if rightF so sk se n p = true then .returned (.tuple #[.string ⟨(lineL so sk se n p).toArray⟩, .int .i64 0]) else .returned (.tuple #[.string ⟨#[]⟩, .int .i64 1])) ∧ Below w.heap.size w w' := by
  have HG := Aside0.mk hG
  obtain ⟨B, hB⟩ : ∃ B, B = w.heap.size := ⟨_, rfl⟩
  obtain ⟨W, hW⟩ : ∃ W, w.alloc (Obj.cells #[Value.string so, Value.int IntKind.i64 n, Value.string sk, Value.string se, Value.int IntKind.i64 p] 23) = W := ⟨_, rfl⟩
  have h0 := Aside0.mk (show W.heap[B]? = some (.cells #[Value.string so, Value.int IntKind.i64 n, Value.string sk, Value.string se, Value.int IntKind.i64 p] 23 (0, 0)) by rw [← hW, hB]; exact blk_new w _)
  have BW := Aside0.mk (show Below w.heap.size w W by rw [← hW]; exact below_alloc (Below.refl _ _) _)
  have HB := Aside0.mk hB
  have HW := Aside0.mk hW
  clear hG hB hW
  cases hr : rightF so sk se n p with
  | false =>
    have hr' := Aside0.mk hr
    clear hr
    go_enter Tryz.func6, Tryz.ntmps6
    go_wp2_with fail
    refine (right_calls so sk se n p _).mono ?_
    rintro e w2 ⟨rfl, b2⟩
    rw [hr'.out]
    rw [HW.out] at b2
    have B2 := Aside0.mk (below_step BW.out b2)
    clear b2
    go_wp2_with fail
    go_ret2
    exact ⟨rfl, B2.out⟩
  | true =>
    have hr' := Aside0.mk hr
    have hsq : 1 ≤ n ∧ n ≤ 1000000000000 := by
      unfold rightF badSeq at hr
      simp at hr
      omega
    have hnm : nameB so = true ∧ nameB sk = true ∧ nameB se = true := by
      unfold rightF at hr
      simp only [Bool.and_eq_true] at hr
      exact ⟨hr.1.1.1.1, hr.1.1.2, hr.1.2⟩
    have HSQ := Aside0.mk hsq
    have hlen := line_size (p := p) (name_size hnm.1) (name_size hnm.2.1) (name_size hnm.2.2) hsq
    have cJ := Aside0.mk (fun (w' : World) (k : Nat) (hc : w'.heap[k]? = some (.cells #[.string so, .string ⟨(Lib.itoa n).toArray⟩, .string sk, .string se, .string (priceT p)] 9 (0, 0))) =>
      (show Calls Tryz.prog 15 #[.slice (some ⟨k, 0, none⟩) 5 5, .string ⟨#[32]⟩] w' fun e w'' => e = .returned (.string ⟨(lineL so sk se n p).toArray⟩) ∧ Below w'.heap.size w' w'' from
        Tryz.strings_Join k 0 5 (lineT so sk se n p) ⟨#[32]⟩ w' (fun j x hx => by
          rw [Nat.zero_add, blk_cell hc]
          have hj : j < 5 := by
            rcases Nat.lt_or_ge j 5 with h | h
            · exact h
            · rw [List.getElem?_eq_none (by exact h)] at hx; cases hx
          match j, hj with
          | 0, _ => exact congrArg (fun o => o.map Value.string) hx
          | 1, _ => exact congrArg (fun o => o.map Value.string) hx
          | 2, _ => exact congrArg (fun o => o.map Value.string) hx
          | 3, _ => exact congrArg (fun o => o.map Value.string) hx
          | 4, _ => exact congrArg (fun o => o.map Value.string) hx) (blk_lt hc) (show 5 ≤ 140737488355328 by decide) (Nat.le_refl 5) (Nat.le_trans hlen (by decide))))
    clear hr hsq hnm hlen
    go_enter Tryz.func6, Tryz.ntmps6
    go_wp2_with fail
    refine (right_calls so sk se n p _).mono ?_
    rintro e w2 ⟨rfl, b2⟩
    rw [hr'.out]
    rw [HW.out] at b2
    have B2 := Aside0.mk (below_step BW.out b2)
    have c0 := Aside0.mk (blk_below h0.out b2)
    clear b2
    have k4 : w2.cell? ⟨B, 4, none⟩ = some (.int .i64 p) := (blk_cell c0.out 4).trans rfl
    rw [← HB.out]
    by_cases hp : 0 < p
    · have d1 : decide (0 < p) = true := decide_eq_true hp
      go_wp2_with fail
      refine (FeedT.text_calls p _ (HG.out.below B2.out)).mono ?_
      rintro e w3 ⟨rfl, b3⟩
      have B3 := Aside0.mk (below_step B2.out b3)
      have c3 := Aside0.mk (blk_below c0.out b3)
      rw [show (⟨(FeedT.textL p).toArray⟩ : ByteArray) = priceT p by unfold priceT; rw [if_pos hp]]
      clear b3 hp
      go_wp2_with fail
      refine start_ (n := 14) (S := fun w' => w'.cell? ⟨B, 0, none⟩ = some (.string so) ∧ w'.cell? ⟨B, 1, none⟩ = some (.int .i64 n) ∧ w'.cell? ⟨B, 2, none⟩ = some (.string sk) ∧ w'.cell? ⟨B, 3, none⟩ = some (.string se) ∧ G w' ∧ Below w.heap.size w w') (ds := []) #[false, false, false, false, false, false, false, false, false, false, false, false, false, false] (by kernel_rfl) rfl rfl ⟨(blk_cell c3.out 0).trans rfl, (blk_cell c3.out 1).trans rfl, (blk_cell c3.out 2).trans rfl, (blk_cell c3.out 3).trans rfl, HG.out.below (by apply below_drew1; exact B3.out), (by apply below_drew1; exact B3.out)⟩ (fun hHeld => ?_)
      refine pure_ (i := 0) (N := some 14) (v := ?_) (a' := ?_) #[true, false, false, false, false, false, false, false, false, false, false, false, false, false] rfl rfl (by kernel_rfl) (fun _ _ _ h => h) (Or.inl ⟨by rfl, ?_⟩) ?_ ?_
      rotate_left
      · intro w'
        go_simp
        with_reducible rfl
      rotate_left
      · simp only [Act.put, List.setIfInBounds_toArray, List.set_cons_zero, List.set_cons_succ, i64_w, i32_w]
        rfl
      refine pure_ (i := 2) (N := some 16) (v := ?_) (a' := ?_) #[true, false, true, false, false, false, false, false, false, false, false, false, false, false] rfl rfl (by kernel_rfl) (fun _ _ _ h => h) (Or.inl ⟨by rfl, ?_⟩) ?_ ?_
      rotate_left
      · intro w'
        go_simp
        with_reducible rfl
      rotate_left
      · simp only [Act.put, List.setIfInBounds_toArray, List.set_cons_zero, List.set_cons_succ, i64_w, i32_w]
        rfl
      refine pure_ (i := 5) (N := some 19) (v := ?_) (a' := ?_) #[true, false, true, false, false, true, false, false, false, false, false, false, false, false] rfl rfl (by kernel_rfl) (fun _ _ _ h => h) (Or.inl ⟨by rfl, ?_⟩) ?_ ?_
      rotate_left
      · intro w'
        go_simp
        with_reducible rfl
      rotate_left
      · simp only [Act.put, List.setIfInBounds_toArray, List.set_cons_zero, List.set_cons_succ, i64_w, i32_w]
        rfl
      refine pure_ (i := 7) (N := some 21) (v := ?_) (a' := ?_) #[true, false, true, false, false, true, false, true, false, false, false, false, false, false] rfl rfl (by kernel_rfl) (fun _ _ _ h => h) (Or.inl ⟨by rfl, ?_⟩) ?_ ?_
      rotate_left
      · intro w'
        go_simp
        with_reducible rfl
      rotate_left
      · simp only [Act.put, List.setIfInBounds_toArray, List.set_cons_zero, List.set_cons_succ, i64_w, i32_w]
        rfl
      refine pure_ (i := 9) (N := some 23) (v := ?_) (a' := ?_) #[true, false, true, false, false, true, false, true, false, true, false, false, false, false] rfl rfl (by kernel_rfl) (fun _ _ _ h => h) (Or.inl ⟨by rfl, ?_⟩) ?_ ?_
      rotate_left
      · intro w'
        go_simp
        with_reducible rfl
      rotate_left
      · simp only [Act.put, List.setIfInBounds_toArray, List.set_cons_zero, List.set_cons_succ, i64_w, i32_w]
        rfl
      refine take_ (i := 1) (N := some 15) (v := ?_) (a' := ?_) #[true, true, true, false, false, true, false, true, false, true, false, false, false, false] rfl rfl (by kernel_rfl) (fun _ _ _ h => h) (Or.inl ⟨by rfl, ?_⟩) hHeld ?_ ?_
      rotate_left
      · rintro w' ⟨s0, s1, s2, s3, s4, s5⟩
        go_simp
        with_reducible rfl
      rotate_left
      · simp only [Act.put, List.setIfInBounds_toArray, List.set_cons_zero, List.set_cons_succ, i64_w, i32_w]
        rfl
      refine take_ (i := 3) (N := some 17) (v := ?_) (a' := ?_) #[true, true, true, true, false, true, false, true, false, true, false, false, false, false] rfl rfl (by kernel_rfl) (fun _ _ _ h => h) (Or.inl ⟨by rfl, ?_⟩) hHeld ?_ ?_
      rotate_left
      · rintro w' ⟨s0, s1, s2, s3, s4, s5⟩
        go_simp
        with_reducible rfl
      rotate_left
      · simp only [Act.put, List.setIfInBounds_toArray, List.set_cons_zero, List.set_cons_succ, i64_w, i32_w]
        rfl
      refine take_ (i := 6) (N := some 20) (v := ?_) (a' := ?_) #[true, true, true, true, false, true, true, true, false, true, false, false, false, false] rfl rfl (by kernel_rfl) (fun _ _ _ h => h) (Or.inl ⟨by rfl, ?_⟩) hHeld ?_ ?_
      rotate_left
      · rintro w' ⟨s0, s1, s2, s3, s4, s5⟩
        go_simp
        with_reducible rfl
      rotate_left
      · simp only [Act.put, List.setIfInBounds_toArray, List.set_cons_zero, List.set_cons_succ, i64_w, i32_w]
        rfl
      refine take_ (i := 8) (N := some 22) (v := ?_) (a' := ?_) #[true, true, true, true, false, true, true, true, true, true, false, false, false, false] rfl rfl (by kernel_rfl) (fun _ _ _ h => h) (Or.inl ⟨by rfl, ?_⟩) hHeld ?_ ?_
      rotate_left
      · rintro w' ⟨s0, s1, s2, s3, s4, s5⟩
        go_simp
        with_reducible rfl
      rotate_left
      · simp only [Act.put, List.setIfInBounds_toArray, List.set_cons_zero, List.set_cons_succ, i64_w, i32_w]
        rfl
      refine one_ (i := 4) (N := some 18) #[true, true, true, true, true, true, true, true, true, true, false, false, false, false] rfl rfl (by kernel_rfl) (by decide) (fun K hK => ?_)
      refine goes_ Tryz.func16 (by kernel_rfl) rfl #[.int .i64 n] (by rfl) rfl rfl (by simp only [List.map_toArray, List.map_cons, List.map_nil]; rfl) ?_
      with_reducible refine (number_ok n _ hHeld.2.2.2.2.1 (by have := HSQ.out; omega) (by have := HSQ.out; omega)).mono ?_
      rintro e w6 ⟨rfl, hb3⟩
      refine ⟨_, rfl, ?_⟩
      refine hK.out _ _ ⟨(hb3.cell (cell_lt hHeld.1)).trans hHeld.1, (hb3.cell (cell_lt hHeld.2.1)).trans hHeld.2.1, (hb3.cell (cell_lt hHeld.2.2.1)).trans hHeld.2.2.1, (hb3.cell (cell_lt hHeld.2.2.2.1)).trans hHeld.2.2.2.1, hHeld.2.2.2.2.1.below hb3, below_step hHeld.2.2.2.2.2 hb3⟩ (fun hHeld => ?_)
      clear hK K
      refine norm_ (a' := ?_) ?_ ?_
      rotate_left
      · show Act.put _ (some 18) _ = _
        simp only [Act.put, List.setIfInBounds_toArray, List.set_cons_zero, List.set_cons_succ, i64_w, i32_w]
        rfl
      refine one_ (i := 10) (N := some 24) #[true, true, true, true, true, true, true, true, true, true, true, false, false, false] rfl rfl (by kernel_rfl) (by decide) (fun K hK => ?_)
      refine value_ (w1 := ?_) (v := ?_) (by rfl) rfl ?_ ?_
      rotate_left 2
      · go_simp
        constructor
        · rfl
        · rfl
      refine hK.out _ _ ⟨((below_alloc (Below.refl _ _) _).cell (cell_lt hHeld.1)).trans hHeld.1, ((below_alloc (Below.refl _ _) _).cell (cell_lt hHeld.2.1)).trans hHeld.2.1, ((below_alloc (Below.refl _ _) _).cell (cell_lt hHeld.2.2.1)).trans hHeld.2.2.1, ((below_alloc (Below.refl _ _) _).cell (cell_lt hHeld.2.2.2.1)).trans hHeld.2.2.2.1, hHeld.2.2.2.2.1.below (below_alloc (Below.refl _ _) _), below_step hHeld.2.2.2.2.2 (below_alloc (Below.refl _ _) _)⟩ (fun hHeld => ?_)
      clear hK K
      refine norm_ (a' := ?_) ?_ ?_
      rotate_left
      · show Act.put _ (some 24) _ = _
        simp only [Act.put, List.setIfInBounds_toArray, List.set_cons_zero, List.set_cons_succ, i64_w, i32_w]
        rfl
      refine one_ (i := 11) (N := some 25) #[true, true, true, true, true, true, true, true, true, true, true, true, false, false] rfl rfl (by kernel_rfl) (by decide) (fun K hK => ?_)
      refine goes_ Tryz.func15 (by kernel_rfl) rfl #[.slice (some ⟨w6.heap.size, 0, none⟩) 5 5, .string ⟨#[32]⟩] (by rfl) rfl rfl (by simp only [List.map_toArray, List.map_cons, List.map_nil]; rfl) ?_
      with_reducible refine (cJ.out (w6.alloc _) w6.heap.size (blk_new w6 _)).mono ?_
      rintro e w7 ⟨rfl, hb3⟩
      refine ⟨_, rfl, ?_⟩
      refine hK.out _ _ ⟨(hb3.cell (cell_lt hHeld.1)).trans hHeld.1, (hb3.cell (cell_lt hHeld.2.1)).trans hHeld.2.1, (hb3.cell (cell_lt hHeld.2.2.1)).trans hHeld.2.2.1, (hb3.cell (cell_lt hHeld.2.2.2.1)).trans hHeld.2.2.2.1, hHeld.2.2.2.2.1.below hb3, below_step hHeld.2.2.2.2.2 hb3⟩ (fun hHeld => ?_)
      clear hK K
      refine norm_ (a' := ?_) ?_ ?_
      rotate_left
      · show Act.put _ (some 25) _ = _
        simp only [Act.put, List.setIfInBounds_toArray, List.set_cons_zero, List.set_cons_succ, i64_w, i32_w]
        rfl
      refine pure_ (i := 12) (N := some 2) (v := ?_) (a' := ?_) #[true, true, true, true, true, true, true, true, true, true, true, true, true, false] rfl rfl (by kernel_rfl) (fun _ _ _ h => h) (Or.inl ⟨by rfl, ?_⟩) ?_ ?_
      rotate_left
      · intro w'
        go_simp
        with_reducible rfl
      rotate_left
      · simp only [Act.put, List.setIfInBounds_toArray, List.set_cons_zero, List.set_cons_succ, i64_w, i32_w]
        rfl
      refine pure_ (i := 13) (N := some 3) (v := ?_) (a' := ?_) #[true, true, true, true, true, true, true, true, true, true, true, true, true, true] rfl rfl (by kernel_rfl) (fun _ _ _ h => h) (Or.inl ⟨by rfl, ?_⟩) ?_ ?_
      rotate_left
      · intro w'
        go_simp
        with_reducible rfl
      rotate_left
      · simp only [Act.put, List.setIfInBounds_toArray, List.set_cons_zero, List.set_cons_succ, i64_w, i32_w]
        rfl
      refine done_ (by kernel_rfl) ?_

      go_wp2_with fail
      go_ret2
      exact ⟨rfl, hHeld.2.2.2.2.2⟩
    · have d1 : decide (0 < p) = false := decide_eq_false hp
      have hpt : priceT p = ⟨#[103, 111, 110, 101]⟩ := by unfold priceT; rw [if_neg hp]
      rw [hpt] at cJ
      clear hp
      go_wp2_with fail
      refine start_ (n := 14) (S := fun w' => w'.cell? ⟨B, 0, none⟩ = some (.string so) ∧ w'.cell? ⟨B, 1, none⟩ = some (.int .i64 n) ∧ w'.cell? ⟨B, 2, none⟩ = some (.string sk) ∧ w'.cell? ⟨B, 3, none⟩ = some (.string se) ∧ G w' ∧ Below w.heap.size w w') (ds := []) #[false, false, false, false, false, false, false, false, false, false, false, false, false, false] (by kernel_rfl) rfl rfl ⟨(blk_cell c0.out 0).trans rfl, (blk_cell c0.out 1).trans rfl, (blk_cell c0.out 2).trans rfl, (blk_cell c0.out 3).trans rfl, HG.out.below (by apply below_drew1; exact B2.out), (by apply below_drew1; exact B2.out)⟩ (fun hHeld => ?_)
      refine pure_ (i := 0) (N := some 14) (v := ?_) (a' := ?_) #[true, false, false, false, false, false, false, false, false, false, false, false, false, false] rfl rfl (by kernel_rfl) (fun _ _ _ h => h) (Or.inl ⟨by rfl, ?_⟩) ?_ ?_
      rotate_left
      · intro w'
        go_simp
        with_reducible rfl
      rotate_left
      · simp only [Act.put, List.setIfInBounds_toArray, List.set_cons_zero, List.set_cons_succ, i64_w, i32_w]
        rfl
      refine pure_ (i := 2) (N := some 16) (v := ?_) (a' := ?_) #[true, false, true, false, false, false, false, false, false, false, false, false, false, false] rfl rfl (by kernel_rfl) (fun _ _ _ h => h) (Or.inl ⟨by rfl, ?_⟩) ?_ ?_
      rotate_left
      · intro w'
        go_simp
        with_reducible rfl
      rotate_left
      · simp only [Act.put, List.setIfInBounds_toArray, List.set_cons_zero, List.set_cons_succ, i64_w, i32_w]
        rfl
      refine pure_ (i := 5) (N := some 19) (v := ?_) (a' := ?_) #[true, false, true, false, false, true, false, false, false, false, false, false, false, false] rfl rfl (by kernel_rfl) (fun _ _ _ h => h) (Or.inl ⟨by rfl, ?_⟩) ?_ ?_
      rotate_left
      · intro w'
        go_simp
        with_reducible rfl
      rotate_left
      · simp only [Act.put, List.setIfInBounds_toArray, List.set_cons_zero, List.set_cons_succ, i64_w, i32_w]
        rfl
      refine pure_ (i := 7) (N := some 21) (v := ?_) (a' := ?_) #[true, false, true, false, false, true, false, true, false, false, false, false, false, false] rfl rfl (by kernel_rfl) (fun _ _ _ h => h) (Or.inl ⟨by rfl, ?_⟩) ?_ ?_
      rotate_left
      · intro w'
        go_simp
        with_reducible rfl
      rotate_left
      · simp only [Act.put, List.setIfInBounds_toArray, List.set_cons_zero, List.set_cons_succ, i64_w, i32_w]
        rfl
      refine pure_ (i := 9) (N := some 23) (v := ?_) (a' := ?_) #[true, false, true, false, false, true, false, true, false, true, false, false, false, false] rfl rfl (by kernel_rfl) (fun _ _ _ h => h) (Or.inl ⟨by rfl, ?_⟩) ?_ ?_
      rotate_left
      · intro w'
        go_simp
        with_reducible rfl
      rotate_left
      · simp only [Act.put, List.setIfInBounds_toArray, List.set_cons_zero, List.set_cons_succ, i64_w, i32_w]
        rfl
      refine take_ (i := 1) (N := some 15) (v := ?_) (a' := ?_) #[true, true, true, false, false, true, false, true, false, true, false, false, false, false] rfl rfl (by kernel_rfl) (fun _ _ _ h => h) (Or.inl ⟨by rfl, ?_⟩) hHeld ?_ ?_
      rotate_left
      · rintro w' ⟨s0, s1, s2, s3, s4, s5⟩
        go_simp
        with_reducible rfl
      rotate_left
      · simp only [Act.put, List.setIfInBounds_toArray, List.set_cons_zero, List.set_cons_succ, i64_w, i32_w]
        rfl
      refine take_ (i := 3) (N := some 17) (v := ?_) (a' := ?_) #[true, true, true, true, false, true, false, true, false, true, false, false, false, false] rfl rfl (by kernel_rfl) (fun _ _ _ h => h) (Or.inl ⟨by rfl, ?_⟩) hHeld ?_ ?_
      rotate_left
      · rintro w' ⟨s0, s1, s2, s3, s4, s5⟩
        go_simp
        with_reducible rfl
      rotate_left
      · simp only [Act.put, List.setIfInBounds_toArray, List.set_cons_zero, List.set_cons_succ, i64_w, i32_w]
        rfl
      refine take_ (i := 6) (N := some 20) (v := ?_) (a' := ?_) #[true, true, true, true, false, true, true, true, false, true, false, false, false, false] rfl rfl (by kernel_rfl) (fun _ _ _ h => h) (Or.inl ⟨by rfl, ?_⟩) hHeld ?_ ?_
      rotate_left
      · rintro w' ⟨s0, s1, s2, s3, s4, s5⟩
        go_simp
        with_reducible rfl
      rotate_left
      · simp only [Act.put, List.setIfInBounds_toArray, List.set_cons_zero, List.set_cons_succ, i64_w, i32_w]
        rfl
      refine take_ (i := 8) (N := some 22) (v := ?_) (a' := ?_) #[true, true, true, true, false, true, true, true, true, true, false, false, false, false] rfl rfl (by kernel_rfl) (fun _ _ _ h => h) (Or.inl ⟨by rfl, ?_⟩) hHeld ?_ ?_
      rotate_left
      · rintro w' ⟨s0, s1, s2, s3, s4, s5⟩
        go_simp
        with_reducible rfl
      rotate_left
      · simp only [Act.put, List.setIfInBounds_toArray, List.set_cons_zero, List.set_cons_succ, i64_w, i32_w]
        rfl
      refine one_ (i := 4) (N := some 18) #[true, true, true, true, true, true, true, true, true, true, false, false, false, false] rfl rfl (by kernel_rfl) (by decide) (fun K hK => ?_)
      refine goes_ Tryz.func16 (by kernel_rfl) rfl #[.int .i64 n] (by rfl) rfl rfl (by simp only [List.map_toArray, List.map_cons, List.map_nil]; rfl) ?_
      with_reducible refine (number_ok n _ hHeld.2.2.2.2.1 (by have := HSQ.out; omega) (by have := HSQ.out; omega)).mono ?_
      rintro e w6 ⟨rfl, hb3⟩
      refine ⟨_, rfl, ?_⟩
      refine hK.out _ _ ⟨(hb3.cell (cell_lt hHeld.1)).trans hHeld.1, (hb3.cell (cell_lt hHeld.2.1)).trans hHeld.2.1, (hb3.cell (cell_lt hHeld.2.2.1)).trans hHeld.2.2.1, (hb3.cell (cell_lt hHeld.2.2.2.1)).trans hHeld.2.2.2.1, hHeld.2.2.2.2.1.below hb3, below_step hHeld.2.2.2.2.2 hb3⟩ (fun hHeld => ?_)
      clear hK K
      refine norm_ (a' := ?_) ?_ ?_
      rotate_left
      · show Act.put _ (some 18) _ = _
        simp only [Act.put, List.setIfInBounds_toArray, List.set_cons_zero, List.set_cons_succ, i64_w, i32_w]
        rfl
      refine one_ (i := 10) (N := some 24) #[true, true, true, true, true, true, true, true, true, true, true, false, false, false] rfl rfl (by kernel_rfl) (by decide) (fun K hK => ?_)
      refine value_ (w1 := ?_) (v := ?_) (by rfl) rfl ?_ ?_
      rotate_left 2
      · go_simp
        constructor
        · rfl
        · rfl
      refine hK.out _ _ ⟨((below_alloc (Below.refl _ _) _).cell (cell_lt hHeld.1)).trans hHeld.1, ((below_alloc (Below.refl _ _) _).cell (cell_lt hHeld.2.1)).trans hHeld.2.1, ((below_alloc (Below.refl _ _) _).cell (cell_lt hHeld.2.2.1)).trans hHeld.2.2.1, ((below_alloc (Below.refl _ _) _).cell (cell_lt hHeld.2.2.2.1)).trans hHeld.2.2.2.1, hHeld.2.2.2.2.1.below (below_alloc (Below.refl _ _) _), below_step hHeld.2.2.2.2.2 (below_alloc (Below.refl _ _) _)⟩ (fun hHeld => ?_)
      clear hK K
      refine norm_ (a' := ?_) ?_ ?_
      rotate_left
      · show Act.put _ (some 24) _ = _
        simp only [Act.put, List.setIfInBounds_toArray, List.set_cons_zero, List.set_cons_succ, i64_w, i32_w]
        rfl
      refine one_ (i := 11) (N := some 25) #[true, true, true, true, true, true, true, true, true, true, true, true, false, false] rfl rfl (by kernel_rfl) (by decide) (fun K hK => ?_)
      refine goes_ Tryz.func15 (by kernel_rfl) rfl #[.slice (some ⟨w6.heap.size, 0, none⟩) 5 5, .string ⟨#[32]⟩] (by rfl) rfl rfl (by simp only [List.map_toArray, List.map_cons, List.map_nil]; rfl) ?_
      with_reducible refine (cJ.out (w6.alloc _) w6.heap.size (blk_new w6 _)).mono ?_
      rintro e w7 ⟨rfl, hb3⟩
      refine ⟨_, rfl, ?_⟩
      refine hK.out _ _ ⟨(hb3.cell (cell_lt hHeld.1)).trans hHeld.1, (hb3.cell (cell_lt hHeld.2.1)).trans hHeld.2.1, (hb3.cell (cell_lt hHeld.2.2.1)).trans hHeld.2.2.1, (hb3.cell (cell_lt hHeld.2.2.2.1)).trans hHeld.2.2.2.1, hHeld.2.2.2.2.1.below hb3, below_step hHeld.2.2.2.2.2 hb3⟩ (fun hHeld => ?_)
      clear hK K
      refine norm_ (a' := ?_) ?_ ?_
      rotate_left
      · show Act.put _ (some 25) _ = _
        simp only [Act.put, List.setIfInBounds_toArray, List.set_cons_zero, List.set_cons_succ, i64_w, i32_w]
        rfl
      refine pure_ (i := 12) (N := some 2) (v := ?_) (a' := ?_) #[true, true, true, true, true, true, true, true, true, true, true, true, true, false] rfl rfl (by kernel_rfl) (fun _ _ _ h => h) (Or.inl ⟨by rfl, ?_⟩) ?_ ?_
      rotate_left
      · intro w'
        go_simp
        with_reducible rfl
      rotate_left
      · simp only [Act.put, List.setIfInBounds_toArray, List.set_cons_zero, List.set_cons_succ, i64_w, i32_w]
        rfl
      refine pure_ (i := 13) (N := some 3) (v := ?_) (a' := ?_) #[true, true, true, true, true, true, true, true, true, true, true, true, true, true] rfl rfl (by kernel_rfl) (fun _ _ _ h => h) (Or.inl ⟨by rfl, ?_⟩) ?_ ?_
      rotate_left
      · intro w'
        go_simp
        with_reducible rfl
      rotate_left
      · simp only [Act.put, List.setIfInBounds_toArray, List.set_cons_zero, List.set_cons_succ, i64_w, i32_w]
        rfl
      refine done_ (by kernel_rfl) ?_

      go_wp2_with fail
      go_ret2
      exact ⟨rfl, hHeld.2.2.2.2.2⟩
end Go.Proofs.YtbecemdehelooaaGreatDoor.FeedE
