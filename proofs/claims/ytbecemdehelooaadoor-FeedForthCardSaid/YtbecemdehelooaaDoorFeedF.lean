/- FeedForth's walk, by hand. -/
import Derived.Test.YtbecemdehelooaaDoorFeedU
namespace Go.Proofs.YtbecemdehelooaaDoor.FeedF
open Go.RowKit Go.Proofs.YtbecemdehelooaaDoor.FrameS Go.Proofs.YtbecemdehelooaaDoor.FeedG Go.Proofs.YtbecemdehelooaaDoor.FeedD Go.Proofs.YtbecemdehelooaaDoor.FeedN Go.Proofs.YtbecemdehelooaaDoor.FeedW Go.Proofs.YtbecemdehelooaaDoor.FeedE Go.Proofs.YtbecemdehelooaaDoor.FeedDe Go.Proofs.YtbecemdehelooaaDoor.FeedDh Go.Proofs.YtbecemdehelooaaDoor.FeedPm Go.Proofs.YtbecemdehelooaaDoor.FeedLi Go.Proofs.YtbecemdehelooaaDoor.FeedAw Go.Proofs.YtbecemdehelooaaDoor.FeedU Go.Proofs.YtbecemdehelooaaDoorW.PrintWords Go.Proofs.YtbecemdehelooaaDoorW.PrintLast Go.Proofs.YtbecemdehelooaaDoorW.PrintMore
attribute [local go_sem] max2_int min2_int max_two min_two
attribute [local go_sem high] eqA24
set_option linter.unusedVariables false
set_option linter.unusedSimpArgs false
theorem row3_at (a b c : ByteArray) (k : Nat) (h : k < 3) : (#[.string a, .string b, .string c] : Array Value)[k]? = some (.string (([a, b, c] : List ByteArray).getD k ⟨#[]⟩)) := by
  match k, h with
  | 0, _ => rfl
  | 1, _ => rfl
  | 2, _ => rfl
set_option maxHeartbeats 4000000 in
set_option maxRecDepth 100000 in
theorem forth_walk (s : ByteArray) (a0 a1 a2 a3 a4 at_ : Int) (more : ByteArray) (w : World) (hG : G w) (hs : s.size ≤ 140737488351232) (h0 : In64 a0) (h1 : In64 a1) (h2 : In64 a2) (h3 : In64 a3) (h4 : In64 a4) (ha : In64 at_) (hm : more.size ≤ 140737488351232) :
    Calls Tryd.prog 4 #[.string s, .agg #[.int .i64 a0, .int .i64 a1, .int .i64 a2, .int .i64 a3, .int .i64 a4], .int .i64 at_, .string more] w fun e w' => e = .returned (.bool true) ∧ Below w.heap.size w w' := by
  have hx := lineOf_ok a0 a1 a2 a3 a4 h3
  have LA := Aside0.mk (fun w0 => line_calls a0 a1 a2 a3 a4 w0 h0 h1 h2 h3 h4)
  generalize lineOf a0 a1 a2 a3 a4 = x at hx LA
  have hsz := line_short hx
  obtain ⟨s0, n0, k0, e0, p0⟩ := x
  obtain ⟨T, hT⟩ : ∃ T : ByteArray, (⟨(lineL s0 k0 e0 n0 p0).toArray⟩ : ByteArray) = T := ⟨_, rfl⟩
  have hTs : T.size ≤ 100 := by rw [← hT]; show (List.toArray (lineL s0 k0 e0 n0 p0)).size ≤ 100; rw [List.size_toArray]; exact hsz
  have HT := Aside0.mk hT
  have HX := Aside0.mk hx
  have HG := Aside0.mk hG
  have PA := Aside0.mk (fun w0 => pick_calls at_ ((T.size : Int) + 1) w0 ha (by omega) (by omega))
  obtain ⟨K, hK, hKl⟩ := pk_nat at_ (T.size + 1) (by omega)
  have HK := Aside0.mk (show pk at_ ((T.size : Int) + 1) = (K : Int) from hK)
  have wT : wrap64 ((T.size : Int) + 1) = (T.size : Int) + 1 := by unfold wrap64; omega
  have HWT := Aside0.mk wT
  clear hx hsz hT hG h0 h1 h2 h3 h4 ha hK wT
  go_enter Tryd.func4, Tryd.ntmps4
  go_wp2_with fail
  obtain ⟨W, hW⟩ : ∃ W, (w.alloc (.cells #[.int .i64 a0, .int .i64 a1, .int .i64 a2, .int .i64 a3, .int .i64 a4] 22)) = W := ⟨_, rfl⟩
  have KA := Aside0.mk (show W.heap[w.heap.size]? = some (.cells #[.int .i64 a0, .int .i64 a1, .int .i64 a2, .int .i64 a3, .int .i64 a4] 22 (0, 0)) by rw [← hW]; exact blk_new w _)
  have BB := Aside0.mk (show Below w.heap.size w W by rw [← hW]; exact below_alloc (Below.refl _ _) _)
  rw [hW]
  clear hW
  obtain ⟨ga, hga⟩ : ∃ g, g = w.heap.size := ⟨_, rfl⟩
  rw [← hga] at KA ⊢
  clear hga
  refine (awake_calls _ (HG.out.below BB.out)).mono ?_
  rintro e w1 ⟨rfl, b⟩
  have KA1 := Aside0.mk (blk_below KA.out b)
  have B1 := Aside0.mk (below_step BB.out b)
  clear b KA BB
  have c0 : w1.cell? ⟨ga, 0, none⟩ = some (.int .i64 a0) := (blk_cell KA1.out 0).trans rfl
  have c1 : w1.cell? ⟨ga, 1, none⟩ = some (.int .i64 a1) := (blk_cell KA1.out 1).trans rfl
  have c2 : w1.cell? ⟨ga, 2, none⟩ = some (.int .i64 a2) := (blk_cell KA1.out 2).trans rfl
  have c3 : w1.cell? ⟨ga, 3, none⟩ = some (.int .i64 a3) := (blk_cell KA1.out 3).trans rfl
  have c4 : w1.cell? ⟨ga, 4, none⟩ = some (.int .i64 a4) := (blk_cell KA1.out 4).trans rfl
  go_wp2_with fail
  refine (LA.out _).mono ?_
  rintro e w2 ⟨rfl, b⟩
  simp only [Ln.val, feedV]
  have B2 := Aside0.mk (below_step B1.out b)
  clear b c0 c1 c2 c3 c4 KA1 B1 LA
  go_wp2_with fail
  refine (encode_calls s0 k0 e0 n0 p0 _ (HG.out.below B2.out)).mono ?_
  rintro e w3 ⟨rfl, b⟩
  rw [if_pos (show rightF s0 k0 e0 n0 p0 = true from HX.out), HT.out]
  have B3 := Aside0.mk (below_step B2.out b)
  clear b B2
  go_wp2_with fail
  (try rw [HWT.out])
  refine (PA.out _).mono ?_
  rintro e w4 ⟨rfl, rfl⟩
  rw [HK.out]
  clear PA
  have hKT : K ≤ T.size := by omega
  obtain ⟨J, hJ, hJl⟩ : ∃ J : Nat, min ((K : Int) + (more.size : Int)) (T.size : Int) = (J : Int) ∧ J ≤ T.size := ⟨(min ((K : Int) + (more.size : Int)) (T.size : Int)).toNat, by omega, by omega⟩
  have wK : wrap64 ((K : Int) + (more.size : Int)) = (K : Int) + (more.size : Int) := by unfold wrap64; omega
  have j1 : (if (T.size : Int) < (K : Int) + (more.size : Int) then (T.size : Int) else (K : Int) + (more.size : Int)) = (J : Int) := by split <;> omega
  obtain ⟨P, hP⟩ : ∃ P, T.extract 0 K = P := ⟨_, rfl⟩
  obtain ⟨E1, hE1⟩ : ∃ P, T.extract J T.size = P := ⟨_, rfl⟩
  obtain ⟨E2, hE2⟩ : ∃ P, T.extract K T.size = P := ⟨_, rfl⟩
  have z0 : P.size ≤ 100 := by rw [← hP, ByteArray.size_extract]; omega
  have z1 : E1.size ≤ 100 := by rw [← hE1, ByteArray.size_extract]; omega
  have z2 : E2.size ≤ 100 := by rw [← hE2, ByteArray.size_extract]; omega
  have k1 : ((K : Int) ≤ (T.size : Int)) = True := eq_true (by omega)
  have k2 : ((J : Int) ≤ (T.size : Int)) = True := eq_true (by omega)
  have k1' : ((T.size : Int) < (K : Int)) = False := eq_false (by omega)
  have k2' : ((T.size : Int) < (J : Int)) = False := eq_false (by omega)
  have q1 : (9223372036854775807 < P.size + more.size) = False := eq_false (by omega)
  have q2 : (9223372036854775807 < P.size + more.size + E1.size) = False := eq_false (by omega)
  have q3 : (9223372036854775807 < P.size + more.size + E2.size) = False := eq_false (by omega)
  clear hJ hJl hKT hKl z0 z1 z2
  go_wp2_with fail
  obtain ⟨X1, hX1⟩ : ∃ x, P ++ more ++ E1 = x := ⟨_, rfl⟩
  obtain ⟨X2, hX2⟩ : ∃ x, P ++ more ++ E2 = x := ⟨_, rfl⟩
  refine start_ (n := 28) (S := fun w' => Below w.heap.size w w') (ds := []) #[false, false, false, false, false, false, false, false, false, false, false, false, false, false, false, false, false, false, false, false, false, false, false, false, false, false, false, false] (by kernel_rfl) rfl rfl ((by apply below_drew1; exact B3.out)) (fun hHeld => ?_)
  refine pure_ (i := 0) (N := some 32) (v := ?_) (a' := ?_) #[true, false, false, false, false, false, false, false, false, false, false, false, false, false, false, false, false, false, false, false, false, false, false, false, false, false, false, false] rfl rfl (by kernel_rfl) (fun _ _ _ h => h) (Or.inl ⟨by rfl, ?_⟩) ?_ ?_
  rotate_left
  · intro w'
    go_simp
    with_reducible rfl
  rotate_left
  · simp only [Act.put, List.setIfInBounds_toArray, List.set_cons_zero, List.set_cons_succ, i64_w, i32_w]
    rfl
  refine pure_ (i := 1) (N := some 33) (v := ?_) (a' := ?_) #[true, true, false, false, false, false, false, false, false, false, false, false, false, false, false, false, false, false, false, false, false, false, false, false, false, false, false, false] rfl rfl (by kernel_rfl) (fun _ _ _ h => h) (Or.inl ⟨by rfl, ?_⟩) ?_ ?_
  rotate_left
  · intro w'
    go_simp
    with_reducible rfl
  rotate_left
  · simp only [Act.put, List.setIfInBounds_toArray, List.set_cons_zero, List.set_cons_succ, i64_w, i32_w]
    rfl
  refine pure_ (i := 2) (N := some 34) (v := ?_) (a' := ?_) #[true, true, true, false, false, false, false, false, false, false, false, false, false, false, false, false, false, false, false, false, false, false, false, false, false, false, false, false] rfl rfl (by kernel_rfl) (fun _ _ _ h => h) (Or.inl ⟨by rfl, ?_⟩) ?_ ?_
  rotate_left
  · intro w'
    go_simp
    with_reducible rfl
  rotate_left
  · simp only [Act.put, List.setIfInBounds_toArray, List.set_cons_zero, List.set_cons_succ, i64_w, i32_w]
    rfl
  refine pure_ (i := 3) (N := some 35) (v := ?_) (a' := ?_) #[true, true, true, true, false, false, false, false, false, false, false, false, false, false, false, false, false, false, false, false, false, false, false, false, false, false, false, false] rfl rfl (by kernel_rfl) (fun _ _ _ h => h) (Or.inl ⟨by rfl, ?_⟩) ?_ ?_
  rotate_left
  · intro w'
    go_simp
    with_reducible rfl
  rotate_left
  · simp only [Act.put, List.setIfInBounds_toArray, List.set_cons_zero, List.set_cons_succ, i64_w, i32_w]
    rfl
  refine pure_ (i := 4) (N := some 36) (v := ?_) (a' := ?_) #[true, true, true, true, true, false, false, false, false, false, false, false, false, false, false, false, false, false, false, false, false, false, false, false, false, false, false, false] rfl rfl (by kernel_rfl) (fun _ _ _ h => h) (Or.inl ⟨by rfl, ?_⟩) ?_ ?_
  rotate_left
  · intro w'
    go_simp
    with_reducible rfl
  rotate_left
  · simp only [Act.put, List.setIfInBounds_toArray, List.set_cons_zero, List.set_cons_succ, i64_w, i32_w]
    rfl
  refine pure_ (i := 5) (N := some 37) (v := ?_) (a' := ?_) #[true, true, true, true, true, true, false, false, false, false, false, false, false, false, false, false, false, false, false, false, false, false, false, false, false, false, false, false] rfl rfl (by kernel_rfl) (fun _ _ _ h => h) (Or.inl ⟨by rfl, ?_⟩) ?_ ?_
  rotate_left
  · intro w'
    go_simp
    with_reducible rfl
  rotate_left
  · simp only [Act.put, List.setIfInBounds_toArray, List.set_cons_zero, List.set_cons_succ, i64_w, i32_w]
    rfl
  refine pure_ (i := 6) (N := some 38) (v := ?_) (a' := ?_) #[true, true, true, true, true, true, true, false, false, false, false, false, false, false, false, false, false, false, false, false, false, false, false, false, false, false, false, false] rfl rfl (by kernel_rfl) (fun _ _ _ h => h) (Or.inl ⟨by rfl, ?_⟩) ?_ ?_
  rotate_left
  · intro w'
    go_simp
    with_reducible rfl
  rotate_left
  · simp only [Act.put, List.setIfInBounds_toArray, List.set_cons_zero, List.set_cons_succ, i64_w, i32_w]
    rfl
  refine pure_ (i := 7) (N := some 39) (v := ?_) (a' := ?_) #[true, true, true, true, true, true, true, true, false, false, false, false, false, false, false, false, false, false, false, false, false, false, false, false, false, false, false, false] rfl rfl (by kernel_rfl) (fun _ _ _ h => h) (Or.inl ⟨by rfl, ?_⟩) ?_ ?_
  rotate_left
  · intro w'
    go_simp
    with_reducible rfl
  rotate_left
  · simp only [Act.put, List.setIfInBounds_toArray, List.set_cons_zero, List.set_cons_succ, i64_w, i32_w]
    rfl
  refine pure_ (i := 8) (N := some 40) (v := ?_) (a' := ?_) #[true, true, true, true, true, true, true, true, true, false, false, false, false, false, false, false, false, false, false, false, false, false, false, false, false, false, false, false] rfl rfl (by kernel_rfl) (fun _ _ _ h => h) (Or.inl ⟨by rfl, ?_⟩) ?_ ?_
  rotate_left
  · intro w'
    go_simp
    with_reducible rfl
  rotate_left
  · simp only [Act.put, List.setIfInBounds_toArray, List.set_cons_zero, List.set_cons_succ, i64_w, i32_w]
    rfl
  refine pure_ (i := 9) (N := some 41) (v := ?_) (a' := ?_) #[true, true, true, true, true, true, true, true, true, true, false, false, false, false, false, false, false, false, false, false, false, false, false, false, false, false, false, false] rfl rfl (by kernel_rfl) (fun _ _ _ h => h) (Or.inl ⟨by rfl, ?_⟩) ?_ ?_
  rotate_left
  · intro w'
    go_simp
    with_reducible rfl
  rotate_left
  · simp only [Act.put, List.setIfInBounds_toArray, List.set_cons_zero, List.set_cons_succ, i64_w, i32_w]
    rfl
  refine pure_ (i := 10) (N := some 42) (v := ?_) (a' := ?_) #[true, true, true, true, true, true, true, true, true, true, true, false, false, false, false, false, false, false, false, false, false, false, false, false, false, false, false, false] rfl rfl (by kernel_rfl) (fun _ _ _ h => h) (Or.inl ⟨by rfl, ?_⟩) ?_ ?_
  rotate_left
  · intro w'
    go_simp
    with_reducible rfl
  rotate_left
  · simp only [Act.put, List.setIfInBounds_toArray, List.set_cons_zero, List.set_cons_succ, i64_w, i32_w]
    rfl
  refine pure_ (i := 11) (N := some 43) (v := ?_) (a' := ?_) #[true, true, true, true, true, true, true, true, true, true, true, true, false, false, false, false, false, false, false, false, false, false, false, false, false, false, false, false] rfl rfl (by kernel_rfl) (fun _ _ _ h => h) (Or.inl ⟨by rfl, ?_⟩) ?_ ?_
  rotate_left
  · intro w'
    go_simp
    with_reducible rfl
  rotate_left
  · simp only [Act.put, List.setIfInBounds_toArray, List.set_cons_zero, List.set_cons_succ, i64_w, i32_w]
    rfl
  refine pure_ (i := 12) (N := some 44) (v := ?_) (a' := ?_) #[true, true, true, true, true, true, true, true, true, true, true, true, true, false, false, false, false, false, false, false, false, false, false, false, false, false, false, false] rfl rfl (by kernel_rfl) (fun _ _ _ h => h) (Or.inl ⟨by rfl, ?_⟩) ?_ ?_
  rotate_left
  · intro w'
    go_simp
    with_reducible rfl
  rotate_left
  · simp only [Act.put, List.setIfInBounds_toArray, List.set_cons_zero, List.set_cons_succ, i64_w, i32_w]
    rfl
  refine pure_ (i := 13) (N := some 45) (v := ?_) (a' := ?_) #[true, true, true, true, true, true, true, true, true, true, true, true, true, true, false, false, false, false, false, false, false, false, false, false, false, false, false, false] rfl rfl (by kernel_rfl) (fun _ _ _ h => h) (Or.inl ⟨by rfl, ?_⟩) ?_ ?_
  rotate_left
  · intro w'
    go_simp
    with_reducible rfl
  rotate_left
  · simp only [Act.put, List.setIfInBounds_toArray, List.set_cons_zero, List.set_cons_succ, i64_w, i32_w]
    rfl
  refine pure_ (i := 14) (N := some 46) (v := ?_) (a' := ?_) #[true, true, true, true, true, true, true, true, true, true, true, true, true, true, true, false, false, false, false, false, false, false, false, false, false, false, false, false] rfl rfl (by kernel_rfl) (fun _ _ _ h => h) (Or.inl ⟨by rfl, ?_⟩) ?_ ?_
  rotate_left
  · intro w'
    go_simp
    with_reducible rfl
  rotate_left
  · simp only [Act.put, List.setIfInBounds_toArray, List.set_cons_zero, List.set_cons_succ, i64_w, i32_w]
    rfl
  refine pure_ (i := 15) (N := some 47) (v := ?_) (a' := ?_) #[true, true, true, true, true, true, true, true, true, true, true, true, true, true, true, true, false, false, false, false, false, false, false, false, false, false, false, false] rfl rfl (by kernel_rfl) (fun _ _ _ h => h) (Or.inl ⟨by rfl, ?_⟩) ?_ ?_
  rotate_left
  · intro w'
    go_simp
    with_reducible rfl
  rotate_left
  · simp only [Act.put, List.setIfInBounds_toArray, List.set_cons_zero, List.set_cons_succ, i64_w, i32_w]
    rfl
  refine pure_ (i := 16) (N := some 48) (v := ?_) (a' := ?_) #[true, true, true, true, true, true, true, true, true, true, true, true, true, true, true, true, true, false, false, false, false, false, false, false, false, false, false, false] rfl rfl (by kernel_rfl) (fun _ _ _ h => h) (Or.inl ⟨by rfl, ?_⟩) ?_ ?_
  rotate_left
  · intro w'
    go_simp
    with_reducible rfl
  rotate_left
  · simp only [Act.put, List.setIfInBounds_toArray, List.set_cons_zero, List.set_cons_succ, i64_w, i32_w]
    rfl
  refine pure_ (i := 17) (N := some 49) (v := ?_) (a' := ?_) #[true, true, true, true, true, true, true, true, true, true, true, true, true, true, true, true, true, true, false, false, false, false, false, false, false, false, false, false] rfl rfl (by kernel_rfl) (fun _ _ _ h => h) (Or.inl ⟨by rfl, ?_⟩) ?_ ?_
  rotate_left
  · intro w'
    go_simp
    with_reducible rfl
  rotate_left
  · simp only [Act.put, List.setIfInBounds_toArray, List.set_cons_zero, List.set_cons_succ, i64_w, i32_w]
    rfl
  refine pure_ (i := 18) (N := some 50) (v := ?_) (a' := ?_) #[true, true, true, true, true, true, true, true, true, true, true, true, true, true, true, true, true, true, true, false, false, false, false, false, false, false, false, false] rfl rfl (by kernel_rfl) (fun _ _ _ h => h) (Or.inl ⟨by rfl, ?_⟩) ?_ ?_
  rotate_left
  · intro w'
    go_simp
    with_reducible rfl
  rotate_left
  · simp only [Act.put, List.setIfInBounds_toArray, List.set_cons_zero, List.set_cons_succ, i64_w, i32_w]
    rfl
  refine pure_ (i := 19) (N := some 51) (v := ?_) (a' := ?_) #[true, true, true, true, true, true, true, true, true, true, true, true, true, true, true, true, true, true, true, true, false, false, false, false, false, false, false, false] rfl rfl (by kernel_rfl) (fun _ _ _ h => h) (Or.inl ⟨by rfl, ?_⟩) ?_ ?_
  rotate_left
  · intro w'
    go_simp
    with_reducible rfl
  rotate_left
  · simp only [Act.put, List.setIfInBounds_toArray, List.set_cons_zero, List.set_cons_succ, i64_w, i32_w]
    rfl
  refine pure_ (i := 20) (N := some 52) (v := ?_) (a' := ?_) #[true, true, true, true, true, true, true, true, true, true, true, true, true, true, true, true, true, true, true, true, true, false, false, false, false, false, false, false] rfl rfl (by kernel_rfl) (fun _ _ _ h => h) (Or.inl ⟨by rfl, ?_⟩) ?_ ?_
  rotate_left
  · intro w'
    go_simp
    with_reducible rfl
  rotate_left
  · simp only [Act.put, List.setIfInBounds_toArray, List.set_cons_zero, List.set_cons_succ, i64_w, i32_w]
    rfl
  refine pure_ (i := 21) (N := some 53) (v := ?_) (a' := ?_) #[true, true, true, true, true, true, true, true, true, true, true, true, true, true, true, true, true, true, true, true, true, true, false, false, false, false, false, false] rfl rfl (by kernel_rfl) (fun _ _ _ h => h) (Or.inl ⟨by rfl, ?_⟩) ?_ ?_
  rotate_left
  · intro w'
    go_simp
    with_reducible rfl
  rotate_left
  · simp only [Act.put, List.setIfInBounds_toArray, List.set_cons_zero, List.set_cons_succ, i64_w, i32_w]
    rfl
  refine pure_ (i := 22) (N := some 54) (v := ?_) (a' := ?_) #[true, true, true, true, true, true, true, true, true, true, true, true, true, true, true, true, true, true, true, true, true, true, true, false, false, false, false, false] rfl rfl (by kernel_rfl) (fun _ _ _ h => h) (Or.inl ⟨by rfl, ?_⟩) ?_ ?_
  rotate_left
  · intro w'
    go_simp
    with_reducible rfl
  rotate_left
  · simp only [Act.put, List.setIfInBounds_toArray, List.set_cons_zero, List.set_cons_succ, i64_w, i32_w]
    rfl
  refine pure_ (i := 23) (N := some 55) (v := ?_) (a' := ?_) #[true, true, true, true, true, true, true, true, true, true, true, true, true, true, true, true, true, true, true, true, true, true, true, true, false, false, false, false] rfl rfl (by kernel_rfl) (fun _ _ _ h => h) (Or.inl ⟨by rfl, ?_⟩) ?_ ?_
  rotate_left
  · intro w'
    go_simp
    with_reducible rfl
  rotate_left
  · simp only [Act.put, List.setIfInBounds_toArray, List.set_cons_zero, List.set_cons_succ, i64_w, i32_w]
    rfl
  refine pure_ (i := 24) (N := some 56) (v := ?_) (a' := ?_) #[true, true, true, true, true, true, true, true, true, true, true, true, true, true, true, true, true, true, true, true, true, true, true, true, true, false, false, false] rfl rfl (by kernel_rfl) (fun _ _ _ h => h) (Or.inl ⟨by rfl, ?_⟩) ?_ ?_
  rotate_left
  · intro w'
    go_simp
    with_reducible rfl
  rotate_left
  · simp only [Act.put, List.setIfInBounds_toArray, List.set_cons_zero, List.set_cons_succ, i64_w, i32_w]
    rfl
  refine pure_ (i := 27) (N := some 59) (v := ?_) (a' := ?_) #[true, true, true, true, true, true, true, true, true, true, true, true, true, true, true, true, true, true, true, true, true, true, true, true, true, false, false, true] rfl rfl (by kernel_rfl) (fun _ _ _ h => h) (Or.inl ⟨by rfl, ?_⟩) ?_ ?_
  rotate_left
  · intro w'
    go_simp
    with_reducible rfl
  rotate_left
  · simp only [Act.put, List.setIfInBounds_toArray, List.set_cons_zero, List.set_cons_succ, i64_w, i32_w]
    rfl
  refine one_ (i := 25) (N := some 57) #[true, true, true, true, true, true, true, true, true, true, true, true, true, true, true, true, true, true, true, true, true, true, true, true, true, true, false, true] rfl rfl (by kernel_rfl) (by decide) (fun K hK => ?_)
  refine value_ (w1 := ?_) (v := ?_) (by rfl) rfl ?_ ?_
  rotate_left 2
  · go_simp
    constructor
    · rfl
    · rfl
  refine hK.out _ _ (below_step hHeld (below_alloc (Below.refl _ _) _)) (fun hHeld => ?_)
  clear hK K
  refine norm_ (a' := ?_) ?_ ?_
  rotate_left
  · show Act.put _ (some 57) _ = _
    simp only [Act.put, List.setIfInBounds_toArray, List.set_cons_zero, List.set_cons_succ, i64_w, i32_w]
    rfl
  refine pure_ (i := 26) (N := some 58) (v := ?_) (a' := ?_) #[true, true, true, true, true, true, true, true, true, true, true, true, true, true, true, true, true, true, true, true, true, true, true, true, true, true, true, true] rfl rfl (by kernel_rfl) (fun _ _ _ h => h) (Or.inl ⟨by rfl, ?_⟩) ?_ ?_
  rotate_left
  · intro w'
    go_simp
    with_reducible rfl
  rotate_left
  · simp only [Act.put, List.setIfInBounds_toArray, List.set_cons_zero, List.set_cons_succ, i64_w, i32_w]
    rfl
  refine done_ (by kernel_rfl) ?_

  (try rw [hX1] at hHeld); (try rw [hX2] at hHeld); (try rw [hX1]); (try rw [hX2])
  have RB := Aside0.mk (show (w3.alloc (.cells #[.string s, .string X1, .string X2] 9)).drew.heap[w3.heap.size]? = some (.cells #[.string s, .string X1, .string X2] 9 (0, 0)) from blk_new w3 _)
  have BH := Aside0.mk hHeld
  clear hHeld
  obtain ⟨V, hV⟩ : ∃ V, (w3.alloc (.cells #[.string s, .string X1, .string X2] 9)).drew = V := ⟨_, rfl⟩
  obtain ⟨gr, hgr⟩ : ∃ g, w3.heap.size = g := ⟨_, rfl⟩
  rw [hV] at RB BH ⊢
  rw [hgr] at RB ⊢
  clear hV hgr
  clear hX1 hX2 hP hE1 hE2 wK j1 k1 k2 k1' k2' q1 q2 q3
  go_wp2_with fail
  go_loopw [14, 15, 16, 17, 18, 19, 59] (fun _ _ _ _ _ _ i W => ∃ (k : Nat), k ≤ 3 ∧ i = .int .i64 k ∧ Aside0 (W.heap[gr]? = some (.cells #[.string s, .string X1, .string X2] 9 (0, 0))) ∧ Aside0 (Below w.heap.size w W)) (fun _ _ _ _ _ _ i _ => 3 - (intOf i).toNat)
  case atStart => exact ⟨0, by omega, rfl, RB, BH⟩
  case round =>
    clear RB BH
    obtain ⟨k, hk, rfl, RB, BH⟩ := hrel
    by_cases hlt : k < 3
    · obtain ⟨x, hx⟩ : ∃ x, ([s, X1, X2] : List ByteArray).getD k ⟨#[]⟩ = x := ⟨_, rfl⟩
      have c := (blk_cell RB.out k).trans (row3_at s X1 X2 k hlt)
      rw [hx] at c
      have d3 : decide ((k : Int) < 3) = true := decide_eq_true (by omega)
      have l3 : (3 ≤ (k : Int)) = False := eq_false (by omega)
      have hw1 : wrap64 ((k : Int) + 1) = ((k + 1 : Nat) : Int) := by unfold wrap64; omega
      clear hx
      go_wp2_with fail
      refine (decode_calls x _ (HG.out.below BH.out)).mono ?_
      rintro e w5 ⟨rfl, b⟩
      have R5 := Aside0.mk (blk_below RB.out b)
      have B5 := Aside0.mk (below_step BH.out b)
      clear b c RB BH
      have hF := @forth x
      have hC := decodeN_cases x
      rcases hD : decodeN x with ⟨⟨s1, n1, k1, e1, p1⟩, c1, f1⟩
      rw [hD] at hF hC
      simp only at hF ⊢
      have KX5 := Aside0.mk (blk_new w5 (.cells #[.string s1, .int .i64 n1, .string k1, .string e1, .int .i64 p1] 24))
      have R6 := Aside0.mk (blk_alloc R5.out (.cells #[.string s1, .int .i64 n1, .string k1, .string e1, .int .i64 p1] 24))
      have B6 := Aside0.mk (below_alloc B5.out (.cells #[.string s1, .int .i64 n1, .string k1, .string e1, .int .i64 p1] 24))
      by_cases hz : c1 = 0
      · obtain ⟨hok, rfl, hline⟩ := hF hz
        subst hz
        have HOK := Aside0.mk hok
        have HLN := Aside0.mk (show (⟨(lineL s1 k1 e1 n1 p1).toArray⟩ : ByteArray) = x from hline)
        clear hok hline hC hF hD
        have y0 : (w5.alloc (.cells #[.string s1, .int .i64 n1, .string k1, .string e1, .int .i64 p1] 24)).cell? ⟨w5.heap.size, 0, none⟩ = some (.string s1) := (blk_cell KX5.out 0).trans rfl
        have y1 : (w5.alloc (.cells #[.string s1, .int .i64 n1, .string k1, .string e1, .int .i64 p1] 24)).cell? ⟨w5.heap.size, 1, none⟩ = some (.int .i64 n1) := (blk_cell KX5.out 1).trans rfl
        have y2 : (w5.alloc (.cells #[.string s1, .int .i64 n1, .string k1, .string e1, .int .i64 p1] 24)).cell? ⟨w5.heap.size, 2, none⟩ = some (.string k1) := (blk_cell KX5.out 2).trans rfl
        have y3 : (w5.alloc (.cells #[.string s1, .int .i64 n1, .string k1, .string e1, .int .i64 p1] 24)).cell? ⟨w5.heap.size, 3, none⟩ = some (.string e1) := (blk_cell KX5.out 3).trans rfl
        have y4 : (w5.alloc (.cells #[.string s1, .int .i64 n1, .string k1, .string e1, .int .i64 p1] 24)).cell? ⟨w5.heap.size, 4, none⟩ = some (.int .i64 p1) := (blk_cell KX5.out 4).trans rfl
        go_wp2_with fail
        clear y0 y1 y2 y3 y4
        obtain ⟨gx, hgx⟩ : ∃ g, w5.heap.size = g := ⟨_, rfl⟩
        obtain ⟨W5, hW5⟩ : ∃ W, w5.alloc (.cells #[.string s1, .int .i64 n1, .string k1, .string e1, .int .i64 p1] 24) = W := ⟨_, rfl⟩
        rw [hW5] at KX5 R6 B6 ⊢
        rw [hgx] at KX5 ⊢
        clear hgx hW5
        refine (encode_calls s1 k1 e1 n1 p1 _ (HG.out.below B6.out)).mono ?_
        rintro e w7 ⟨rfl, b⟩
        rw [if_pos (show rightF s1 k1 e1 n1 p1 = true from HOK.out), HLN.out]
        have KX7 := Aside0.mk (blk_below KX5.out b)
        have R7 := Aside0.mk (blk_below R6.out b)
        have B7 := Aside0.mk (below_step B6.out b)
        clear b
        have y0 : w7.cell? ⟨gx, 0, none⟩ = some (.string s1) := (blk_cell KX7.out 0).trans rfl
        have y1 : w7.cell? ⟨gx, 1, none⟩ = some (.int .i64 n1) := (blk_cell KX7.out 1).trans rfl
        have y2 : w7.cell? ⟨gx, 2, none⟩ = some (.string k1) := (blk_cell KX7.out 2).trans rfl
        have y3 : w7.cell? ⟨gx, 3, none⟩ = some (.string e1) := (blk_cell KX7.out 3).trans rfl
        have y4 : w7.cell? ⟨gx, 4, none⟩ = some (.int .i64 p1) := (blk_cell KX7.out 4).trans rfl
        go_wp2_with fail
        refine (right_calls s1 k1 e1 n1 p1 _).mono ?_
        rintro e w8 ⟨rfl, b⟩
        rw [show rightF s1 k1 e1 n1 p1 = true from HOK.out]
        have R8 := Aside0.mk (blk_below R7.out b)
        have B8 := Aside0.mk (below_step B7.out b)
        clear b y0 y1 y2 y3 y4
        go_wp2_with fail
        go_roundw
        case rel => exact ⟨k + 1, by omega, rfl, R8, B8⟩
        case measure => simp [intOf]; omega
      · have HZ := Aside0.mk hz
        clear hF hD hz
        unfold zeroLn at hC
        simp only [Prod.mk.injEq, Ln.mk.injEq] at hC
        rcases hC with ⟨⟨rfl, rfl, rfl, rfl, rfl⟩, rfl, rfl⟩ | ⟨⟨rfl, rfl, rfl, rfl, rfl⟩, rfl, rfl⟩ | ⟨i, hi, _, _, ⟨rfl, rfl, rfl, rfl, rfl⟩, rfl, rfl⟩ | ⟨_, _, _, h, _⟩
        · have y0 : (w5.alloc (.cells #[.string ⟨#[]⟩, .int .i64 0, .string ⟨#[]⟩, .string ⟨#[]⟩, .int .i64 0] 24)).cell? ⟨w5.heap.size, 0, none⟩ = some (.string ⟨#[]⟩) := (blk_cell KX5.out 0).trans rfl
          have y1 : (w5.alloc (.cells #[.string ⟨#[]⟩, .int .i64 0, .string ⟨#[]⟩, .string ⟨#[]⟩, .int .i64 0] 24)).cell? ⟨w5.heap.size, 1, none⟩ = some (.int .i64 0) := (blk_cell KX5.out 1).trans rfl
          have y2 : (w5.alloc (.cells #[.string ⟨#[]⟩, .int .i64 0, .string ⟨#[]⟩, .string ⟨#[]⟩, .int .i64 0] 24)).cell? ⟨w5.heap.size, 2, none⟩ = some (.string ⟨#[]⟩) := (blk_cell KX5.out 2).trans rfl
          have y3 : (w5.alloc (.cells #[.string ⟨#[]⟩, .int .i64 0, .string ⟨#[]⟩, .string ⟨#[]⟩, .int .i64 0] 24)).cell? ⟨w5.heap.size, 3, none⟩ = some (.string ⟨#[]⟩) := (blk_cell KX5.out 3).trans rfl
          have y4 : (w5.alloc (.cells #[.string ⟨#[]⟩, .int .i64 0, .string ⟨#[]⟩, .string ⟨#[]⟩, .int .i64 0] 24)).cell? ⟨w5.heap.size, 4, none⟩ = some (.int .i64 0) := (blk_cell KX5.out 4).trans rfl
          go_wp2_with fail
          go_roundw
          case rel => exact ⟨k + 1, by omega, rfl, R6, B6⟩
          case measure => simp [intOf]; omega
        · have y0 : (w5.alloc (.cells #[.string ⟨#[]⟩, .int .i64 0, .string ⟨#[]⟩, .string ⟨#[]⟩, .int .i64 0] 24)).cell? ⟨w5.heap.size, 0, none⟩ = some (.string ⟨#[]⟩) := (blk_cell KX5.out 0).trans rfl
          have y1 : (w5.alloc (.cells #[.string ⟨#[]⟩, .int .i64 0, .string ⟨#[]⟩, .string ⟨#[]⟩, .int .i64 0] 24)).cell? ⟨w5.heap.size, 1, none⟩ = some (.int .i64 0) := (blk_cell KX5.out 1).trans rfl
          have y2 : (w5.alloc (.cells #[.string ⟨#[]⟩, .int .i64 0, .string ⟨#[]⟩, .string ⟨#[]⟩, .int .i64 0] 24)).cell? ⟨w5.heap.size, 2, none⟩ = some (.string ⟨#[]⟩) := (blk_cell KX5.out 2).trans rfl
          have y3 : (w5.alloc (.cells #[.string ⟨#[]⟩, .int .i64 0, .string ⟨#[]⟩, .string ⟨#[]⟩, .int .i64 0] 24)).cell? ⟨w5.heap.size, 3, none⟩ = some (.string ⟨#[]⟩) := (blk_cell KX5.out 3).trans rfl
          have y4 : (w5.alloc (.cells #[.string ⟨#[]⟩, .int .i64 0, .string ⟨#[]⟩, .string ⟨#[]⟩, .int .i64 0] 24)).cell? ⟨w5.heap.size, 4, none⟩ = some (.int .i64 0) := (blk_cell KX5.out 4).trans rfl
          go_wp2_with fail
          go_roundw
          case rel => exact ⟨k + 1, by omega, rfl, R6, B6⟩
          case measure => simp [intOf]; omega
        · have i0 : decide ((i : Int) < 0) = false := decide_eq_false (by omega)
          have i4 : decide (4 < (i : Int)) = false := decide_eq_false (by omega)
          have y0 : (w5.alloc (.cells #[.string ⟨#[]⟩, .int .i64 0, .string ⟨#[]⟩, .string ⟨#[]⟩, .int .i64 0] 24)).cell? ⟨w5.heap.size, 0, none⟩ = some (.string ⟨#[]⟩) := (blk_cell KX5.out 0).trans rfl
          have y1 : (w5.alloc (.cells #[.string ⟨#[]⟩, .int .i64 0, .string ⟨#[]⟩, .string ⟨#[]⟩, .int .i64 0] 24)).cell? ⟨w5.heap.size, 1, none⟩ = some (.int .i64 0) := (blk_cell KX5.out 1).trans rfl
          have y2 : (w5.alloc (.cells #[.string ⟨#[]⟩, .int .i64 0, .string ⟨#[]⟩, .string ⟨#[]⟩, .int .i64 0] 24)).cell? ⟨w5.heap.size, 2, none⟩ = some (.string ⟨#[]⟩) := (blk_cell KX5.out 2).trans rfl
          have y3 : (w5.alloc (.cells #[.string ⟨#[]⟩, .int .i64 0, .string ⟨#[]⟩, .string ⟨#[]⟩, .int .i64 0] 24)).cell? ⟨w5.heap.size, 3, none⟩ = some (.string ⟨#[]⟩) := (blk_cell KX5.out 3).trans rfl
          have y4 : (w5.alloc (.cells #[.string ⟨#[]⟩, .int .i64 0, .string ⟨#[]⟩, .string ⟨#[]⟩, .int .i64 0] 24)).cell? ⟨w5.heap.size, 4, none⟩ = some (.int .i64 0) := (blk_cell KX5.out 4).trans rfl
          go_wp2_with fail
          go_roundw
          case rel => exact ⟨k + 1, by omega, rfl, R6, B6⟩
          case measure => simp [intOf]; omega
        · exact absurd h HZ.out
    · clear hk
      go_wp2_with fail
      go_ret
      exact ⟨rfl, BH.out⟩
end Go.Proofs.YtbecemdehelooaaDoor.FeedF
