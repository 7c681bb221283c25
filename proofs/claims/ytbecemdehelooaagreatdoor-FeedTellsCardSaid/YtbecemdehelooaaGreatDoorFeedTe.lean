/- a line of raw numbers may be; lines compared's walk, by hand. -/
import Derived.Test.YtbecemdehelooaaGreatDoorFeedLi
import Derived.Test.YtbecemdehelooaaGreatDoorFeedAw
import Derived.Test.YtbecemdehelooaaGreatDoorFeedRd
import Derived.Test.YtbecemdehelooaaGreatDoorFeedL
import Derived.Deep.DeepCutAuto
namespace Go.Proofs.YtbecemdehelooaaGreatDoor.FeedU
open Go.RowKit Go.Proofs.YtbecemdehelooaaGreatDoor.FrameS Go.Proofs.YtbecemdehelooaaGreatDoor.FeedG Go.Proofs.YtbecemdehelooaaGreatDoor.FeedD Go.Proofs.YtbecemdehelooaaGreatDoor.FeedN Go.Proofs.YtbecemdehelooaaGreatDoor.FeedW Go.Proofs.YtbecemdehelooaaGreatDoor.FeedE Go.Proofs.YtbecemdehelooaaGreatDoor.FeedDe Go.Proofs.YtbecemdehelooaaGreatDoor.FeedDh Go.Proofs.YtbecemdehelooaaGreatDoor.FeedPm Go.Proofs.YtbecemdehelooaaGreatDoor.FeedLi Go.Proofs.YtbecemdehelooaaGreatDoor.FeedAw Go.Proofs.YtbecemdehelooaaGreatDoorW.PrintWords Go.Proofs.YtbecemdehelooaaGreatDoorW.PrintLast Go.Proofs.YtbecemdehelooaaGreatDoorW.PrintMore
set_option linter.unusedVariables false
set_option linter.unusedSimpArgs false
theorem src_name : ∀ k : Fin 3, nameB (srcOf k.val) = true := by decide +kernel
theorem sku_name : ∀ k : Fin 4, nameB (skuOf k.val) = true := by decide +kernel
/-- A line of raw numbers may be. -/
theorem lineOf_ok (a0 a1 a2 a3 a4 : Int) (h3 : In64 a3) : (lineOf a0 a1 a2 a3 a4).ok = true := by
  obtain ⟨k0, g0, l0⟩ := pk_nat a0 3 (by decide)
  obtain ⟨k2, g2, l2⟩ := pk_nat a2 4 (by decide)
  have r1 := pk_range a1 60 (by decide)
  have r4 := pk_range a4 2500 (by decide)
  have n0 := src_name ⟨k0, l0⟩
  have n2 := sku_name ⟨k2, l2⟩
  have n3 := sell_name a3 h3
  unfold lineOf Ln.ok rightF
  simp only
  rw [show pk a0 3 = (k0 : Int) from g0, show pk a2 4 = (k2 : Int) from g2, Int.toNat_natCast, Int.toNat_natCast, n0, n2, n3]
  unfold Go.Proofs.YtbecemdehelooaaGreatDoor.FeedW.badSeq Go.Proofs.YtbecemdehelooaaGreatDoor.FeedW.badPrice
  rw [decide_eq_false (show ¬ (1 + pk a1 60 < 1) by omega), decide_eq_false (show ¬ (1000000000000 < 1 + pk a1 60) by omega)]
  split
  · simp
  · rw [decide_eq_false (show ¬ (pk a4 2500 < 0) by omega), decide_eq_false (show ¬ (1000000000000 < pk a4 2500) by omega)]; rfl
instance : DecidableEq Ln := fun x y => decidable_of_iff (x.so = y.so ∧ x.n = y.n ∧ x.sk = y.sk ∧ x.se = y.se ∧ x.p = y.p) ⟨fun h => by cases x; cases y; simp only at h; obtain ⟨rfl, rfl, rfl, rfl, rfl⟩ := h; rfl, fun h => by subst h; exact ⟨rfl, rfl, rfl, rfl, rfl⟩⟩
theorem line_inj (x y : Ln) (hx : x.ok = true) (hy : y.ok = true) (h : x.line = y.line) : x = y := by
  have h1 := back hx
  have h2 := back hy
  rw [h, h2] at h1
  exact (congrArg Prod.fst h1).symm
/-- Texts are the same just where the lines are. -/
theorem line_eq (x y : Ln) (hx : x.ok = true) (hy : y.ok = true) : ((⟨x.line.toArray⟩ : ByteArray).toList == (⟨y.line.toArray⟩ : ByteArray).toList) = decide (x = y) := by
  rw [toList_data, toList_data]
  by_cases h : x = y
  · subst h; simp
  · rw [decide_eq_false h]
    refine beq_eq_false_iff_ne.2 (fun e => h (line_inj x y hx hy ?_))
    simpa using e
set_option maxRecDepth 100000 in
theorem eqA24 (d : Nat) (w : World) (x0 y0 : ByteArray) (x1 y1 : Int) (x2 y2 : ByteArray) (x3 y3 : ByteArray) (x4 y4 : Int) :
    (Op.equalIn (d + 2) 23 (.agg #[.string x0, .int .i64 x1, .string x2, .string x3, .int .i64 x4]) (.agg #[.string y0, .int .i64 y1, .string y2, .string y3, .int .i64 y4])).run Tryz.prog w = .ok (x0.toList == y0.toList && (x1 == y1 && (x2.toList == y2.toList && (x3.toList == y3.toList && (x4 == y4))))) w := by
  refine eqA_of Tryz.underlying23 (by kernel_rfl) ?_
  refine eqf_cons (by rfl) (by go_simp; rfl) (by go_simp; rfl) (by go_simp) ?_
  refine eqf_cons (by rfl) (by go_simp; rfl) (by go_simp; rfl) (by go_simp) ?_
  refine eqf_cons (by rfl) (by go_simp; rfl) (by go_simp; rfl) (by go_simp) ?_
  refine eqf_cons (by rfl) (by go_simp; rfl) (by go_simp; rfl) (by go_simp) ?_
  exact eqf_last (by rfl) (by go_simp; rfl) (by go_simp; rfl) (by go_simp)
end Go.Proofs.YtbecemdehelooaaGreatDoor.FeedU
/- FeedTells' walk, by hand. -/
namespace Go.Proofs.YtbecemdehelooaaGreatDoor.FeedTe
open Go.RowKit Go.Proofs.YtbecemdehelooaaGreatDoor.FrameS Go.Proofs.YtbecemdehelooaaGreatDoor.FeedG Go.Proofs.YtbecemdehelooaaGreatDoor.FeedD Go.Proofs.YtbecemdehelooaaGreatDoor.FeedN Go.Proofs.YtbecemdehelooaaGreatDoor.FeedW Go.Proofs.YtbecemdehelooaaGreatDoor.FeedE Go.Proofs.YtbecemdehelooaaGreatDoor.FeedDe Go.Proofs.YtbecemdehelooaaGreatDoor.FeedDh Go.Proofs.YtbecemdehelooaaGreatDoor.FeedPm Go.Proofs.YtbecemdehelooaaGreatDoor.FeedLi Go.Proofs.YtbecemdehelooaaGreatDoor.FeedAw Go.Proofs.YtbecemdehelooaaGreatDoor.FeedU Go.Proofs.YtbecemdehelooaaGreatDoor.FeedRe Go.Proofs.YtbecemdehelooaaGreatDoor.FeedRd Go.Proofs.YtbecemdehelooaaGreatDoorW.PrintWords Go.Proofs.YtbecemdehelooaaGreatDoorW.PrintLast Go.Proofs.YtbecemdehelooaaGreatDoorW.PrintMore
set_option linter.unusedVariables false
set_option linter.unusedSimpArgs false
/-- Five cells of a block. -/
structure C5 (w : World) (g : Nat) (v0 v1 v2 v3 v4 : Value) : Prop where
  c0 : w.cell? ⟨g, 0, none⟩ = some v0
  c1 : w.cell? ⟨g, 1, none⟩ = some v1
  c2 : w.cell? ⟨g, 2, none⟩ = some v2
  c3 : w.cell? ⟨g, 3, none⟩ = some v3
  c4 : w.cell? ⟨g, 4, none⟩ = some v4
theorem C5.below {w w' : World} {g : Nat} {v0 v1 v2 v3 v4 : Value} (h : C5 w g v0 v1 v2 v3 v4) (b : Below w.heap.size w w') : C5 w' g v0 v1 v2 v3 v4 :=
  ⟨(b.cell (cell_lt h.c0)).trans h.c0, (b.cell (cell_lt h.c1)).trans h.c1, (b.cell (cell_lt h.c2)).trans h.c2, (b.cell (cell_lt h.c3)).trans h.c3, (b.cell (cell_lt h.c4)).trans h.c4⟩
theorem str5 (a b c d e : ByteArray) (i : Nat) (hi : i < 5) : (#[.string a, .string b, .string c, .string d, .string e] : Array Value)[i]? = some (.string (FeedDe.nth [a, b, c, d, e] i)) := by
  match i, hi with
  | 0, _ => rfl
  | 1, _ => rfl
  | 2, _ => rfl
  | 3, _ => rfl
  | 4, _ => rfl
theorem enc_res (so sk se : ByteArray) (n p : Int) : ∃ X c, (if rightF so sk se n p = true then Ending.returned (.tuple #[.string ⟨(lineL so sk se n p).toArray⟩, .int .i64 0]) else Ending.returned (.tuple #[.string ⟨#[]⟩, .int .i64 1])) = Ending.returned (.tuple #[.string X, .int .i64 c]) := by
  split
  · exact ⟨_, _, rfl⟩
  · exact ⟨_, _, rfl⟩
attribute [local go_sem] max2_int min2_int max_two min_two
attribute [local go_sem high] eqA24
set_option maxHeartbeats 8000000 in
set_option maxRecDepth 100000 in
theorem tells_walk (s0 : ByteArray) (n0 : Int) (k0 e0 : ByteArray) (p0 : Int) (a0 a1 a2 a3 a4 : Int) (s : ByteArray) (at_ : Int) (more : ByteArray) (w : World) (hG : G w) (h0 : In64 a0) (h1 : In64 a1) (h2 : In64 a2) (h3 : In64 a3) (h4 : In64 a4) (hs : s.size ≤ 140737488351232) (ha : In64 at_) (hm : more.size ≤ 140737488351232) :
    Calls Tryz.prog 3 #[.agg #[.string s0, .int .i64 n0, .string k0, .string e0, .int .i64 p0], .agg #[.int .i64 a0, .int .i64 a1, .int .i64 a2, .int .i64 a3, .int .i64 a4], .string s, .int .i64 at_, .string more] w fun e w' => e = .returned (.bool true) ∧ Below w.heap.size w w' := by
  have hx := lineOf_ok a0 a1 a2 a3 a4 h3
  have LA0 := fun w0 => line_calls a0 a1 a2 a3 a4 w0 h0 h1 h2 h3 h4
  generalize lineOf a0 a1 a2 a3 a4 = x at hx LA0
  have hsz := line_short hx
  obtain ⟨so, n, sk, se, p⟩ := x
  simp only [Ln.val, feedV] at LA0
  have LA := Aside0.mk LA0
  obtain ⟨T, hT⟩ : ∃ T : ByteArray, (⟨(lineL so sk se n p).toArray⟩ : ByteArray) = T := ⟨_, rfl⟩
  have hTs : T.size ≤ 100 := by rw [← hT]; show (List.toArray (lineL so sk se n p)).size ≤ 100; rw [List.size_toArray]; exact hsz
  have HT := Aside0.mk hT
  have HX := Aside0.mk hx
  have HG := Aside0.mk hG
  have PA := Aside0.mk (fun w0 => pick_calls at_ ((T.size : Int) + 1) w0 ha (by omega) (by omega))
  obtain ⟨K, hK, hKl⟩ := pk_nat at_ (T.size + 1) (by omega)
  have HK := Aside0.mk (show pk at_ ((T.size : Int) + 1) = (K : Int) from hK)
  have wT : wrap64 ((T.size : Int) + 1) = (T.size : Int) + 1 := by unfold wrap64; omega
  have HWT := Aside0.mk wT
  clear hx hsz hT hG h0 h1 h2 h3 h4 ha hK wT LA0
  go_enter Tryz.func3, Tryz.ntmps3
  go_wp2_with fail
  obtain ⟨W, hW⟩ : ∃ W, (w.alloc (.cells #[.string s0, .int .i64 n0, .string k0, .string e0, .int .i64 p0] 23)).alloc (.cells #[.int .i64 a0, .int .i64 a1, .int .i64 a2, .int .i64 a3, .int .i64 a4] 24) = W := ⟨_, rfl⟩
  have hsz : (w.alloc (.cells #[.string s0, .int .i64 n0, .string k0, .string e0, .int .i64 p0] 23)).heap.size = w.heap.size + 1 := by simp [World.alloc, -World.alloc_eq]
  have KA := Aside0.mk (show W.heap[w.heap.size]? = some (.cells #[.string s0, .int .i64 n0, .string k0, .string e0, .int .i64 p0] 23 (0, 0)) by rw [← hW]; exact blk_alloc (blk_new w _) _)
  have KB := Aside0.mk (show W.heap[w.heap.size + 1]? = some (.cells #[.int .i64 a0, .int .i64 a1, .int .i64 a2, .int .i64 a3, .int .i64 a4] 24 (0, 0)) by rw [← hW, ← hsz]; exact blk_new _ _)
  have BB := Aside0.mk (show Below w.heap.size w W by rw [← hW]; exact below_alloc (below_alloc (Below.refl _ _) _) _)
  rw [hW]
  clear hW hsz
  obtain ⟨gb, hgb⟩ : ∃ g, g = w.heap.size + 1 := ⟨_, rfl⟩
  rw [← hgb] at KB ⊢
  clear hgb
  obtain ⟨ga, hga⟩ : ∃ g, g = w.heap.size := ⟨_, rfl⟩
  rw [← hga] at KA ⊢
  clear hga
  refine (awake_calls _ (HG.out.below BB.out)).mono ?_
  rintro e w1 ⟨rfl, b⟩
  have KA1 := Aside0.mk (blk_below KA.out b)
  have KB1 := Aside0.mk (blk_below KB.out b)
  have B1 := Aside0.mk (below_step BB.out b)
  clear b KA KB BB
  go_wp2_with fail
  refine start_ (n := 6) (S := fun w' => w'.cell? ⟨ga, 0, none⟩ = some (.string s0) ∧ w'.cell? ⟨ga, 1, none⟩ = some (.int .i64 n0) ∧ w'.cell? ⟨ga, 2, none⟩ = some (.string k0) ∧ w'.cell? ⟨ga, 3, none⟩ = some (.string e0) ∧ w'.cell? ⟨ga, 4, none⟩ = some (.int .i64 p0) ∧ w'.cell? ⟨gb, 0, none⟩ = some (.int .i64 a0) ∧ w'.cell? ⟨gb, 1, none⟩ = some (.int .i64 a1) ∧ w'.cell? ⟨gb, 2, none⟩ = some (.int .i64 a2) ∧ w'.cell? ⟨gb, 3, none⟩ = some (.int .i64 a3) ∧ w'.cell? ⟨gb, 4, none⟩ = some (.int .i64 a4) ∧ Below w.heap.size w w') (ds := []) #[false, false, false, false, false, false] (by kernel_rfl) rfl rfl ⟨(blk_cell KA1.out 0).trans rfl, (blk_cell KA1.out 1).trans rfl, (blk_cell KA1.out 2).trans rfl, (blk_cell KA1.out 3).trans rfl, (blk_cell KA1.out 4).trans rfl, (blk_cell KB1.out 0).trans rfl, (blk_cell KB1.out 1).trans rfl, (blk_cell KB1.out 2).trans rfl, (blk_cell KB1.out 3).trans rfl, (blk_cell KB1.out 4).trans rfl, (by apply below_drew1; exact B1.out)⟩ (fun hHeld => ?_)
  refine pure_ (i := 5) (N := some 35) (v := ?_) (a' := ?_) #[false, false, false, false, false, true] rfl rfl (by kernel_rfl) (fun _ _ _ h => h) (Or.inl ⟨by rfl, ?_⟩) ?_ ?_
  rotate_left
  · intro w'
    go_simp
    with_reducible rfl
  rotate_left
  · simp only [Act.put, List.setIfInBounds_toArray, List.set_cons_zero, List.set_cons_succ, i64_w, i32_w]
    rfl
  refine take_ (i := 0) (N := some 30) (v := ?_) (a' := ?_) #[true, false, false, false, false, true] rfl rfl (by kernel_rfl) (fun _ _ _ h => h) (Or.inl ⟨by rfl, ?_⟩) hHeld ?_ ?_
  rotate_left
  · rintro w' ⟨s0, s1, s2, s3, s4, s5, s6, s7, s8, s9, s10⟩
    go_simp
    with_reducible rfl
  rotate_left
  · simp only [Act.put, List.setIfInBounds_toArray, List.set_cons_zero, List.set_cons_succ, i64_w, i32_w]
    rfl
  refine take_ (i := 1) (N := some 31) (v := ?_) (a' := ?_) #[true, true, false, false, false, true] rfl rfl (by kernel_rfl) (fun _ _ _ h => h) (Or.inl ⟨by rfl, ?_⟩) hHeld ?_ ?_
  rotate_left
  · rintro w' ⟨s0, s1, s2, s3, s4, s5, s6, s7, s8, s9, s10⟩
    go_simp
    with_reducible rfl
  rotate_left
  · simp only [Act.put, List.setIfInBounds_toArray, List.set_cons_zero, List.set_cons_succ, i64_w, i32_w]
    rfl
  refine one_ (i := 2) (N := some 32) #[true, true, true, false, false, true] rfl rfl (by kernel_rfl) (by decide) (fun K hK => ?_)
  refine goes_ Tryz.func5 (by kernel_rfl) rfl #[.agg #[.int .i64 a0, .int .i64 a1, .int .i64 a2, .int .i64 a3, .int .i64 a4]] (by rfl) rfl rfl (by simp only [List.map_toArray, List.map_cons, List.map_nil]; rfl) ?_
  with_reducible refine (LA.out _).mono ?_
  rintro e w5 ⟨rfl, hb3⟩
  refine ⟨_, rfl, ?_⟩
  refine hK.out _ _ ⟨(hb3.cell (cell_lt hHeld.1)).trans hHeld.1, (hb3.cell (cell_lt hHeld.2.1)).trans hHeld.2.1, (hb3.cell (cell_lt hHeld.2.2.1)).trans hHeld.2.2.1, (hb3.cell (cell_lt hHeld.2.2.2.1)).trans hHeld.2.2.2.1, (hb3.cell (cell_lt hHeld.2.2.2.2.1)).trans hHeld.2.2.2.2.1, (hb3.cell (cell_lt hHeld.2.2.2.2.2.1)).trans hHeld.2.2.2.2.2.1, (hb3.cell (cell_lt hHeld.2.2.2.2.2.2.1)).trans hHeld.2.2.2.2.2.2.1, (hb3.cell (cell_lt hHeld.2.2.2.2.2.2.2.1)).trans hHeld.2.2.2.2.2.2.2.1, (hb3.cell (cell_lt hHeld.2.2.2.2.2.2.2.2.1)).trans hHeld.2.2.2.2.2.2.2.2.1, (hb3.cell (cell_lt hHeld.2.2.2.2.2.2.2.2.2.1)).trans hHeld.2.2.2.2.2.2.2.2.2.1, below_step hHeld.2.2.2.2.2.2.2.2.2.2 hb3⟩ (fun hHeld => ?_)
  clear hK K
  refine norm_ (a' := ?_) ?_ ?_
  rotate_left
  · show Act.put _ (some 32) _ = _
    simp only [Act.put, List.setIfInBounds_toArray, List.set_cons_zero, List.set_cons_succ, i64_w, i32_w]
    rfl
  refine one_ (i := 3) (N := some 33) #[true, true, true, true, false, true] rfl rfl (by kernel_rfl) (by decide) (fun K hK => ?_)
  refine value_ (w1 := ?_) (v := ?_) (by rfl) rfl ?_ ?_
  rotate_left 2
  · go_simp
    constructor
    · rfl
    · rfl
  refine hK.out _ _ ⟨((below_alloc (Below.refl _ _) _).cell (cell_lt hHeld.1)).trans hHeld.1, ((below_alloc (Below.refl _ _) _).cell (cell_lt hHeld.2.1)).trans hHeld.2.1, ((below_alloc (Below.refl _ _) _).cell (cell_lt hHeld.2.2.1)).trans hHeld.2.2.1, ((below_alloc (Below.refl _ _) _).cell (cell_lt hHeld.2.2.2.1)).trans hHeld.2.2.2.1, ((below_alloc (Below.refl _ _) _).cell (cell_lt hHeld.2.2.2.2.1)).trans hHeld.2.2.2.2.1, ((below_alloc (Below.refl _ _) _).cell (cell_lt hHeld.2.2.2.2.2.1)).trans hHeld.2.2.2.2.2.1, ((below_alloc (Below.refl _ _) _).cell (cell_lt hHeld.2.2.2.2.2.2.1)).trans hHeld.2.2.2.2.2.2.1, ((below_alloc (Below.refl _ _) _).cell (cell_lt hHeld.2.2.2.2.2.2.2.1)).trans hHeld.2.2.2.2.2.2.2.1, ((below_alloc (Below.refl _ _) _).cell (cell_lt hHeld.2.2.2.2.2.2.2.2.1)).trans hHeld.2.2.2.2.2.2.2.2.1, ((below_alloc (Below.refl _ _) _).cell (cell_lt hHeld.2.2.2.2.2.2.2.2.2.1)).trans hHeld.2.2.2.2.2.2.2.2.2.1, below_step hHeld.2.2.2.2.2.2.2.2.2.2 (below_alloc (Below.refl _ _) _)⟩ (fun hHeld => ?_)
  clear hK K
  refine norm_ (a' := ?_) ?_ ?_
  rotate_left
  · show Act.put _ (some 33) _ = _
    simp only [Act.put, List.setIfInBounds_toArray, List.set_cons_zero, List.set_cons_succ, i64_w, i32_w]
    rfl
  refine pure_ (i := 4) (N := some 34) (v := ?_) (a' := ?_) #[true, true, true, true, true, true] rfl rfl (by kernel_rfl) (fun _ _ _ h => h) (Or.inl ⟨by rfl, ?_⟩) ?_ ?_
  rotate_left
  · intro w'
    go_simp
    with_reducible rfl
  rotate_left
  · simp only [Act.put, List.setIfInBounds_toArray, List.set_cons_zero, List.set_cons_succ, i64_w, i32_w]
    rfl
  refine done_ (by kernel_rfl) ?_

  have CB := Aside0.mk (C5.mk (hHeld.2.2.2.2.2.1) (hHeld.2.2.2.2.2.2.1) (hHeld.2.2.2.2.2.2.2.1) (hHeld.2.2.2.2.2.2.2.2.1) (hHeld.2.2.2.2.2.2.2.2.2.1))
  have BZ := Aside0.mk (hHeld.2.2.2.2.2.2.2.2.2.2)
  have RB := Aside0.mk (blk_new w5 (.cells #[.string s0, .int .i64 n0, .string k0, .string e0, .int .i64 p0, .string so, .int .i64 n, .string sk, .string se, .int .i64 p] 23))
  clear hHeld KA1 KB1 B1
  obtain ⟨gs, hgs⟩ : ∃ g, w5.heap.size = g := ⟨_, rfl⟩
  obtain ⟨V, hV⟩ : ∃ V, w5.alloc (.cells #[.string s0, .int .i64 n0, .string k0, .string e0, .int .i64 p0, .string so, .int .i64 n, .string sk, .string se, .int .i64 p] 23) = V := ⟨_, rfl⟩
  rw [hV] at CB BZ RB ⊢
  rw [hgs] at RB ⊢
  clear hV hgs
  go_wp2_with fail
  go_loopw [35] (fun vi wx => ∃ j : Nat, vi = .int .i64 (j : Int) ∧ j ≤ 2 ∧ Aside0 (wx.heap[gs]? = some (.cells #[.string s0, .int .i64 n0, .string k0, .string e0, .int .i64 p0, .string so, .int .i64 n, .string sk, .string se, .int .i64 p] 23 (0, 0))) ∧ Aside0 (C5 wx gb (.int .i64 a0) (.int .i64 a1) (.int .i64 a2) (.int .i64 a3) (.int .i64 a4)) ∧ Aside0 (Below w.heap.size w wx)) (fun vi _ => 2 - (intOf vi).toNat)
  case atStart => exact ⟨0, rfl, by omega, RB, CB, BZ⟩
  case round =>
    clear RB CB BZ
    obtain ⟨j, rfl, hj, RB, CB, BZ⟩ := hrel
    by_cases hlt : j < 2
    · have hrow : ∃ (s1 : ByteArray) (n1 : Int) (k1 e1 : ByteArray) (p1 : Int), wr.cell? ⟨gs, j * 5, none⟩ = some (.string s1) ∧ wr.cell? ⟨gs, j * 5 + 1, none⟩ = some (.int .i64 n1) ∧ wr.cell? ⟨gs, j * 5 + 2, none⟩ = some (.string k1) ∧ wr.cell? ⟨gs, j * 5 + 3, none⟩ = some (.string e1) ∧ wr.cell? ⟨gs, j * 5 + 4, none⟩ = some (.int .i64 p1) := by
        by_cases e : j = 0
        · subst e
          exact ⟨s0, n0, k0, e0, p0, (blk_cell RB.out 0).trans rfl, (blk_cell RB.out 1).trans rfl, (blk_cell RB.out 2).trans rfl, (blk_cell RB.out 3).trans rfl, (blk_cell RB.out 4).trans rfl⟩
        · obtain rfl : j = 1 := by omega
          exact ⟨so, n, sk, se, p, (blk_cell RB.out 5).trans rfl, (blk_cell RB.out 6).trans rfl, (blk_cell RB.out 7).trans rfl, (blk_cell RB.out 8).trans rfl, (blk_cell RB.out 9).trans rfl⟩
      obtain ⟨s1, n1, k1, e1, p1, q0, q1, q2, q3, q4⟩ := hrow
      have d2 : decide ((j : Int) < 2) = true := decide_eq_true (by omega)
      have l2 : (2 ≤ (j : Int)) = False := eq_false (by omega)
      have hw1 : wrap64 ((j : Int) + 1) = ((j + 1 : Nat) : Int) := by unfold wrap64; omega
      obtain ⟨X, c, hres⟩ := enc_res s1 k1 e1 n1 p1
      have HRES := Aside0.mk hres
      clear hres
      obtain ⟨R, hR⟩ : ∃ R, rightF s1 k1 e1 n1 p1 = R := ⟨_, rfl⟩
      have HRI := Aside0.mk (fun v => hR ▸ right_calls s1 k1 e1 n1 p1 v)
      have HRJ := Aside0.mk (fun v => hR ▸ refright_calls s1 k1 e1 n1 p1 v)
      clear hR
      go_wp2_with fail
      obtain ⟨gx, hgx⟩ : ∃ g, wr.heap.size = g := ⟨_, rfl⟩
      obtain ⟨V1, hV1⟩ : ∃ V, wr.alloc (.cells #[.string s1, .int .i64 n1, .string k1, .string e1, .int .i64 p1] 23) = V := ⟨_, rfl⟩
      have KX1 := Aside0.mk (show V1.heap[gx]? = some (.cells #[.string s1, .int .i64 n1, .string k1, .string e1, .int .i64 p1] 23 (0, 0)) by rw [← hV1, ← hgx]; exact blk_new wr _)
      have RB1 := Aside0.mk (show V1.heap[gs]? = some (.cells #[.string s0, .int .i64 n0, .string k0, .string e0, .int .i64 p0, .string so, .int .i64 n, .string sk, .string se, .int .i64 p] 23 (0, 0)) by rw [← hV1]; exact blk_alloc RB.out _)
      have CB1 := Aside0.mk (show C5 V1 gb (.int .i64 a0) (.int .i64 a1) (.int .i64 a2) (.int .i64 a3) (.int .i64 a4) by rw [← hV1]; exact CB.out.below (below_alloc (Below.refl _ _) _))
      have BZ1 := Aside0.mk (show Below w.heap.size w V1 by rw [← hV1]; exact below_alloc BZ.out _)
      rw [hV1, hgx]
      clear hV1 hgx q0 q1 q2 q3 q4 RB CB BZ
      refine (encode_calls s1 k1 e1 n1 p1 _ (HG.out.below BZ1.out)).mono ?_
      rintro e w6 ⟨rfl, b⟩
      rw [HRES.out]
      have KX6 := Aside0.mk (blk_below KX1.out b)
      have RB6 := Aside0.mk (blk_below RB1.out b)
      have CB6 := Aside0.mk (CB1.out.below b)
      have BZ6 := Aside0.mk (below_step BZ1.out b)
      clear b KX1 RB1 CB1 BZ1
      have y0 : w6.cell? ⟨gx, 0, none⟩ = some (.string s1) := (blk_cell KX6.out 0).trans rfl
      have y1 : w6.cell? ⟨gx, 1, none⟩ = some (.int .i64 n1) := (blk_cell KX6.out 1).trans rfl
      have y2 : w6.cell? ⟨gx, 2, none⟩ = some (.string k1) := (blk_cell KX6.out 2).trans rfl
      have y3 : w6.cell? ⟨gx, 3, none⟩ = some (.string e1) := (blk_cell KX6.out 3).trans rfl
      have y4 : w6.cell? ⟨gx, 4, none⟩ = some (.int .i64 p1) := (blk_cell KX6.out 4).trans rfl
      go_wp2_with fail
      refine (refencode_calls s1 k1 e1 n1 p1 _).mono ?_
      rintro e w7 ⟨rfl, b⟩
      rw [HRES.out]
      have KX7 := Aside0.mk (blk_below KX6.out b)
      have RB7 := Aside0.mk (blk_below RB6.out b)
      have CB7 := Aside0.mk (CB6.out.below b)
      have BZ7 := Aside0.mk (below_step BZ6.out b)
      clear b KX6 RB6 CB6 BZ6 y0 y1 y2 y3 y4
      have bX : (X.toList == X.toList) = true := beq_self_eq_true _
      have bc : (c != c) = false := bne_eq_false_iff_eq.2 rfl
      have bR : (R != R) = false := by cases R <;> rfl
      go_wp2_with fail
      refine start_ (n := 15) (S := fun w' => w'.cell? ⟨gx, 0, none⟩ = some (.string s1) ∧ w'.cell? ⟨gx, 1, none⟩ = some (.int .i64 n1) ∧ w'.cell? ⟨gx, 2, none⟩ = some (.string k1) ∧ w'.cell? ⟨gx, 3, none⟩ = some (.string e1) ∧ w'.cell? ⟨gx, 4, none⟩ = some (.int .i64 p1) ∧ w'.heap[gs]? = some (.cells #[.string s0, .int .i64 n0, .string k0, .string e0, .int .i64 p0, .string so, .int .i64 n, .string sk, .string se, .int .i64 p] 23 (0, 0)) ∧ C5 w' gb (.int .i64 a0) (.int .i64 a1) (.int .i64 a2) (.int .i64 a3) (.int .i64 a4) ∧ Below w.heap.size w w') (ds := []) #[false, false, false, false, false, false, false, false, false, false, false, false, false, false, false] (by kernel_rfl) rfl rfl ⟨(blk_cell KX7.out 0).trans rfl, (blk_cell KX7.out 1).trans rfl, (blk_cell KX7.out 2).trans rfl, (blk_cell KX7.out 3).trans rfl, (blk_cell KX7.out 4).trans rfl, RB7.out, (CB7.out.below (below_drew1 (Below.refl _ _))), (by apply below_drew1; exact BZ7.out)⟩ (fun hHeld => ?_)
      refine pure_ (i := 0) (N := some 49) (v := ?_) (a' := ?_) #[true, false, false, false, false, false, false, false, false, false, false, false, false, false, false] rfl rfl (by kernel_rfl) (fun _ _ _ h => h) (Or.inl ⟨by rfl, ?_⟩) ?_ ?_
      rotate_left
      · intro w'
        go_simp
        with_reducible rfl
      rotate_left
      · simp only [Act.put, List.setIfInBounds_toArray, List.set_cons_zero, List.set_cons_succ, i64_w, i32_w]
        rfl
      refine pure_ (i := 1) (N := some 50) (v := ?_) (a' := ?_) #[true, true, false, false, false, false, false, false, false, false, false, false, false, false, false] rfl rfl (by kernel_rfl) (fun _ _ _ h => h) (Or.inl ⟨by rfl, ?_⟩) ?_ ?_
      rotate_left
      · intro w'
        go_simp
        with_reducible rfl
      rotate_left
      · simp only [Act.put, List.setIfInBounds_toArray, List.set_cons_zero, List.set_cons_succ, i64_w, i32_w]
        rfl
      refine pure_ (i := 2) (N := some 51) (v := ?_) (a' := ?_) #[true, true, true, false, false, false, false, false, false, false, false, false, false, false, false] rfl rfl (by kernel_rfl) (fun _ _ _ h => h) (Or.inl ⟨by rfl, ?_⟩) ?_ ?_
      rotate_left
      · intro w'
        go_simp
        with_reducible rfl
      rotate_left
      · simp only [Act.put, List.setIfInBounds_toArray, List.set_cons_zero, List.set_cons_succ, i64_w, i32_w]
        rfl
      refine pure_ (i := 3) (N := some 52) (v := ?_) (a' := ?_) #[true, true, true, true, false, false, false, false, false, false, false, false, false, false, false] rfl rfl (by kernel_rfl) (fun _ _ _ h => h) (Or.inl ⟨by rfl, ?_⟩) ?_ ?_
      rotate_left
      · intro w'
        go_simp
        with_reducible rfl
      rotate_left
      · simp only [Act.put, List.setIfInBounds_toArray, List.set_cons_zero, List.set_cons_succ, i64_w, i32_w]
        rfl
      refine pure_ (i := 4) (N := some 53) (v := ?_) (a' := ?_) #[true, true, true, true, true, false, false, false, false, false, false, false, false, false, false] rfl rfl (by kernel_rfl) (fun _ _ _ h => h) (Or.inl ⟨by rfl, ?_⟩) ?_ ?_
      rotate_left
      · intro w'
        go_simp
        with_reducible rfl
      rotate_left
      · simp only [Act.put, List.setIfInBounds_toArray, List.set_cons_zero, List.set_cons_succ, i64_w, i32_w]
        rfl
      refine pure_ (i := 5) (N := some 54) (v := ?_) (a' := ?_) #[true, true, true, true, true, true, false, false, false, false, false, false, false, false, false] rfl rfl (by kernel_rfl) (fun _ _ _ h => h) (Or.inl ⟨by rfl, ?_⟩) ?_ ?_
      rotate_left
      · intro w'
        go_simp
        with_reducible rfl
      rotate_left
      · simp only [Act.put, List.setIfInBounds_toArray, List.set_cons_zero, List.set_cons_succ, i64_w, i32_w]
        rfl
      refine pure_ (i := 6) (N := some 55) (v := ?_) (a' := ?_) #[true, true, true, true, true, true, true, false, false, false, false, false, false, false, false] rfl rfl (by kernel_rfl) (fun _ _ _ h => h) (Or.inl ⟨by rfl, ?_⟩) ?_ ?_
      rotate_left
      · intro w'
        go_simp
        with_reducible rfl
      rotate_left
      · simp only [Act.put, List.setIfInBounds_toArray, List.set_cons_zero, List.set_cons_succ, i64_w, i32_w]
        rfl
      refine pure_ (i := 7) (N := some 56) (v := ?_) (a' := ?_) #[true, true, true, true, true, true, true, true, false, false, false, false, false, false, false] rfl rfl (by kernel_rfl) (fun _ _ _ h => h) (Or.inl ⟨by rfl, ?_⟩) ?_ ?_
      rotate_left
      · intro w'
        go_simp
        with_reducible rfl
      rotate_left
      · simp only [Act.put, List.setIfInBounds_toArray, List.set_cons_zero, List.set_cons_succ, i64_w, i32_w]
        rfl
      refine pure_ (i := 8) (N := some 57) (v := ?_) (a' := ?_) #[true, true, true, true, true, true, true, true, true, false, false, false, false, false, false] rfl rfl (by kernel_rfl) (fun _ _ _ h => h) (Or.inl ⟨by rfl, ?_⟩) ?_ ?_
      rotate_left
      · intro w'
        go_simp
        with_reducible rfl
      rotate_left
      · simp only [Act.put, List.setIfInBounds_toArray, List.set_cons_zero, List.set_cons_succ, i64_w, i32_w]
        rfl
      refine take_ (i := 9) (N := some 58) (v := ?_) (a' := ?_) #[true, true, true, true, true, true, true, true, true, true, false, false, false, false, false] rfl rfl (by kernel_rfl) (fun _ _ _ h => h) (Or.inl ⟨by rfl, ?_⟩) hHeld ?_ ?_
      rotate_left
      · rintro w' ⟨s0, s1, s2, s3, s4, s5, s6, s7⟩
        go_simp
        with_reducible rfl
      rotate_left
      · simp only [Act.put, List.setIfInBounds_toArray, List.set_cons_zero, List.set_cons_succ, i64_w, i32_w]
        rfl
      refine take_ (i := 11) (N := some 60) (v := ?_) (a' := ?_) #[true, true, true, true, true, true, true, true, true, true, false, true, false, false, false] rfl rfl (by kernel_rfl) (fun _ _ _ h => h) (Or.inl ⟨by rfl, ?_⟩) hHeld ?_ ?_
      rotate_left
      · rintro w' ⟨s0, s1, s2, s3, s4, s5, s6, s7⟩
        go_simp
        with_reducible rfl
      rotate_left
      · simp only [Act.put, List.setIfInBounds_toArray, List.set_cons_zero, List.set_cons_succ, i64_w, i32_w]
        rfl
      refine one_ (i := 10) (N := some 59) #[true, true, true, true, true, true, true, true, true, true, true, true, false, false, false] rfl rfl (by kernel_rfl) (by decide) (fun K hK => ?_)
      refine goes_ Tryz.func8 (by kernel_rfl) rfl #[.agg #[.string s1, .int .i64 n1, .string k1, .string e1, .int .i64 p1]] (by rfl) rfl rfl (by simp only [List.map_toArray, List.map_cons, List.map_nil]; rfl) ?_
      with_reducible refine (HRI.out _).mono ?_
      rintro e w8 ⟨rfl, hb3⟩
      refine ⟨_, rfl, ?_⟩
      refine hK.out _ _ ⟨(hb3.cell (cell_lt hHeld.1)).trans hHeld.1, (hb3.cell (cell_lt hHeld.2.1)).trans hHeld.2.1, (hb3.cell (cell_lt hHeld.2.2.1)).trans hHeld.2.2.1, (hb3.cell (cell_lt hHeld.2.2.2.1)).trans hHeld.2.2.2.1, (hb3.cell (cell_lt hHeld.2.2.2.2.1)).trans hHeld.2.2.2.2.1, blk_below hHeld.2.2.2.2.2.1 hb3, hHeld.2.2.2.2.2.2.1.below hb3, below_step hHeld.2.2.2.2.2.2.2 hb3⟩ (fun hHeld => ?_)
      clear hK K
      refine norm_ (a' := ?_) ?_ ?_
      rotate_left
      · show Act.put _ (some 59) _ = _
        simp only [Act.put, List.setIfInBounds_toArray, List.set_cons_zero, List.set_cons_succ, i64_w, i32_w]
        rfl
      refine one_ (i := 12) (N := some 61) #[true, true, true, true, true, true, true, true, true, true, true, true, true, false, false] rfl rfl (by kernel_rfl) (by decide) (fun K hK => ?_)
      refine goes_ Tryz.func9 (by kernel_rfl) rfl #[.agg #[.string s1, .int .i64 n1, .string k1, .string e1, .int .i64 p1]] (by rfl) rfl rfl (by simp only [List.map_toArray, List.map_cons, List.map_nil]; rfl) ?_
      with_reducible refine (HRJ.out _).mono ?_
      rintro e w9 ⟨rfl, hb4⟩
      refine ⟨_, rfl, ?_⟩
      refine hK.out _ _ ⟨(hb4.cell (cell_lt hHeld.1)).trans hHeld.1, (hb4.cell (cell_lt hHeld.2.1)).trans hHeld.2.1, (hb4.cell (cell_lt hHeld.2.2.1)).trans hHeld.2.2.1, (hb4.cell (cell_lt hHeld.2.2.2.1)).trans hHeld.2.2.2.1, (hb4.cell (cell_lt hHeld.2.2.2.2.1)).trans hHeld.2.2.2.2.1, blk_below hHeld.2.2.2.2.2.1 hb4, hHeld.2.2.2.2.2.2.1.below hb4, below_step hHeld.2.2.2.2.2.2.2 hb4⟩ (fun hHeld => ?_)
      clear hK K
      refine norm_ (a' := ?_) ?_ ?_
      rotate_left
      · show Act.put _ (some 61) _ = _
        simp only [Act.put, List.setIfInBounds_toArray, List.set_cons_zero, List.set_cons_succ, i64_w, i32_w]
        rfl
      refine pure_ (i := 13) (N := some 62) (v := ?_) (a' := ?_) #[true, true, true, true, true, true, true, true, true, true, true, true, true, true, false] rfl rfl (by kernel_rfl) (fun _ _ _ h => h) (Or.inl ⟨by rfl, ?_⟩) ?_ ?_
      rotate_left
      · intro w'
        go_simp
        with_reducible rfl
      rotate_left
      · simp only [Act.put, List.setIfInBounds_toArray, List.set_cons_zero, List.set_cons_succ, i64_w, i32_w]
        rfl
      refine pure_ (i := 14) (N := some 63) (v := ?_) (a' := ?_) #[true, true, true, true, true, true, true, true, true, true, true, true, true, true, true] rfl rfl (by kernel_rfl) (fun _ _ _ h => h) (Or.inl ⟨by rfl, ?_⟩) ?_ ?_
      rotate_left
      · intro w'
        go_simp
        with_reducible rfl
      rotate_left
      · simp only [Act.put, List.setIfInBounds_toArray, List.set_cons_zero, List.set_cons_succ, i64_w, i32_w]
        rfl
      refine done_ (by kernel_rfl) ?_

      have RB9 := Aside0.mk (hHeld.2.2.2.2.2.1)
      have CB9 := Aside0.mk (hHeld.2.2.2.2.2.2.1)
      have BZ9 := Aside0.mk (hHeld.2.2.2.2.2.2.2)
      clear hHeld KX7 RB7 CB7 BZ7 bX bc bR
      go_wp2_with fail
      go_roundw
      case rel => exact ⟨j + 1, by first | rfl | (push_cast; rfl), by omega, RB9, CB9, BZ9⟩
      case measure => simp [intOf]; omega
    · obtain rfl : j = 2 := by omega
      have y0 := CB.out.c0
      have y1 := CB.out.c1
      have y2 := CB.out.c2
      have y3 := CB.out.c3
      have y4 := CB.out.c4
      go_wp2_with fail
      refine (LA.out _).mono ?_
      rintro e w6 ⟨rfl, b⟩
      have B6 := Aside0.mk (below_step BZ.out b)
      clear b y0 y1 y2 y3 y4 RB CB BZ
      go_wp2_with fail
      refine (refencode_calls so sk se n p _).mono ?_
      rintro e w7 ⟨rfl, b⟩
      rw [if_pos (show rightF so sk se n p = true from HX.out), HT.out]
      have B7 := Aside0.mk (below_step B6.out b)
      clear b B6
      go_wp2_with fail
      (try rw [HWT.out])
      refine (PA.out _).mono ?_
      rintro e w8 ⟨rfl, rfl⟩
      rw [HK.out]
      clear PA
      have hKT : K ≤ T.size := by omega
      obtain ⟨J, hJ, hJl⟩ : ∃ J : Nat, min ((K : Int) + (more.size : Int)) (T.size : Int) = (J : Int) ∧ J ≤ T.size := ⟨(min ((K : Int) + (more.size : Int)) (T.size : Int)).toNat, by omega, by omega⟩
      have wK : wrap64 ((K : Int) + (more.size : Int)) = (K : Int) + (more.size : Int) := by unfold wrap64; omega
      have j1 : (if (T.size : Int) < (K : Int) + (more.size : Int) then (T.size : Int) else (K : Int) + (more.size : Int)) = (J : Int) := by split <;> omega
      obtain ⟨P, hP⟩ : ∃ P, T.extract 0 K = P := ⟨_, rfl⟩
      obtain ⟨E1, hE1⟩ : ∃ P, T.extract J T.size = P := ⟨_, rfl⟩
      obtain ⟨E2, hE2⟩ : ∃ P, T.extract K T.size = P := ⟨_, rfl⟩
      have z0 : P.size ≤ 100 := by rw [← hP, ByteArray.size_extract]; omega
      have z1 : E1.size ≤ 100 := by rw [← hE1, ByteArray.size_extract]; omega
      have z2 : E2.size ≤ 100 := by rw [← hE2, ByteArray.size_extract]; omega
      have k1 : ((K : Int) ≤ (T.size : Int)) = True := eq_true (by omega)
      have k2 : ((J : Int) ≤ (T.size : Int)) = True := eq_true (by omega)
      have k1' : ((T.size : Int) < (K : Int)) = False := eq_false (by omega)
      have k2' : ((T.size : Int) < (J : Int)) = False := eq_false (by omega)
      have q1 : (9223372036854775807 < P.size + more.size) = False := eq_false (by omega)
      have q2 : (9223372036854775807 < P.size + more.size + E1.size) = False := eq_false (by omega)
      have q3 : (9223372036854775807 < P.size + more.size + E2.size) = False := eq_false (by omega)
      clear hJ hJl hKT hKl z0 z1 z2
      go_wp2_with fail
      obtain ⟨X1, hX1⟩ : ∃ x, P ++ more ++ E1 = x := ⟨_, rfl⟩
      obtain ⟨X2, hX2⟩ : ∃ x, P ++ more ++ E2 = x := ⟨_, rfl⟩
      refine start_ (n := 32) (S := fun w' => Below w.heap.size w w') (ds := []) #[false, false, false, false, false, false, false, false, false, false, false, false, false, false, false, false, false, false, false, false, false, false, false, false, false, false, false, false, false, false, false, false] (by kernel_rfl) rfl rfl ((by apply below_drew1; exact B7.out)) (fun hHeld => ?_)
      refine pure_ (i := 0) (N := some 76) (v := ?_) (a' := ?_) #[true, false, false, false, false, false, false, false, false, false, false, false, false, false, false, false, false, false, false, false, false, false, false, false, false, false, false, false, false, false, false, false] rfl rfl (by kernel_rfl) (fun _ _ _ h => h) (Or.inl ⟨by rfl, ?_⟩) ?_ ?_
      rotate_left
      · intro w'
        go_simp
        with_reducible rfl
      rotate_left
      · simp only [Act.put, List.setIfInBounds_toArray, List.set_cons_zero, List.set_cons_succ, i64_w, i32_w]
        rfl
      refine pure_ (i := 1) (N := some 77) (v := ?_) (a' := ?_) #[true, true, false, false, false, false, false, false, false, false, false, false, false, false, false, false, false, false, false, false, false, false, false, false, false, false, false, false, false, false, false, false] rfl rfl (by kernel_rfl) (fun _ _ _ h => h) (Or.inl ⟨by rfl, ?_⟩) ?_ ?_
      rotate_left
      · intro w'
        go_simp
        with_reducible rfl
      rotate_left
      · simp only [Act.put, List.setIfInBounds_toArray, List.set_cons_zero, List.set_cons_succ, i64_w, i32_w]
        rfl
      refine pure_ (i := 2) (N := some 78) (v := ?_) (a' := ?_) #[true, true, true, false, false, false, false, false, false, false, false, false, false, false, false, false, false, false, false, false, false, false, false, false, false, false, false, false, false, false, false, false] rfl rfl (by kernel_rfl) (fun _ _ _ h => h) (Or.inl ⟨by rfl, ?_⟩) ?_ ?_
      rotate_left
      · intro w'
        go_simp
        with_reducible rfl
      rotate_left
      · simp only [Act.put, List.setIfInBounds_toArray, List.set_cons_zero, List.set_cons_succ, i64_w, i32_w]
        rfl
      refine pure_ (i := 3) (N := some 79) (v := ?_) (a' := ?_) #[true, true, true, true, false, false, false, false, false, false, false, false, false, false, false, false, false, false, false, false, false, false, false, false, false, false, false, false, false, false, false, false] rfl rfl (by kernel_rfl) (fun _ _ _ h => h) (Or.inl ⟨by rfl, ?_⟩) ?_ ?_
      rotate_left
      · intro w'
        go_simp
        with_reducible rfl
      rotate_left
      · simp only [Act.put, List.setIfInBounds_toArray, List.set_cons_zero, List.set_cons_succ, i64_w, i32_w]
        rfl
      refine pure_ (i := 4) (N := some 80) (v := ?_) (a' := ?_) #[true, true, true, true, true, false, false, false, false, false, false, false, false, false, false, false, false, false, false, false, false, false, false, false, false, false, false, false, false, false, false, false] rfl rfl (by kernel_rfl) (fun _ _ _ h => h) (Or.inl ⟨by rfl, ?_⟩) ?_ ?_
      rotate_left
      · intro w'
        go_simp
        with_reducible rfl
      rotate_left
      · simp only [Act.put, List.setIfInBounds_toArray, List.set_cons_zero, List.set_cons_succ, i64_w, i32_w]
        rfl
      refine pure_ (i := 5) (N := some 81) (v := ?_) (a' := ?_) #[true, true, true, true, true, true, false, false, false, false, false, false, false, false, false, false, false, false, false, false, false, false, false, false, false, false, false, false, false, false, false, false] rfl rfl (by kernel_rfl) (fun _ _ _ h => h) (Or.inl ⟨by rfl, ?_⟩) ?_ ?_
      rotate_left
      · intro w'
        go_simp
        with_reducible rfl
      rotate_left
      · simp only [Act.put, List.setIfInBounds_toArray, List.set_cons_zero, List.set_cons_succ, i64_w, i32_w]
        rfl
      refine pure_ (i := 6) (N := some 82) (v := ?_) (a' := ?_) #[true, true, true, true, true, true, true, false, false, false, false, false, false, false, false, false, false, false, false, false, false, false, false, false, false, false, false, false, false, false, false, false] rfl rfl (by kernel_rfl) (fun _ _ _ h => h) (Or.inl ⟨by rfl, ?_⟩) ?_ ?_
      rotate_left
      · intro w'
        go_simp
        with_reducible rfl
      rotate_left
      · simp only [Act.put, List.setIfInBounds_toArray, List.set_cons_zero, List.set_cons_succ, i64_w, i32_w]
        rfl
      refine pure_ (i := 7) (N := some 83) (v := ?_) (a' := ?_) #[true, true, true, true, true, true, true, true, false, false, false, false, false, false, false, false, false, false, false, false, false, false, false, false, false, false, false, false, false, false, false, false] rfl rfl (by kernel_rfl) (fun _ _ _ h => h) (Or.inl ⟨by rfl, ?_⟩) ?_ ?_
      rotate_left
      · intro w'
        go_simp
        with_reducible rfl
      rotate_left
      · simp only [Act.put, List.setIfInBounds_toArray, List.set_cons_zero, List.set_cons_succ, i64_w, i32_w]
        rfl
      refine pure_ (i := 8) (N := some 84) (v := ?_) (a' := ?_) #[true, true, true, true, true, true, true, true, true, false, false, false, false, false, false, false, false, false, false, false, false, false, false, false, false, false, false, false, false, false, false, false] rfl rfl (by kernel_rfl) (fun _ _ _ h => h) (Or.inl ⟨by rfl, ?_⟩) ?_ ?_
      rotate_left
      · intro w'
        go_simp
        with_reducible rfl
      rotate_left
      · simp only [Act.put, List.setIfInBounds_toArray, List.set_cons_zero, List.set_cons_succ, i64_w, i32_w]
        rfl
      refine pure_ (i := 9) (N := some 85) (v := ?_) (a' := ?_) #[true, true, true, true, true, true, true, true, true, true, false, false, false, false, false, false, false, false, false, false, false, false, false, false, false, false, false, false, false, false, false, false] rfl rfl (by kernel_rfl) (fun _ _ _ h => h) (Or.inl ⟨by rfl, ?_⟩) ?_ ?_
      rotate_left
      · intro w'
        go_simp
        with_reducible rfl
      rotate_left
      · simp only [Act.put, List.setIfInBounds_toArray, List.set_cons_zero, List.set_cons_succ, i64_w, i32_w]
        rfl
      refine pure_ (i := 10) (N := some 86) (v := ?_) (a' := ?_) #[true, true, true, true, true, true, true, true, true, true, true, false, false, false, false, false, false, false, false, false, false, false, false, false, false, false, false, false, false, false, false, false] rfl rfl (by kernel_rfl) (fun _ _ _ h => h) (Or.inl ⟨by rfl, ?_⟩) ?_ ?_
      rotate_left
      · intro w'
        go_simp
        with_reducible rfl
      rotate_left
      · simp only [Act.put, List.setIfInBounds_toArray, List.set_cons_zero, List.set_cons_succ, i64_w, i32_w]
        rfl
      refine pure_ (i := 11) (N := some 87) (v := ?_) (a' := ?_) #[true, true, true, true, true, true, true, true, true, true, true, true, false, false, false, false, false, false, false, false, false, false, false, false, false, false, false, false, false, false, false, false] rfl rfl (by kernel_rfl) (fun _ _ _ h => h) (Or.inl ⟨by rfl, ?_⟩) ?_ ?_
      rotate_left
      · intro w'
        go_simp
        with_reducible rfl
      rotate_left
      · simp only [Act.put, List.setIfInBounds_toArray, List.set_cons_zero, List.set_cons_succ, i64_w, i32_w]
        rfl
      refine pure_ (i := 12) (N := some 88) (v := ?_) (a' := ?_) #[true, true, true, true, true, true, true, true, true, true, true, true, true, false, false, false, false, false, false, false, false, false, false, false, false, false, false, false, false, false, false, false] rfl rfl (by kernel_rfl) (fun _ _ _ h => h) (Or.inl ⟨by rfl, ?_⟩) ?_ ?_
      rotate_left
      · intro w'
        go_simp
        with_reducible rfl
      rotate_left
      · simp only [Act.put, List.setIfInBounds_toArray, List.set_cons_zero, List.set_cons_succ, i64_w, i32_w]
        rfl
      refine pure_ (i := 13) (N := some 89) (v := ?_) (a' := ?_) #[true, true, true, true, true, true, true, true, true, true, true, true, true, true, false, false, false, false, false, false, false, false, false, false, false, false, false, false, false, false, false, false] rfl rfl (by kernel_rfl) (fun _ _ _ h => h) (Or.inl ⟨by rfl, ?_⟩) ?_ ?_
      rotate_left
      · intro w'
        go_simp
        with_reducible rfl
      rotate_left
      · simp only [Act.put, List.setIfInBounds_toArray, List.set_cons_zero, List.set_cons_succ, i64_w, i32_w]
        rfl
      refine pure_ (i := 14) (N := some 90) (v := ?_) (a' := ?_) #[true, true, true, true, true, true, true, true, true, true, true, true, true, true, true, false, false, false, false, false, false, false, false, false, false, false, false, false, false, false, false, false] rfl rfl (by kernel_rfl) (fun _ _ _ h => h) (Or.inl ⟨by rfl, ?_⟩) ?_ ?_
      rotate_left
      · intro w'
        go_simp
        with_reducible rfl
      rotate_left
      · simp only [Act.put, List.setIfInBounds_toArray, List.set_cons_zero, List.set_cons_succ, i64_w, i32_w]
        rfl
      refine pure_ (i := 15) (N := some 91) (v := ?_) (a' := ?_) #[true, true, true, true, true, true, true, true, true, true, true, true, true, true, true, true, false, false, false, false, false, false, false, false, false, false, false, false, false, false, false, false] rfl rfl (by kernel_rfl) (fun _ _ _ h => h) (Or.inl ⟨by rfl, ?_⟩) ?_ ?_
      rotate_left
      · intro w'
        go_simp
        with_reducible rfl
      rotate_left
      · simp only [Act.put, List.setIfInBounds_toArray, List.set_cons_zero, List.set_cons_succ, i64_w, i32_w]
        rfl
      refine pure_ (i := 16) (N := some 92) (v := ?_) (a' := ?_) #[true, true, true, true, true, true, true, true, true, true, true, true, true, true, true, true, true, false, false, false, false, false, false, false, false, false, false, false, false, false, false, false] rfl rfl (by kernel_rfl) (fun _ _ _ h => h) (Or.inl ⟨by rfl, ?_⟩) ?_ ?_
      rotate_left
      · intro w'
        go_simp
        with_reducible rfl
      rotate_left
      · simp only [Act.put, List.setIfInBounds_toArray, List.set_cons_zero, List.set_cons_succ, i64_w, i32_w]
        rfl
      refine pure_ (i := 17) (N := some 93) (v := ?_) (a' := ?_) #[true, true, true, true, true, true, true, true, true, true, true, true, true, true, true, true, true, true, false, false, false, false, false, false, false, false, false, false, false, false, false, false] rfl rfl (by kernel_rfl) (fun _ _ _ h => h) (Or.inl ⟨by rfl, ?_⟩) ?_ ?_
      rotate_left
      · intro w'
        go_simp
        with_reducible rfl
      rotate_left
      · simp only [Act.put, List.setIfInBounds_toArray, List.set_cons_zero, List.set_cons_succ, i64_w, i32_w]
        rfl
      refine pure_ (i := 18) (N := some 94) (v := ?_) (a' := ?_) #[true, true, true, true, true, true, true, true, true, true, true, true, true, true, true, true, true, true, true, false, false, false, false, false, false, false, false, false, false, false, false, false] rfl rfl (by kernel_rfl) (fun _ _ _ h => h) (Or.inl ⟨by rfl, ?_⟩) ?_ ?_
      rotate_left
      · intro w'
        go_simp
        with_reducible rfl
      rotate_left
      · simp only [Act.put, List.setIfInBounds_toArray, List.set_cons_zero, List.set_cons_succ, i64_w, i32_w]
        rfl
      refine pure_ (i := 19) (N := some 95) (v := ?_) (a' := ?_) #[true, true, true, true, true, true, true, true, true, true, true, true, true, true, true, true, true, true, true, true, false, false, false, false, false, false, false, false, false, false, false, false] rfl rfl (by kernel_rfl) (fun _ _ _ h => h) (Or.inl ⟨by rfl, ?_⟩) ?_ ?_
      rotate_left
      · intro w'
        go_simp
        with_reducible rfl
      rotate_left
      · simp only [Act.put, List.setIfInBounds_toArray, List.set_cons_zero, List.set_cons_succ, i64_w, i32_w]
        rfl
      refine pure_ (i := 20) (N := some 96) (v := ?_) (a' := ?_) #[true, true, true, true, true, true, true, true, true, true, true, true, true, true, true, true, true, true, true, true, true, false, false, false, false, false, false, false, false, false, false, false] rfl rfl (by kernel_rfl) (fun _ _ _ h => h) (Or.inl ⟨by rfl, ?_⟩) ?_ ?_
      rotate_left
      · intro w'
        go_simp
        with_reducible rfl
      rotate_left
      · simp only [Act.put, List.setIfInBounds_toArray, List.set_cons_zero, List.set_cons_succ, i64_w, i32_w]
        rfl
      refine pure_ (i := 21) (N := some 97) (v := ?_) (a' := ?_) #[true, true, true, true, true, true, true, true, true, true, true, true, true, true, true, true, true, true, true, true, true, true, false, false, false, false, false, false, false, false, false, false] rfl rfl (by kernel_rfl) (fun _ _ _ h => h) (Or.inl ⟨by rfl, ?_⟩) ?_ ?_
      rotate_left
      · intro w'
        go_simp
        with_reducible rfl
      rotate_left
      · simp only [Act.put, List.setIfInBounds_toArray, List.set_cons_zero, List.set_cons_succ, i64_w, i32_w]
        rfl
      refine pure_ (i := 22) (N := some 98) (v := ?_) (a' := ?_) #[true, true, true, true, true, true, true, true, true, true, true, true, true, true, true, true, true, true, true, true, true, true, true, false, false, false, false, false, false, false, false, false] rfl rfl (by kernel_rfl) (fun _ _ _ h => h) (Or.inl ⟨by rfl, ?_⟩) ?_ ?_
      rotate_left
      · intro w'
        go_simp
        with_reducible rfl
      rotate_left
      · simp only [Act.put, List.setIfInBounds_toArray, List.set_cons_zero, List.set_cons_succ, i64_w, i32_w]
        rfl
      refine pure_ (i := 23) (N := some 99) (v := ?_) (a' := ?_) #[true, true, true, true, true, true, true, true, true, true, true, true, true, true, true, true, true, true, true, true, true, true, true, true, false, false, false, false, false, false, false, false] rfl rfl (by kernel_rfl) (fun _ _ _ h => h) (Or.inl ⟨by rfl, ?_⟩) ?_ ?_
      rotate_left
      · intro w'
        go_simp
        with_reducible rfl
      rotate_left
      · simp only [Act.put, List.setIfInBounds_toArray, List.set_cons_zero, List.set_cons_succ, i64_w, i32_w]
        rfl
      refine pure_ (i := 24) (N := some 100) (v := ?_) (a' := ?_) #[true, true, true, true, true, true, true, true, true, true, true, true, true, true, true, true, true, true, true, true, true, true, true, true, true, false, false, false, false, false, false, false] rfl rfl (by kernel_rfl) (fun _ _ _ h => h) (Or.inl ⟨by rfl, ?_⟩) ?_ ?_
      rotate_left
      · intro w'
        go_simp
        with_reducible rfl
      rotate_left
      · simp only [Act.put, List.setIfInBounds_toArray, List.set_cons_zero, List.set_cons_succ, i64_w, i32_w]
        rfl
      refine pure_ (i := 25) (N := some 101) (v := ?_) (a' := ?_) #[true, true, true, true, true, true, true, true, true, true, true, true, true, true, true, true, true, true, true, true, true, true, true, true, true, true, false, false, false, false, false, false] rfl rfl (by kernel_rfl) (fun _ _ _ h => h) (Or.inl ⟨by rfl, ?_⟩) ?_ ?_
      rotate_left
      · intro w'
        go_simp
        with_reducible rfl
      rotate_left
      · simp only [Act.put, List.setIfInBounds_toArray, List.set_cons_zero, List.set_cons_succ, i64_w, i32_w]
        rfl
      refine pure_ (i := 26) (N := some 102) (v := ?_) (a' := ?_) #[true, true, true, true, true, true, true, true, true, true, true, true, true, true, true, true, true, true, true, true, true, true, true, true, true, true, true, false, false, false, false, false] rfl rfl (by kernel_rfl) (fun _ _ _ h => h) (Or.inl ⟨by rfl, ?_⟩) ?_ ?_
      rotate_left
      · intro w'
        go_simp
        with_reducible rfl
      rotate_left
      · simp only [Act.put, List.setIfInBounds_toArray, List.set_cons_zero, List.set_cons_succ, i64_w, i32_w]
        rfl
      refine pure_ (i := 27) (N := some 103) (v := ?_) (a' := ?_) #[true, true, true, true, true, true, true, true, true, true, true, true, true, true, true, true, true, true, true, true, true, true, true, true, true, true, true, true, false, false, false, false] rfl rfl (by kernel_rfl) (fun _ _ _ h => h) (Or.inl ⟨by rfl, ?_⟩) ?_ ?_
      rotate_left
      · intro w'
        go_simp
        with_reducible rfl
      rotate_left
      · simp only [Act.put, List.setIfInBounds_toArray, List.set_cons_zero, List.set_cons_succ, i64_w, i32_w]
        rfl
      refine pure_ (i := 28) (N := some 104) (v := ?_) (a' := ?_) #[true, true, true, true, true, true, true, true, true, true, true, true, true, true, true, true, true, true, true, true, true, true, true, true, true, true, true, true, true, false, false, false] rfl rfl (by kernel_rfl) (fun _ _ _ h => h) (Or.inl ⟨by rfl, ?_⟩) ?_ ?_
      rotate_left
      · intro w'
        go_simp
        with_reducible rfl
      rotate_left
      · simp only [Act.put, List.setIfInBounds_toArray, List.set_cons_zero, List.set_cons_succ, i64_w, i32_w]
        rfl
      refine pure_ (i := 31) (N := some 107) (v := ?_) (a' := ?_) #[true, true, true, true, true, true, true, true, true, true, true, true, true, true, true, true, true, true, true, true, true, true, true, true, true, true, true, true, true, false, false, true] rfl rfl (by kernel_rfl) (fun _ _ _ h => h) (Or.inl ⟨by rfl, ?_⟩) ?_ ?_
      rotate_left
      · intro w'
        go_simp
        with_reducible rfl
      rotate_left
      · simp only [Act.put, List.setIfInBounds_toArray, List.set_cons_zero, List.set_cons_succ, i64_w, i32_w]
        rfl
      refine one_ (i := 29) (N := some 105) #[true, true, true, true, true, true, true, true, true, true, true, true, true, true, true, true, true, true, true, true, true, true, true, true, true, true, true, true, true, true, false, true] rfl rfl (by kernel_rfl) (by decide) (fun K hK => ?_)
      refine value_ (w1 := ?_) (v := ?_) (by rfl) rfl ?_ ?_
      rotate_left 2
      · go_simp
        constructor
        · rfl
        · rfl
      refine hK.out _ _ (below_step hHeld (below_alloc (Below.refl _ _) _)) (fun hHeld => ?_)
      clear hK K
      refine norm_ (a' := ?_) ?_ ?_
      rotate_left
      · show Act.put _ (some 105) _ = _
        simp only [Act.put, List.setIfInBounds_toArray, List.set_cons_zero, List.set_cons_succ, i64_w, i32_w]
        rfl
      refine pure_ (i := 30) (N := some 106) (v := ?_) (a' := ?_) #[true, true, true, true, true, true, true, true, true, true, true, true, true, true, true, true, true, true, true, true, true, true, true, true, true, true, true, true, true, true, true, true] rfl rfl (by kernel_rfl) (fun _ _ _ h => h) (Or.inl ⟨by rfl, ?_⟩) ?_ ?_
      rotate_left
      · intro w'
        go_simp
        with_reducible rfl
      rotate_left
      · simp only [Act.put, List.setIfInBounds_toArray, List.set_cons_zero, List.set_cons_succ, i64_w, i32_w]
        rfl
      refine done_ (by kernel_rfl) ?_

      (try rw [hX1] at hHeld); (try rw [hX2] at hHeld); (try rw [hX1]); (try rw [hX2])
      have RB := Aside0.mk (show (w7.alloc (.cells #[.string s, .string T, .string X1, .string X2, .string P] 9)).drew.heap[w7.heap.size]? = some (.cells #[.string s, .string T, .string X1, .string X2, .string P] 9 (0, 0)) from blk_new w7 _)
      have BH := Aside0.mk hHeld
      clear hHeld
      obtain ⟨V, hV⟩ : ∃ V, (w7.alloc (.cells #[.string s, .string T, .string X1, .string X2, .string P] 9)).drew = V := ⟨_, rfl⟩
      obtain ⟨gr, hgr⟩ : ∃ g, w7.heap.size = g := ⟨_, rfl⟩
      rw [hV] at RB BH ⊢
      rw [hgr] at RB ⊢
      clear hV hgr
      clear hX1 hX2 hP hE1 hE2 wK j1 k1 k2 k1' k2' q1 q2 q3
      go_wp2_with fail
      go_loopw [107] (fun vi wx => ∃ i : Nat, vi = .int .i64 (i : Int) ∧ i ≤ 5 ∧ Aside0 (wx.heap[gr]? = some (.cells #[.string s, .string T, .string X1, .string X2, .string P] 9 (0, 0))) ∧ Aside0 (Below w.heap.size w wx)) (fun vi _ => 5 - (intOf vi).toNat)
      case atStart => exact ⟨0, rfl, by omega, RB, BH⟩
      case round =>
        clear RB BH
        obtain ⟨i, rfl, hi, RB, BH⟩ := hrel
        by_cases hlt : i < 5
        · obtain ⟨x, hx⟩ : ∃ x, FeedDe.nth [s, T, X1, X2, P] i = x := ⟨_, rfl⟩
          have cx := (blk_cell RB.out i).trans (str5 s T X1 X2 P i hlt)
          rw [hx] at cx
          have d5 : decide ((i : Int) < 5) = true := decide_eq_true (by omega)
          have l5 : (5 ≤ (i : Int)) = False := eq_false (by omega)
          have hw1 : wrap64 ((i : Int) + 1) = ((i + 1 : Nat) : Int) := by unfold wrap64; omega
          have D1 := decode_calls x wr (HG.out.below BH.out)
          have D2 := fun v => refdecode_calls x v
          rcases hD : decodeN x with ⟨⟨s2, n2, k2, e2, p2⟩, c2, f2⟩
          rw [hD] at D1
          simp only [hD] at D2
          simp only at D1
          have HD1 := Aside0.mk D1
          have HD2 := Aside0.mk D2
          clear D1 D2 hD hx
          go_wp2_with fail
          refine HD1.out.mono ?_
          rintro e w9 ⟨rfl, b⟩
          have R9 := Aside0.mk (blk_below RB.out b)
          have B9 := Aside0.mk (below_step BH.out b)
          clear b cx RB BH HD1
          go_wp2_with fail
          obtain ⟨g1, hg1⟩ : ∃ g, w9.heap.size = g := ⟨_, rfl⟩
          obtain ⟨V9, hV9⟩ : ∃ V, w9.alloc (.cells #[.string s2, .int .i64 n2, .string k2, .string e2, .int .i64 p2] 23) = V := ⟨_, rfl⟩
          have KD := Aside0.mk (show V9.heap[g1]? = some (.cells #[.string s2, .int .i64 n2, .string k2, .string e2, .int .i64 p2] 23 (0, 0)) by rw [← hV9, ← hg1]; exact blk_new w9 _)
          have R10 := Aside0.mk (show V9.heap[gr]? = some (.cells #[.string s, .string T, .string X1, .string X2, .string P] 9 (0, 0)) by rw [← hV9]; exact blk_alloc R9.out _)
          have B10 := Aside0.mk (show Below w.heap.size w V9 by rw [← hV9]; exact below_alloc B9.out _)
          rw [hV9, hg1]
          clear hV9 hg1 R9 B9
          refine (HD2.out _).mono ?_
          rintro e w11 ⟨rfl, b⟩
          have KD11 := Aside0.mk (blk_below KD.out b)
          have R11 := Aside0.mk (blk_below R10.out b)
          have B11 := Aside0.mk (below_step B10.out b)
          clear b KD R10 B10 HD2
          have KD12 := Aside0.mk (blk_alloc KD11.out (.cells #[.string s2, .int .i64 n2, .string k2, .string e2, .int .i64 p2] 23))
          have KE12 := Aside0.mk (blk_new w11 (.cells #[.string s2, .int .i64 n2, .string k2, .string e2, .int .i64 p2] 23))
          have R12 := Aside0.mk (blk_alloc R11.out (.cells #[.string s2, .int .i64 n2, .string k2, .string e2, .int .i64 p2] 23))
          have B12 := Aside0.mk (below_alloc B11.out (.cells #[.string s2, .int .i64 n2, .string k2, .string e2, .int .i64 p2] 23))
          have y0 : (w11.alloc (.cells #[.string s2, .int .i64 n2, .string k2, .string e2, .int .i64 p2] 23)).cell? ⟨g1, 0, none⟩ = some (.string s2) := (blk_cell KD12.out 0).trans rfl
          have z0 : (w11.alloc (.cells #[.string s2, .int .i64 n2, .string k2, .string e2, .int .i64 p2] 23)).cell? ⟨w11.heap.size, 0, none⟩ = some (.string s2) := (blk_cell KE12.out 0).trans rfl
          have y1 : (w11.alloc (.cells #[.string s2, .int .i64 n2, .string k2, .string e2, .int .i64 p2] 23)).cell? ⟨g1, 1, none⟩ = some (.int .i64 n2) := (blk_cell KD12.out 1).trans rfl
          have z1 : (w11.alloc (.cells #[.string s2, .int .i64 n2, .string k2, .string e2, .int .i64 p2] 23)).cell? ⟨w11.heap.size, 1, none⟩ = some (.int .i64 n2) := (blk_cell KE12.out 1).trans rfl
          have y2 : (w11.alloc (.cells #[.string s2, .int .i64 n2, .string k2, .string e2, .int .i64 p2] 23)).cell? ⟨g1, 2, none⟩ = some (.string k2) := (blk_cell KD12.out 2).trans rfl
          have z2 : (w11.alloc (.cells #[.string s2, .int .i64 n2, .string k2, .string e2, .int .i64 p2] 23)).cell? ⟨w11.heap.size, 2, none⟩ = some (.string k2) := (blk_cell KE12.out 2).trans rfl
          have y3 : (w11.alloc (.cells #[.string s2, .int .i64 n2, .string k2, .string e2, .int .i64 p2] 23)).cell? ⟨g1, 3, none⟩ = some (.string e2) := (blk_cell KD12.out 3).trans rfl
          have z3 : (w11.alloc (.cells #[.string s2, .int .i64 n2, .string k2, .string e2, .int .i64 p2] 23)).cell? ⟨w11.heap.size, 3, none⟩ = some (.string e2) := (blk_cell KE12.out 3).trans rfl
          have y4 : (w11.alloc (.cells #[.string s2, .int .i64 n2, .string k2, .string e2, .int .i64 p2] 23)).cell? ⟨g1, 4, none⟩ = some (.int .i64 p2) := (blk_cell KD12.out 4).trans rfl
          have z4 : (w11.alloc (.cells #[.string s2, .int .i64 n2, .string k2, .string e2, .int .i64 p2] 23)).cell? ⟨w11.heap.size, 4, none⟩ = some (.int .i64 p2) := (blk_cell KE12.out 4).trans rfl
          have m1 : (s2.toList == s2.toList) = true := beq_self_eq_true _
          have m2 : (k2.toList == k2.toList) = true := beq_self_eq_true _
          have m3 : (e2.toList == e2.toList) = true := beq_self_eq_true _
          have m4 : (n2 == n2) = true := beq_self_eq_true _
          have m5 : (p2 == p2) = true := beq_self_eq_true _
          have m6 : (c2 != c2) = false := bne_eq_false_iff_eq.2 rfl
          have m7 : (f2 != f2) = false := bne_eq_false_iff_eq.2 rfl
          clear KD11 R11 B11
          go_wp2_with fail
          go_roundw
          case rel => exact ⟨i + 1, by first | rfl | (push_cast; rfl), by omega, R12, B12⟩
          case measure => simp [intOf]; omega
        · obtain rfl : i = 5 := by omega
          go_wp2_with fail
          go_ret
          exact ⟨rfl, BH.out⟩
/-- So, whatever else is known of the line. -/
theorem tells_walk2 {P0 P1 P2 P3 P4 : Prop} (s0 : ByteArray) (n0 : Int) (k0 e0 : ByteArray) (p0 : Int) (a0 a1 a2 a3 a4 : Int) (s : ByteArray) (at_ : Int) (more : ByteArray) (w : World) (hG : G w) (_ : P0) (_ : P1) (_ : P2) (_ : P3) (_ : P4) (h0 : In64 a0) (h1 : In64 a1) (h2 : In64 a2) (h3 : In64 a3) (h4 : In64 a4) (hs : s.size ≤ 140737488351232) (ha : In64 at_) (hm : more.size ≤ 140737488351232) :
    Calls Tryz.prog 3 #[.agg #[.string s0, .int .i64 n0, .string k0, .string e0, .int .i64 p0], .agg #[.int .i64 a0, .int .i64 a1, .int .i64 a2, .int .i64 a3, .int .i64 a4], .string s, .int .i64 at_, .string more] w fun e w' => e = .returned (.bool true) ∧ Below w.heap.size w w' := tells_walk s0 n0 k0 e0 p0 a0 a1 a2 a3 a4 s at_ more w hG h0 h1 h2 h3 h4 hs ha hm
end Go.Proofs.YtbecemdehelooaaGreatDoor.FeedTe
