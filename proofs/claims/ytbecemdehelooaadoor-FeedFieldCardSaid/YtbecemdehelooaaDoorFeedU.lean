/- FeedUnlike's walk, by hand. -/
import Derived.Test.YtbecemdehelooaaDoorFeedLi
import Derived.Test.YtbecemdehelooaaDoorFeedAw
namespace Go.Proofs.YtbecemdehelooaaDoor.FeedU
open Go.RowKit Go.Proofs.YtbecemdehelooaaDoor.FrameS Go.Proofs.YtbecemdehelooaaDoor.FeedG Go.Proofs.YtbecemdehelooaaDoor.FeedD Go.Proofs.YtbecemdehelooaaDoor.FeedN Go.Proofs.YtbecemdehelooaaDoor.FeedW Go.Proofs.YtbecemdehelooaaDoor.FeedE Go.Proofs.YtbecemdehelooaaDoor.FeedDe Go.Proofs.YtbecemdehelooaaDoor.FeedDh Go.Proofs.YtbecemdehelooaaDoor.FeedPm Go.Proofs.YtbecemdehelooaaDoor.FeedLi Go.Proofs.YtbecemdehelooaaDoor.FeedAw Go.Proofs.YtbecemdehelooaaDoorW.PrintWords Go.Proofs.YtbecemdehelooaaDoorW.PrintLast Go.Proofs.YtbecemdehelooaaDoorW.PrintMore
set_option linter.unusedVariables false
set_option linter.unusedSimpArgs false
theorem src_name : ∀ k : Fin 3, nameB (srcOf k.val) = true := by decide +kernel
theorem sku_name : ∀ k : Fin 4, nameB (skuOf k.val) = true := by decide +kernel
/-- A line of raw numbers may be. -/
theorem lineOf_ok (a0 a1 a2 a3 a4 : Int) (h3 : In64 a3) : (lineOf a0 a1 a2 a3 a4).ok = true := by
  obtain ⟨k0, g0, l0⟩ := pk_nat a0 3 (by decide)
  obtain ⟨k2, g2, l2⟩ := pk_nat a2 4 (by decide)
  have r1 := pk_range a1 60 (by decide)
  have r4 := pk_range a4 2500 (by decide)
  have n0 := src_name ⟨k0, l0⟩
  have n2 := sku_name ⟨k2, l2⟩
  have n3 := sell_name a3 h3
  unfold lineOf Ln.ok rightF
  simp only
  rw [show pk a0 3 = (k0 : Int) from g0, show pk a2 4 = (k2 : Int) from g2, Int.toNat_natCast, Int.toNat_natCast, n0, n2, n3]
  unfold Go.Proofs.YtbecemdehelooaaDoor.FeedW.badSeq Go.Proofs.YtbecemdehelooaaDoor.FeedW.badPrice
  rw [decide_eq_false (show ¬ (1 + pk a1 60 < 1) by omega), decide_eq_false (show ¬ (1000000000000 < 1 + pk a1 60) by omega)]
  split
  · simp
  · rw [decide_eq_false (show ¬ (pk a4 2500 < 0) by omega), decide_eq_false (show ¬ (1000000000000 < pk a4 2500) by omega)]; rfl
instance : DecidableEq Ln := fun x y => decidable_of_iff (x.so = y.so ∧ x.n = y.n ∧ x.sk = y.sk ∧ x.se = y.se ∧ x.p = y.p) ⟨fun h => by cases x; cases y; simp only at h; obtain ⟨rfl, rfl, rfl, rfl, rfl⟩ := h; rfl, fun h => by subst h; exact ⟨rfl, rfl, rfl, rfl, rfl⟩⟩
theorem line_inj (x y : Ln) (hx : x.ok = true) (hy : y.ok = true) (h : x.line = y.line) : x = y := by
  have h1 := back hx
  have h2 := back hy
  rw [h, h2] at h1
  exact (congrArg Prod.fst h1).symm
/-- Texts are the same just where the lines are. -/
theorem line_eq (x y : Ln) (hx : x.ok = true) (hy : y.ok = true) : ((⟨x.line.toArray⟩ : ByteArray).toList == (⟨y.line.toArray⟩ : ByteArray).toList) = decide (x = y) := by
  rw [toList_data, toList_data]
  by_cases h : x = y
  · subst h; simp
  · rw [decide_eq_false h]
    refine beq_eq_false_iff_ne.2 (fun e => h (line_inj x y hx hy ?_))
    simpa using e
set_option maxRecDepth 100000 in
theorem eqA24 (d : Nat) (w : World) (x0 y0 : ByteArray) (x1 y1 : Int) (x2 y2 : ByteArray) (x3 y3 : ByteArray) (x4 y4 : Int) :
    (Op.equalIn (d + 2) 24 (.agg #[.string x0, .int .i64 x1, .string x2, .string x3, .int .i64 x4]) (.agg #[.string y0, .int .i64 y1, .string y2, .string y3, .int .i64 y4])).run Tryd.prog w = .ok (x0.toList == y0.toList && (x1 == y1 && (x2.toList == y2.toList && (x3.toList == y3.toList && (x4 == y4))))) w := by
  refine eqA_of Tryd.underlying24 (by kernel_rfl) ?_
  refine eqf_cons (by rfl) (by go_simp; rfl) (by go_simp; rfl) (by go_simp) ?_
  refine eqf_cons (by rfl) (by go_simp; rfl) (by go_simp; rfl) (by go_simp) ?_
  refine eqf_cons (by rfl) (by go_simp; rfl) (by go_simp; rfl) (by go_simp) ?_
  refine eqf_cons (by rfl) (by go_simp; rfl) (by go_simp; rfl) (by go_simp) ?_
  exact eqf_last (by rfl) (by go_simp; rfl) (by go_simp; rfl) (by go_simp)
attribute [local go_sem high] eqA24
/-- With another price. -/
theorem ok_price {s : ByteArray} {n : Int} {k e : ByteArray} {p p' : Int} (h : (⟨s, n, k, e, p⟩ : Ln).ok = true) (h0 : 0 ≤ p') (h1 : p' ≤ 1000) : (⟨s, n, k, e, p'⟩ : Ln).ok = true := by
  unfold Ln.ok rightF badPrice at *
  simp only at h ⊢
  rw [decide_eq_false (show ¬ p' < 0 by omega), decide_eq_false (show ¬ 1000000000000 < p' by omega)]
  simp only [Bool.and_eq_true, Bool.not_eq_true'] at h
  simp only [Bool.and_eq_true, Bool.not_eq_true']
  exact ⟨h.1, rfl⟩
theorem eq_ln (s0 s1 : ByteArray) (n0 n1 : Int) (k0 k1 e0 e1 : ByteArray) (p0 p1 : Int) : decide ((⟨s0, n0, k0, e0, p0⟩ : Ln) = ⟨s1, n1, k1, e1, p1⟩) = (s0.toList == s1.toList && (n0 == n1 && (k0.toList == k1.toList && (e0.toList == e1.toList && p0 == p1)))) := by
  by_cases e : (⟨s0, n0, k0, e0, p0⟩ : Ln) = ⟨s1, n1, k1, e1, p1⟩
  · rw [decide_eq_true e]
    simp only [Ln.mk.injEq] at e
    obtain ⟨rfl, rfl, rfl, rfl, rfl⟩ := e
    simp
  · rw [decide_eq_false e]
    cases hb : (s0.toList == s1.toList && (n0 == n1 && (k0.toList == k1.toList && (e0.toList == e1.toList && p0 == p1)))) with
    | false => rfl
    | true =>
      simp only [Bool.and_eq_true, beq_iff_eq] at hb
      obtain ⟨q0, q1, q2, q3, q4⟩ := hb
      rw [toList_data, toList_data] at q0 q2 q3
      exfalso
      apply e
      rw [tl_inj q0, q1, tl_inj q2, tl_inj q3, q4]
set_option maxHeartbeats 4000000 in
set_option maxRecDepth 100000 in
theorem unlike_walk (a0 a1 a2 a3 a4 b0 b1 b2 b3 b4 m : Int) (w : World) (hG : G w) (h0 : In64 a0) (h1 : In64 a1) (h2 : In64 a2) (h3 : In64 a3) (h4 : In64 a4) (g0 : In64 b0) (g1 : In64 b1) (g2 : In64 b2) (g3 : In64 b3) (g4 : In64 b4) (hm : In64 m) :
    Calls Tryd.prog 6 #[.agg #[.int .i64 a0, .int .i64 a1, .int .i64 a2, .int .i64 a3, .int .i64 a4], .agg #[.int .i64 b0, .int .i64 b1, .int .i64 b2, .int .i64 b3, .int .i64 b4], .int .i64 m] w fun e w' => e = .returned (.bool true) ∧ Below w.heap.size w w' := by
  have hx := lineOf_ok a0 a1 a2 a3 a4 h3
  have hy := lineOf_ok b0 b1 b2 b3 b4 g3
  have LA := Aside0.mk (fun w0 => line_calls a0 a1 a2 a3 a4 w0 h0 h1 h2 h3 h4)
  have LB := Aside0.mk (fun w0 => line_calls b0 b1 b2 b3 b4 w0 g0 g1 g2 g3 g4)
  have PM := Aside0.mk (fun w0 => pick_calls m 3 w0 hm (by decide) (by decide))
  have PB := Aside0.mk (fun w0 => pick_calls b4 2 w0 g4 (by decide) (by decide))
  generalize lineOf a0 a1 a2 a3 a4 = x at hx LA
  generalize lineOf b0 b1 b2 b3 b4 = y at hy LB
  obtain ⟨s0, n0, k0, e0, p0⟩ := x
  obtain ⟨s1, n1, k1, e1, p1⟩ := y
  have HX := Aside0.mk hx
  have HY := Aside0.mk hy
  have HG := Aside0.mk hG
  obtain ⟨q, hq, hq3⟩ := pk_nat m 3 (by decide)
  obtain ⟨p, hp, hp2⟩ := pk_nat b4 2 (by decide)
  have HQ := Aside0.mk (show pk m 3 = (q : Int) from hq)
  have HP := Aside0.mk (show pk b4 2 = (p : Int) from hp)
  have HP2 := Aside0.mk hp2
  clear hx hy hG hq hp h0 h1 h2 h3 h4 g0 g1 g2 g3 g4 hm hq3 hp2
  go_enter Tryd.func6, Tryd.ntmps6
  go_wp2_with fail
  have hsz : (w.alloc (.cells #[.int .i64 a0, .int .i64 a1, .int .i64 a2, .int .i64 a3, .int .i64 a4] 22)).heap.size = w.heap.size + 1 := by simp [World.alloc, -World.alloc_eq]
  obtain ⟨W, hW⟩ : ∃ W, ((w.alloc (.cells #[.int .i64 a0, .int .i64 a1, .int .i64 a2, .int .i64 a3, .int .i64 a4] 22)).alloc (.cells #[.int .i64 b0, .int .i64 b1, .int .i64 b2, .int .i64 b3, .int .i64 b4] 22)) = W := ⟨_, rfl⟩
  have KA := Aside0.mk (show W.heap[w.heap.size]? = some (.cells #[.int .i64 a0, .int .i64 a1, .int .i64 a2, .int .i64 a3, .int .i64 a4] 22 (0, 0)) by rw [← hW]; exact blk_alloc (blk_new w _) _)
  have KB := Aside0.mk (show W.heap[w.heap.size + 1]? = some (.cells #[.int .i64 b0, .int .i64 b1, .int .i64 b2, .int .i64 b3, .int .i64 b4] 22 (0, 0)) by rw [← hW, ← hsz]; exact blk_new _ _)
  have BB := Aside0.mk (show Below w.heap.size w W by rw [← hW]; exact below_alloc (below_alloc (Below.refl _ _) _) _)
  rw [hW]
  clear hW hsz
  obtain ⟨ga, hga⟩ : ∃ g, g = w.heap.size := ⟨_, rfl⟩
  obtain ⟨gb, hgb⟩ : ∃ g, g = w.heap.size + 1 := ⟨_, rfl⟩
  rw [← hgb] at KB ⊢
  rw [← hga] at KA ⊢
  have HGA := Aside0.mk hga
  have HGB := Aside0.mk hgb
  clear hga hgb
  refine (awake_calls _ (HG.out.below BB.out)).mono ?_
  rintro e w1 ⟨rfl, b⟩
  have KA1 := Aside0.mk (blk_below KA.out b)
  have KB1 := Aside0.mk (blk_below KB.out b)
  have B1 := Aside0.mk (below_step BB.out b)
  clear b KA KB BB
  have c0 : w1.cell? ⟨ga, 0, none⟩ = some (.int .i64 a0) := (blk_cell KA1.out 0).trans rfl
  have c1 : w1.cell? ⟨ga, 1, none⟩ = some (.int .i64 a1) := (blk_cell KA1.out 1).trans rfl
  have c2 : w1.cell? ⟨ga, 2, none⟩ = some (.int .i64 a2) := (blk_cell KA1.out 2).trans rfl
  have c3 : w1.cell? ⟨ga, 3, none⟩ = some (.int .i64 a3) := (blk_cell KA1.out 3).trans rfl
  have c4 : w1.cell? ⟨ga, 4, none⟩ = some (.int .i64 a4) := (blk_cell KA1.out 4).trans rfl
  go_wp2_with fail
  refine (LA.out _).mono ?_
  rintro e w2 ⟨rfl, b⟩
  simp only [Ln.val, feedV]
  have KA2 := Aside0.mk (blk_below KA1.out b)
  have KB2 := Aside0.mk (blk_below KB1.out b)
  have B2 := Aside0.mk (below_step B1.out b)
  clear b KA1 KB1 c0 c1 c2 c3 c4 LA
  have KX2 := Aside0.mk (blk_new w2 (.cells #[.string s0, .int .i64 n0, .string k0, .string e0, .int .i64 p0] 24))
  have KA3 := Aside0.mk (blk_alloc KA2.out (.cells #[.string s0, .int .i64 n0, .string k0, .string e0, .int .i64 p0] 24))
  have KB3 := Aside0.mk (blk_alloc KB2.out (.cells #[.string s0, .int .i64 n0, .string k0, .string e0, .int .i64 p0] 24))
  have B3 := Aside0.mk (below_alloc B2.out (.cells #[.string s0, .int .i64 n0, .string k0, .string e0, .int .i64 p0] 24))
  have c0 : (w2.alloc (.cells #[.string ⟨#[]⟩, .int .i64 0, .string ⟨#[]⟩, .string ⟨#[]⟩, .int .i64 0] 24)).cell? ⟨gb, 0, none⟩ = some (.int .i64 b0) := (blk_cell (blk_alloc KB2.out _) 0).trans rfl
  have c1 : (w2.alloc (.cells #[.string ⟨#[]⟩, .int .i64 0, .string ⟨#[]⟩, .string ⟨#[]⟩, .int .i64 0] 24)).cell? ⟨gb, 1, none⟩ = some (.int .i64 b1) := (blk_cell (blk_alloc KB2.out _) 1).trans rfl
  have c2 : (w2.alloc (.cells #[.string ⟨#[]⟩, .int .i64 0, .string ⟨#[]⟩, .string ⟨#[]⟩, .int .i64 0] 24)).cell? ⟨gb, 2, none⟩ = some (.int .i64 b2) := (blk_cell (blk_alloc KB2.out _) 2).trans rfl
  have c3 : (w2.alloc (.cells #[.string ⟨#[]⟩, .int .i64 0, .string ⟨#[]⟩, .string ⟨#[]⟩, .int .i64 0] 24)).cell? ⟨gb, 3, none⟩ = some (.int .i64 b3) := (blk_cell (blk_alloc KB2.out _) 3).trans rfl
  have c4 : (w2.alloc (.cells #[.string ⟨#[]⟩, .int .i64 0, .string ⟨#[]⟩, .string ⟨#[]⟩, .int .i64 0] 24)).cell? ⟨gb, 4, none⟩ = some (.int .i64 b4) := (blk_cell (blk_alloc KB2.out _) 4).trans rfl
  have d0 : (w2.alloc (.cells #[.string s0, .int .i64 n0, .string k0, .string e0, .int .i64 p0] 24)).cell? ⟨gb, 0, none⟩ = some (.int .i64 b0) := (blk_cell KB3.out 0).trans rfl
  have d1 : (w2.alloc (.cells #[.string s0, .int .i64 n0, .string k0, .string e0, .int .i64 p0] 24)).cell? ⟨gb, 1, none⟩ = some (.int .i64 b1) := (blk_cell KB3.out 1).trans rfl
  have d2 : (w2.alloc (.cells #[.string s0, .int .i64 n0, .string k0, .string e0, .int .i64 p0] 24)).cell? ⟨gb, 2, none⟩ = some (.int .i64 b2) := (blk_cell KB3.out 2).trans rfl
  have d3 : (w2.alloc (.cells #[.string s0, .int .i64 n0, .string k0, .string e0, .int .i64 p0] 24)).cell? ⟨gb, 3, none⟩ = some (.int .i64 b3) := (blk_cell KB3.out 3).trans rfl
  have d4 : (w2.alloc (.cells #[.string s0, .int .i64 n0, .string k0, .string e0, .int .i64 p0] 24)).cell? ⟨gb, 4, none⟩ = some (.int .i64 b4) := (blk_cell KB3.out 4).trans rfl
  go_wp2_with fail
  clear c0 c1 c2 c3 c4 d0 d1 d2 d3 d4
  obtain ⟨gx, hgx⟩ : ∃ g, w2.heap.size = g := ⟨_, rfl⟩
  obtain ⟨W3, hW3⟩ : ∃ W, w2.alloc (.cells #[.string s0, .int .i64 n0, .string k0, .string e0, .int .i64 p0] 24) = W := ⟨_, rfl⟩
  rw [hW3] at KX2 KA3 KB3 B3 ⊢
  rw [hgx] at KX2 ⊢
  have GX := Aside0.mk (show w.heap.size ≤ gx by rw [← hgx]; exact B2.out.size)
  have NA := Aside0.mk (show gb ≠ gx by rw [← hgx]; exact Nat.ne_of_lt (blk_lt KB2.out))
  clear hgx hW3 KA2 KB2
  refine (LB.out _).mono ?_
  rintro e w4 ⟨rfl, b⟩
  simp only [Ln.val, feedV]
  have KA4 := Aside0.mk (blk_below KA3.out b)
  have KB4 := Aside0.mk (blk_below KB3.out b)
  have KX4 := Aside0.mk (blk_below KX2.out b)
  have B4 := Aside0.mk (below_step B3.out b)
  clear b KA3 KB3 KX2 LB
  have KY4 := Aside0.mk (blk_new w4 (.cells #[.string s1, .int .i64 n1, .string k1, .string e1, .int .i64 p1] 24))
  have KB5 := Aside0.mk (blk_alloc KB4.out (.cells #[.string s1, .int .i64 n1, .string k1, .string e1, .int .i64 p1] 24))
  have KX5 := Aside0.mk (blk_alloc KX4.out (.cells #[.string s1, .int .i64 n1, .string k1, .string e1, .int .i64 p1] 24))
  have B5 := Aside0.mk (below_alloc B4.out (.cells #[.string s1, .int .i64 n1, .string k1, .string e1, .int .i64 p1] 24))
  go_wp2_with fail
  obtain ⟨gy, hgy⟩ : ∃ g, w4.heap.size = g := ⟨_, rfl⟩
  obtain ⟨W5, hW5⟩ : ∃ W, w4.alloc (.cells #[.string s1, .int .i64 n1, .string k1, .string e1, .int .i64 p1] 24) = W := ⟨_, rfl⟩
  rw [hW5] at KY4 KB5 KX5 B5 ⊢
  rw [hgy] at KY4 ⊢
  have GY := Aside0.mk (show w.heap.size ≤ gy by rw [← hgy]; exact B4.out.size)
  have NB := Aside0.mk (show gb ≠ gy by rw [← hgy]; exact Nat.ne_of_lt (blk_lt KB4.out))
  have NX := Aside0.mk (show gx ≠ gy by rw [← hgy]; exact Nat.ne_of_lt (blk_lt KX4.out))
  clear hgy hW5 KB4 KX4
  refine (PM.out _).mono ?_
  rintro e w6 ⟨rfl, rfl⟩
  rw [HQ.out]
  by_cases hq0 : q = 0
  · subst hq0
    have t0 : (((0 : Nat) : Int) == 0) = true := rfl
    have c0 : W5.cell? ⟨gx, 0, none⟩ = some (.string s0) := (blk_cell KX5.out 0).trans rfl
    have c1 : W5.cell? ⟨gx, 1, none⟩ = some (.int .i64 n0) := (blk_cell KX5.out 1).trans rfl
    have c2 : W5.cell? ⟨gx, 2, none⟩ = some (.string k0) := (blk_cell KX5.out 2).trans rfl
    have c3 : W5.cell? ⟨gx, 3, none⟩ = some (.string e0) := (blk_cell KX5.out 3).trans rfl
    have c4 : W5.cell? ⟨gx, 4, none⟩ = some (.int .i64 p0) := (blk_cell KX5.out 4).trans rfl
    have y0 : W5.cell? ⟨gy, 0, none⟩ = some (.string s1) := (blk_cell KY4.out 0).trans rfl
    have y1 : W5.cell? ⟨gy, 1, none⟩ = some (.int .i64 n1) := (blk_cell KY4.out 1).trans rfl
    have y2 : W5.cell? ⟨gy, 2, none⟩ = some (.string k1) := (blk_cell KY4.out 2).trans rfl
    have y3 : W5.cell? ⟨gy, 3, none⟩ = some (.string e1) := (blk_cell KY4.out 3).trans rfl
    have y4 : W5.cell? ⟨gy, 4, none⟩ = some (.int .i64 p1) := (blk_cell KY4.out 4).trans rfl
    have z0 := blk_frozen KY4.out 0
    have z1 := blk_frozen KY4.out 1
    have z2 := blk_frozen KY4.out 2
    have z3 := blk_frozen KY4.out 3
    have z4 := blk_frozen KY4.out 4
    obtain ⟨KY9, B9⟩ := five w W5 gy _ _ _ _ _ (.string s0) (.int .i64 n0) (.string k0) (.string e0) (.int .i64 p0) 24 KY4.out B5.out GY.out
    have KB9 := Aside0.mk (show (((((W5.setCell ⟨gy, 0, none⟩ (.string s0)).setCell ⟨gy, 1, none⟩ (.int .i64 n0)).setCell ⟨gy, 2, none⟩ (.string k0)).setCell ⟨gy, 3, none⟩ (.string e0)).setCell ⟨gy, 4, none⟩ (.int .i64 p0)).heap[gb]? = some (.cells #[.int .i64 b0, .int .i64 b1, .int .i64 b2, .int .i64 b3, .int .i64 b4] 22 (0, 0)) by rw [Below.heap_setCell _ _ _ _ NB.out, Below.heap_setCell _ _ _ _ NB.out, Below.heap_setCell _ _ _ _ NB.out, Below.heap_setCell _ _ _ _ NB.out, Below.heap_setCell _ _ _ _ NB.out]; exact KB5.out)
    have KX9 := Aside0.mk (show (((((W5.setCell ⟨gy, 0, none⟩ (.string s0)).setCell ⟨gy, 1, none⟩ (.int .i64 n0)).setCell ⟨gy, 2, none⟩ (.string k0)).setCell ⟨gy, 3, none⟩ (.string e0)).setCell ⟨gy, 4, none⟩ (.int .i64 p0)).heap[gx]? = some (.cells #[.string s0, .int .i64 n0, .string k0, .string e0, .int .i64 p0] 24 (0, 0)) by rw [Below.heap_setCell _ _ _ _ NX.out, Below.heap_setCell _ _ _ _ NX.out, Below.heap_setCell _ _ _ _ NX.out, Below.heap_setCell _ _ _ _ NX.out, Below.heap_setCell _ _ _ _ NX.out]; exact KX5.out)
    have b4c : (((((W5.setCell ⟨gy, 0, none⟩ (.string s0)).setCell ⟨gy, 1, none⟩ (.int .i64 n0)).setCell ⟨gy, 2, none⟩ (.string k0)).setCell ⟨gy, 3, none⟩ (.string e0)).setCell ⟨gy, 4, none⟩ (.int .i64 p0)).cell? ⟨gb, 4, none⟩ = some (.int .i64 b4) := (blk_cell KB9.out 4).trans rfl
    have KYA := Aside0.mk KY9
    have BA := Aside0.mk B9
    clear KY9 B9
    go_wp2_with fail
    clear b4c c0 c1 c2 c3 c4 y0 y1 y2 y3 y4 z0 z1 z2 z3 z4
    generalize (((((W5.setCell ⟨gy, 0, none⟩ (.string s0)).setCell ⟨gy, 1, none⟩ (.int .i64 n0)).setCell ⟨gy, 2, none⟩ (.string k0)).setCell ⟨gy, 3, none⟩ (.string e0)).setCell ⟨gy, 4, none⟩ (.int .i64 p0)) = W9 at KB9 KX9 KYA BA ⊢
    refine (PB.out _).mono ?_
    rintro e w9 ⟨rfl, rfl⟩
    rw [HP.out]
    have v4 : W9.cell? ⟨gy, 4, none⟩ = some (.int .i64 p0) := (blk_cell KYA.out 4).trans rfl
    have u4 := blk_frozen KYA.out 4
    have KY2 := Aside0.mk (blk_set KYA.out 4 (.int .i64 (p : Int)))
    have KX2 := Aside0.mk (show (W9.setCell ⟨gy, 4, none⟩ (.int .i64 (p : Int))).heap[gx]? = some (.cells #[.string s0, .int .i64 n0, .string k0, .string e0, .int .i64 p0] 24 (0, 0)) by rw [Below.heap_setCell _ _ _ _ NX.out]; exact KX9.out)
    have B2 := Aside0.mk (show Below w.heap.size w (W9.setCell ⟨gy, 4, none⟩ (.int .i64 (p : Int))) from below_set BA.out GY.out)
    have c0 : (W9.setCell ⟨gy, 4, none⟩ (.int .i64 (p : Int))).cell? ⟨gx, 0, none⟩ = some (.string s0) := (blk_cell KX2.out 0).trans rfl
    have c1 : (W9.setCell ⟨gy, 4, none⟩ (.int .i64 (p : Int))).cell? ⟨gx, 1, none⟩ = some (.int .i64 n0) := (blk_cell KX2.out 1).trans rfl
    have c2 : (W9.setCell ⟨gy, 4, none⟩ (.int .i64 (p : Int))).cell? ⟨gx, 2, none⟩ = some (.string k0) := (blk_cell KX2.out 2).trans rfl
    have c3 : (W9.setCell ⟨gy, 4, none⟩ (.int .i64 (p : Int))).cell? ⟨gx, 3, none⟩ = some (.string e0) := (blk_cell KX2.out 3).trans rfl
    have c4 : (W9.setCell ⟨gy, 4, none⟩ (.int .i64 (p : Int))).cell? ⟨gx, 4, none⟩ = some (.int .i64 p0) := (blk_cell KX2.out 4).trans rfl
    go_wp2_with fail
    clear v4 u4
    generalize (W9.setCell ⟨gy, 4, none⟩ (.int .i64 (p : Int))) = WA at KY2 KX2 B2 c0 c1 c2 c3 c4 ⊢
    have HZ := Aside0.mk (show (⟨s0, n0, k0, e0, (p : Int)⟩ : Ln).ok = true from ok_price HX.out (by have := HP2.out; omega) (by have := HP2.out; omega))
    refine (encode_calls s0 k0 e0 n0 p0 _ (HG.out.below B2.out)).mono ?_
    rintro e w7 ⟨rfl, b⟩
    rw [if_pos (show rightF s0 k0 e0 n0 p0 = true from HX.out)]
    have KX7 := Aside0.mk (blk_below KX2.out b)
    have KY7 := Aside0.mk (blk_below KY2.out b)
    have B7 := Aside0.mk (below_step B2.out b)
    clear b c0 c1 c2 c3 c4
    have c0 : w7.cell? ⟨gy, 0, none⟩ = some (.string s0) := (blk_cell KY7.out 0).trans rfl
    have c1 : w7.cell? ⟨gy, 1, none⟩ = some (.int .i64 n0) := (blk_cell KY7.out 1).trans rfl
    have c2 : w7.cell? ⟨gy, 2, none⟩ = some (.string k0) := (blk_cell KY7.out 2).trans rfl
    have c3 : w7.cell? ⟨gy, 3, none⟩ = some (.string e0) := (blk_cell KY7.out 3).trans rfl
    have c4 : w7.cell? ⟨gy, 4, none⟩ = some (.int .i64 (p : Int)) := (blk_cell KY7.out 4).trans rfl
    go_wp2_with fail
    refine (encode_calls s0 k0 e0 n0 (p : Int) _ (HG.out.below B7.out)).mono ?_
    rintro e w8 ⟨rfl, b⟩
    rw [if_pos (show rightF s0 k0 e0 n0 (p : Int) = true from HZ.out)]
    have KX8 := Aside0.mk (blk_below KX7.out b)
    have KY8 := Aside0.mk (blk_below KY7.out b)
    have B8 := Aside0.mk (below_step B7.out b)
    clear b c0 c1 c2 c3 c4
    have c0 : w8.cell? ⟨gx, 0, none⟩ = some (.string s0) := (blk_cell KX8.out 0).trans rfl
    have c1 : w8.cell? ⟨gx, 1, none⟩ = some (.int .i64 n0) := (blk_cell KX8.out 1).trans rfl
    have c2 : w8.cell? ⟨gx, 2, none⟩ = some (.string k0) := (blk_cell KX8.out 2).trans rfl
    have c3 : w8.cell? ⟨gx, 3, none⟩ = some (.string e0) := (blk_cell KX8.out 3).trans rfl
    have c4 : w8.cell? ⟨gx, 4, none⟩ = some (.int .i64 p0) := (blk_cell KX8.out 4).trans rfl
    have d0 : w8.cell? ⟨gy, 0, none⟩ = some (.string s0) := (blk_cell KY8.out 0).trans rfl
    have d1 : w8.cell? ⟨gy, 1, none⟩ = some (.int .i64 n0) := (blk_cell KY8.out 1).trans rfl
    have d2 : w8.cell? ⟨gy, 2, none⟩ = some (.string k0) := (blk_cell KY8.out 2).trans rfl
    have d3 : w8.cell? ⟨gy, 3, none⟩ = some (.string e0) := (blk_cell KY8.out 3).trans rfl
    have d4 : w8.cell? ⟨gy, 4, none⟩ = some (.int .i64 (p : Int)) := (blk_cell KY8.out 4).trans rfl
    have hsq := Aside0.mk (line_eq ⟨s0, n0, k0, e0, p0⟩ ⟨s0, n0, k0, e0, (p : Int)⟩ HX.out HZ.out)
    obtain ⟨t1, ht1⟩ : ∃ t : ByteArray, (⟨(lineL s0 k0 e0 n0 p0).toArray⟩ : ByteArray) = t := ⟨_, rfl⟩
    obtain ⟨t2, ht2⟩ : ∃ t : ByteArray, (⟨(lineL s0 k0 e0 n0 (p : Int)).toArray⟩ : ByteArray) = t := ⟨_, rfl⟩
    have HS := Aside0.mk (show (t1.toList == t2.toList) = decide ((⟨s0, n0, k0, e0, p0⟩ : Ln) = ⟨s0, n0, k0, e0, (p : Int)⟩) by rw [← ht1, ← ht2]; exact hsq.out)
    rw [ht1, ht2]
    clear ht1 ht2 hsq
    go_wp2_with fail
    go_ret
    refine ⟨?_, B8.out⟩
    show Ending.returned (.bool ((t1.toList == t2.toList) == (p0 == (p : Int)))) = _
    rw [HS.out, eq_ln]
    simp
  · have t0 : (((q : Nat) : Int) == 0) = false := beq_eq_false_iff_ne.2 (by omega)
    have c0 : W5.cell? ⟨gx, 0, none⟩ = some (.string s0) := (blk_cell KX5.out 0).trans rfl
    have c1 : W5.cell? ⟨gx, 1, none⟩ = some (.int .i64 n0) := (blk_cell KX5.out 1).trans rfl
    have c2 : W5.cell? ⟨gx, 2, none⟩ = some (.string k0) := (blk_cell KX5.out 2).trans rfl
    have c3 : W5.cell? ⟨gx, 3, none⟩ = some (.string e0) := (blk_cell KX5.out 3).trans rfl
    have c4 : W5.cell? ⟨gx, 4, none⟩ = some (.int .i64 p0) := (blk_cell KX5.out 4).trans rfl
    go_wp2_with fail
    refine (encode_calls s0 k0 e0 n0 p0 _ (HG.out.below B5.out)).mono ?_
    rintro e w7 ⟨rfl, b⟩
    rw [if_pos (show rightF s0 k0 e0 n0 p0 = true from HX.out)]
    have KX7 := Aside0.mk (blk_below KX5.out b)
    have KY7 := Aside0.mk (blk_below KY4.out b)
    have B7 := Aside0.mk (below_step B5.out b)
    clear b c0 c1 c2 c3 c4
    have c0 : w7.cell? ⟨gy, 0, none⟩ = some (.string s1) := (blk_cell KY7.out 0).trans rfl
    have c1 : w7.cell? ⟨gy, 1, none⟩ = some (.int .i64 n1) := (blk_cell KY7.out 1).trans rfl
    have c2 : w7.cell? ⟨gy, 2, none⟩ = some (.string k1) := (blk_cell KY7.out 2).trans rfl
    have c3 : w7.cell? ⟨gy, 3, none⟩ = some (.string e1) := (blk_cell KY7.out 3).trans rfl
    have c4 : w7.cell? ⟨gy, 4, none⟩ = some (.int .i64 p1) := (blk_cell KY7.out 4).trans rfl
    go_wp2_with fail
    refine (encode_calls s1 k1 e1 n1 p1 _ (HG.out.below B7.out)).mono ?_
    rintro e w8 ⟨rfl, b⟩
    rw [if_pos (show rightF s1 k1 e1 n1 p1 = true from HY.out)]
    have KX8 := Aside0.mk (blk_below KX7.out b)
    have KY8 := Aside0.mk (blk_below KY7.out b)
    have B8 := Aside0.mk (below_step B7.out b)
    clear b c0 c1 c2 c3 c4
    have c0 : w8.cell? ⟨gx, 0, none⟩ = some (.string s0) := (blk_cell KX8.out 0).trans rfl
    have c1 : w8.cell? ⟨gx, 1, none⟩ = some (.int .i64 n0) := (blk_cell KX8.out 1).trans rfl
    have c2 : w8.cell? ⟨gx, 2, none⟩ = some (.string k0) := (blk_cell KX8.out 2).trans rfl
    have c3 : w8.cell? ⟨gx, 3, none⟩ = some (.string e0) := (blk_cell KX8.out 3).trans rfl
    have c4 : w8.cell? ⟨gx, 4, none⟩ = some (.int .i64 p0) := (blk_cell KX8.out 4).trans rfl
    have d0 : w8.cell? ⟨gy, 0, none⟩ = some (.string s1) := (blk_cell KY8.out 0).trans rfl
    have d1 : w8.cell? ⟨gy, 1, none⟩ = some (.int .i64 n1) := (blk_cell KY8.out 1).trans rfl
    have d2 : w8.cell? ⟨gy, 2, none⟩ = some (.string k1) := (blk_cell KY8.out 2).trans rfl
    have d3 : w8.cell? ⟨gy, 3, none⟩ = some (.string e1) := (blk_cell KY8.out 3).trans rfl
    have d4 : w8.cell? ⟨gy, 4, none⟩ = some (.int .i64 p1) := (blk_cell KY8.out 4).trans rfl
    have hsq := Aside0.mk (line_eq ⟨s0, n0, k0, e0, p0⟩ ⟨s1, n1, k1, e1, p1⟩ HX.out HY.out)
    obtain ⟨t1, ht1⟩ : ∃ t : ByteArray, (⟨(lineL s0 k0 e0 n0 p0).toArray⟩ : ByteArray) = t := ⟨_, rfl⟩
    obtain ⟨t2, ht2⟩ : ∃ t : ByteArray, (⟨(lineL s1 k1 e1 n1 p1).toArray⟩ : ByteArray) = t := ⟨_, rfl⟩
    have HS := Aside0.mk (show (t1.toList == t2.toList) = decide ((⟨s0, n0, k0, e0, p0⟩ : Ln) = ⟨s1, n1, k1, e1, p1⟩) by rw [← ht1, ← ht2]; exact hsq.out)
    rw [ht1, ht2]
    clear ht1 ht2 hsq
    go_wp2_with fail
    go_ret
    refine ⟨?_, B8.out⟩
    show Ending.returned (.bool ((t1.toList == t2.toList) == (s0.toList == s1.toList && (n0 == n1 && (k0.toList == k1.toList && (e0.toList == e1.toList && p0 == p1)))))) = _
    rw [HS.out, eq_ln]
    simp
end Go.Proofs.YtbecemdehelooaaDoor.FeedU
