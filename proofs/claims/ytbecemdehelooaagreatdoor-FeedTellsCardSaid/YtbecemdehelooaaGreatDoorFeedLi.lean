/- A line of raw numbers. -/
import Derived.Test.YtbecemdehelooaaGreatDoorFeedDh
import Derived.Test.YtbecemdehelooaaGreatDoorHLinex1
namespace Go.Proofs.YtbecemdehelooaaGreatDoor.FeedLi
open Go.RowKit Go.Proofs.YtbecemdehelooaaGreatDoor.FrameS Go.Proofs.YtbecemdehelooaaGreatDoor.FeedG Go.Proofs.YtbecemdehelooaaGreatDoor.FeedD Go.Proofs.YtbecemdehelooaaGreatDoor.FeedN Go.Proofs.YtbecemdehelooaaGreatDoor.FeedW Go.Proofs.YtbecemdehelooaaGreatDoor.FeedPm Go.Proofs.YtbecemdehelooaaGreatDoor.HLine Go.Proofs.YtbecemdehelooaaGreatDoorW.PrintWords Go.Proofs.YtbecemdehelooaaGreatDoorW.PrintLast Go.Proofs.YtbecemdehelooaaGreatDoorW.PrintMore
set_option linter.unusedVariables false
set_option linter.unusedSimpArgs false
def In64 (c : Int) : Prop := -9223372036854775808 ≤ c ∧ c ≤ 9223372036854775807
instance (c : Int) : Decidable (In64 c) := inferInstanceAs (Decidable (_ ∧ _))
theorem in64_of {c : Int} (h : (Lit.int .i64 c).wf = true) : In64 c := by
  unfold Lit.wf at h
  rw [Bool.and_eq_true, decide_eq_true_eq, decide_eq_true_eq] at h
  exact ⟨h.1, h.2⟩
/-- Which of n things a raw number speaks of. -/
def pk (c n : Int) : Int := Int.emod (if c < 0 then -(c + 1) else c) n
theorem pk_range (c n : Int) (h : 0 < n) : 0 ≤ pk c n ∧ pk c n < n := ⟨Int.emod_nonneg _ (by omega), Int.emod_lt_of_pos _ h⟩
theorem pk_nat (c : Int) (n : Nat) (h : 0 < n) : ∃ k : Nat, pk c n = k ∧ k < n := by
  have := pk_range c n (by omega)
  exact ⟨(pk c n).toNat, by omega, by omega⟩
theorem pick_f (a n : Int) (ha : In64 a) (hn : 0 < n) : hagglerlaw06_pick.f a n = some (pk a n) := by
  unfold hagglerlaw06_pick.f pk In64 at *
  by_cases h : a < 0
  · rw [if_pos h, if_neg (by omega), if_pos h]
    have e1 : wrap64 (a + 1) = a + 1 := by unfold wrap64; omega
    have e2 : wrap64 (-(a + 1)) = -(a + 1) := by unfold wrap64; omega
    rw [e1, e2, Int.tmod_eq_emod_of_nonneg (by omega)]
    rfl
  · rw [if_neg h, if_neg (by omega), if_neg h, Int.tmod_eq_emod_of_nonneg (by omega)]
    rfl
theorem pick_f12 (a n : Int) (ha : In64 a) (hn : 0 < n) : hagglerlaw12_pick.f a n = some (pk a n) := pick_f a n ha hn
theorem pick_calls (a n : Int) (w : World) (ha : In64 a) (h0 : 0 < n) (h1 : n ≤ 1000000) :
    Calls Tryz.prog 10 #[.int .i64 a, .int .i64 n] w fun e w' => e = .returned (.int .i64 (pk a n)) ∧ w = w' := by
  have hn0 : (n == 0) = false := beq_eq_false_iff_ne.2 (by omega)
  have hn1 : (n == -1) = false := beq_eq_false_iff_ne.2 (by omega)
  have hr := pk_range a n h0
  unfold In64 at ha
  by_cases hneg : a < 0
  · have e1 : wrap64 (a + 1) = a + 1 := by unfold wrap64; omega
    have e2 : wrap64 (-(a + 1)) = -(a + 1) := by unfold wrap64; omega
    have e3 : (-(a + 1)).tmod n = pk a n := by unfold pk; rw [if_pos hneg, Int.tmod_eq_emod_of_nonneg (by omega)]; rfl
    have e4 : wrap64 (pk a n) = pk a n := by unfold wrap64; omega
    have H := Lib.hid (And.intro e1 (And.intro e2 (And.intro e3 e4)))
    have d : decide (a < 0) = true := decide_eq_true hneg
    go_enter Tryz.func10, Tryz.ntmps10
    go_wp2
    go_returns
    obtain ⟨e1, e2, e3, e4⟩ := H.out
    exact ⟨rfl, rfl⟩
  · have e3 : a.tmod n = pk a n := by unfold pk; rw [if_neg hneg, Int.tmod_eq_emod_of_nonneg (by omega)]; rfl
    have e4 : wrap64 (pk a n) = pk a n := by unfold wrap64; omega
    have H := Lib.hid (And.intro e3 e4)
    have d : decide (a < 0) = false := decide_eq_false hneg
    go_enter Tryz.func10, Tryz.ntmps10
    go_wp2
    go_returns
    obtain ⟨e3, e4⟩ := H.out
    exact ⟨rfl, rfl⟩
/-- Which source, which sku. -/
def srcOf (k : Nat) : ByteArray := ([⟨#[97, 99, 109, 101]⟩, ⟨#[102, 101, 101, 100, 49]⟩, ⟨#[122]⟩] : List ByteArray).getD k ⟨#[]⟩
def skuOf (k : Nat) : ByteArray := ([⟨#[109, 117, 103]⟩, ⟨#[99, 117, 112]⟩, ⟨#[112, 97, 110]⟩, ⟨#[112, 111, 116]⟩] : List ByteArray).getD k ⟨#[]⟩
theorem src_at (k : Nat) (h : k < 3) : (#[.string ⟨#[97, 99, 109, 101]⟩, .string ⟨#[102, 101, 101, 100, 49]⟩, .string ⟨#[122]⟩] : Array Value)[k]? = some (.string (srcOf k)) := by
  match k, h with
  | 0, _ => rfl
  | 1, _ => rfl
  | 2, _ => rfl
theorem sku_at (k : Nat) (h : k < 4) : (#[.string ⟨#[109, 117, 103]⟩, .string ⟨#[99, 117, 112]⟩, .string ⟨#[112, 97, 110]⟩, .string ⟨#[112, 111, 116]⟩] : Array Value)[k]? = some (.string (skuOf k)) := by
  match k, h with
  | 0, _ => rfl
  | 1, _ => rfl
  | 2, _ => rfl
  | 3, _ => rfl
/-- The seller of a raw number. -/
def sellB (a : Int) : ByteArray := (hagglerlaw06_Seller.f 3 a).getD ⟨#[]⟩
def sellQ (q : Nat) : Option ByteArray := hagglerlaw06_Seller.f 3 (q : Int)
theorem sell_ok : ∀ q : Fin 60, (sellQ q.val).isSome = true ∧ nameB ((sellQ q.val).getD ⟨#[]⟩) = true := by decide +kernel
theorem sell_mod (a : Int) (ha : In64 a) : ∃ q : Fin 60, hagglerlaw06_Seller.f 3 a = sellQ q.val := by
  obtain ⟨k, hk, hl⟩ := pk_nat a 60 (by decide)
  refine ⟨⟨k, hl⟩, ?_⟩
  have h1 : hagglerlaw06_pick.f a 60 = some (k : Int) := by rw [pick_f a 60 ha (by decide)]; rw [← hk]; rfl
  have h2 : hagglerlaw06_pick.f (k : Int) 60 = some (k : Int) := by
    rw [pick_f (k : Int) 60 (by unfold In64; omega) (by decide)]
    unfold pk
    rw [if_neg (by omega)]
    congr 1
    show (k : Int) % 60 = k
    omega
  unfold sellQ hagglerlaw06_Seller.f
  simp only
  rw [h1, h2]
theorem sell_f (a : Int) (ha : In64 a) : hagglerlaw06_Seller.f 3 a = some (sellB a) := by
  obtain ⟨q, hq⟩ := sell_mod a ha
  have := (sell_ok q).1
  unfold sellB
  rw [hq]
  cases h : sellQ q.val with
  | none => rw [h] at this; cases this
  | some x => rfl
theorem sell_name (a : Int) (ha : In64 a) : nameB (sellB a) = true := by
  obtain ⟨q, hq⟩ := sell_mod a ha
  unfold sellB
  rw [hq]
  exact (sell_ok q).2
/-- A line of raw numbers. -/
def lineOf (a0 a1 a2 a3 a4 : Int) : Ln := ⟨srcOf (pk a0 3).toNat, 1 + pk a1 60, skuOf (pk a2 4).toNat, sellB a3, if a4.tmod 9 = 0 then 0 else pk a4 2500⟩
def tL.T : Bool × List (List Nat × List Nat) := (true, [([], []), ([], []), ([1], [1]), ([2], [2]), ([0, 3], [0, 3]), ([4], [4]), ([], []), ([6], [6]), ([7, 3], [7]), ([8], [8]), ([], []), ([], []), ([11], [11]), ([12, 8], [12]), ([10, 13], [10, 13]), ([14], [14]), ([], []), ([16], [16]), ([17, 13], [17]), ([], []), ([19], [19]), ([20, 18], [20]), ([5, 9, 15, 18, 21], [5, 9, 15, 18, 21]), ([], []), ([23, 22, 21, 0, 1, 2, 3, 4, 5, 6, 7, 8, 9, 10, 11, 12, 13, 14, 15, 16, 17, 18, 19, 20, 21, 22, 23], [22, 23])])
def tL.B : List Nat := [0, 0, 2, 6, 15, 31, 0, 64, 206, 462, 0, 0, 2048, 6606, 15822, 32206, 0, 65536, 211406, 0, 524288, 2046414, 4194303, 0, 16777215]
theorem tL.tab : rtab .any (opsOf Tryz.f5 1) = tL.T := by kernel_rfl
theorem tL.bits : waitsOk tL.T.2 tL.B = true := by kernel_rfl
set_option maxHeartbeats 4000000 in
set_option maxRecDepth 100000 in
theorem line_calls (a0 a1 a2 a3 a4 : Int) (w : World) (h0 : In64 a0) (h1 : In64 a1) (h2 : In64 a2) (h3 : In64 a3) (h4 : In64 a4) :
    Calls Tryz.prog 5 #[.agg #[.int .i64 a0, .int .i64 a1, .int .i64 a2, .int .i64 a3, .int .i64 a4]] w fun e w' => e = .returned (lineOf a0 a1 a2 a3 a4).val ∧ Below w.heap.size w w' := by
  obtain ⟨k0, g0, l0⟩ := pk_nat a0 3 (by decide)
  obtain ⟨k1, g1, l1⟩ := pk_nat a1 60 (by decide)
  obtain ⟨k2, g2, l2⟩ := pk_nat a2 4 (by decide)
  obtain ⟨k4, g4, l4⟩ := pk_nat a4 2500 (by decide)
  obtain ⟨se, gse⟩ : ∃ s, sellB a3 = s := ⟨_, rfl⟩
  have hse := Aside0.mk (show hagglerlaw06_Seller.f 3 a3 = some se by rw [← gse]; exact sell_f a3 h3)
  have hln := Aside0.mk (show lineOf a0 a1 a2 a3 a4 = ⟨srcOf k0, 1 + (k1 : Int), skuOf k2, se, if a4.tmod 9 = 0 then 0 else (k4 : Int)⟩ by
    unfold lineOf
    rw [gse, show pk a0 3 = (k0 : Int) from g0, show pk a1 60 = (k1 : Int) from g1, show pk a2 4 = (k2 : Int) from g2, show pk a4 2500 = (k4 : Int) from g4]; rfl)
  have hk0 := Aside0.mk (show pk a0 3 = (k0 : Int) from g0)
  have hk1 := Aside0.mk (show pk a1 60 = (k1 : Int) from g1)
  have hk2 := Aside0.mk (show pk a2 4 = (k2 : Int) from g2)
  have hk4 := Aside0.mk (show pk a4 2500 = (k4 : Int) from g4)
  have H0 := Aside0.mk h0; have H1 := Aside0.mk h1; have H2 := Aside0.mk h2; have H3 := Aside0.mk h3; have H4 := Aside0.mk h4
  have L0 := Aside0.mk l0; have L1 := Aside0.mk l1; have L2 := Aside0.mk l2; have L4 := Aside0.mk l4
  have W1 := Aside0.mk (show wrap64 (1 + (k1 : Int)) = 1 + (k1 : Int) by unfold wrap64; omega)
  clear g0 g1 g2 g4 gse h0 h1 h2 h3 h4 l0 l1 l2 l4
  obtain ⟨W, hW⟩ : ∃ W, ((w.alloc (.cells #[.int .i64 a0, .int .i64 a1, .int .i64 a2, .int .i64 a3, .int .i64 a4] 24)).alloc (.cells #[.string ⟨#[]⟩, .int .i64 0, .string ⟨#[]⟩, .string ⟨#[]⟩, .int .i64 0] 23)) = W := ⟨_, rfl⟩
  have hsz : (w.alloc (.cells #[.int .i64 a0, .int .i64 a1, .int .i64 a2, .int .i64 a3, .int .i64 a4] 24)).heap.size = w.heap.size + 1 := by simp [World.alloc, -World.alloc_eq]
  have R0 := Aside0.mk (show W.heap[w.heap.size]? = some (.cells #[.int .i64 a0, .int .i64 a1, .int .i64 a2, .int .i64 a3, .int .i64 a4] 24 (0, 0)) by rw [← hW]; exact blk_alloc (blk_new w _) _)
  have K0 := Aside0.mk (show W.heap[w.heap.size + 1]? = some (.cells #[.string ⟨#[]⟩, .int .i64 0, .string ⟨#[]⟩, .string ⟨#[]⟩, .int .i64 0] 23 (0, 0)) by rw [← hW, ← hsz]; exact blk_new _ _)
  have HB0 := Aside0.mk (show Below w.heap.size w W by rw [← hW]; exact below_alloc (below_alloc (Below.refl _ _) _) _)
  have HW := Aside0.mk hW
  clear hW hsz
  go_enter Tryz.func5, Tryz.ntmps5
  go_wp2_with fail
  rw [HW.out]
  obtain ⟨B0, hB0⟩ : ∃ B, B = w.heap.size := ⟨_, rfl⟩
  obtain ⟨B1, hB1⟩ : ∃ B, B = w.heap.size + 1 := ⟨_, rfl⟩
  rw [← hB1] at K0 ⊢
  rw [← hB0] at R0 ⊢
  have HB1 := Aside0.mk hB1
  clear hB0 hB1
  refine start_ (n := 25) (S := fun w' => True) (ds := []) #[false, false, false, false, false, false, false, false, false, false, false, false, false, false, false, false, false, false, false, false, false, false, false, false, false] (by kernel_rfl) rfl rfl trivial (fun hHeld => ?_); refine with_tabW tL.tab tL.bits (fun HT_ HW_ => ?_)
  refine inv_at [0, 1, 2, 3, 4, 5, 6, 7, 8, 9, 10, 11, 12, 13, 14, 15, 16, 17, 18, 19, 20, 21, 22, 23, 24] (fun a0_ b a w' => ∃ (x0 : Nat) (x1 : Nat) (gb : Nat) (m4 : Value) (m14 : Value), a = putSel a0_ b [(0, 4, .slice (some ⟨x0, 0, none⟩) 3 3), (1, 5, .pointer (some ⟨B0, 0, none⟩)), (2, 6, .int .i64 a0), (3, 7, .int .i64 (k0 : Int)), (4, 8, m4), (5, 9, .string (srcOf k0)), (6, 10, .pointer (some ⟨B0, 1, none⟩)), (7, 11, .int .i64 a1), (8, 12, .int .i64 (k1 : Int)), (9, 13, .int .i64 (1 + (k1 : Int))), (10, 14, .slice (some ⟨x1, 0, none⟩) 4 4), (11, 15, .pointer (some ⟨B0, 2, none⟩)), (12, 16, .int .i64 a2), (13, 17, .int .i64 (k2 : Int)), (14, 18, m14), (15, 19, .string (skuOf k2)), (16, 20, .pointer (some ⟨B0, 3, none⟩)), (17, 21, .int .i64 a3), (18, 22, .string se), (19, 23, .pointer (some ⟨B0, 4, none⟩)), (20, 24, .int .i64 a4), (21, 25, .int .i64 (k4 : Int)), (22, 26, .agg #[.string (srcOf k0), .int .i64 (1 + (k1 : Int)), .string (skuOf k2), .string se, .int .i64 (k4 : Int)]), (23, 3, .pointer (some ⟨gb, 0, none⟩))] ∧ (w'.heap[B0]? = some (.cells #[.int .i64 a0, .int .i64 a1, .int .i64 a2, .int .i64 a3, .int .i64 a4] 24 (0, 0))) ∧ (w'.heap[B1]? = some (.cells #[.string ⟨#[]⟩, .int .i64 0, .string ⟨#[]⟩, .string ⟨#[]⟩, .int .i64 0] 23 (0, 0))) ∧ (Below w.heap.size w w') ∧ (b 0 = true → b 24 = false → w'.heap[x0]? = some (.cells #[.string ⟨#[97, 99, 109, 101]⟩, .string ⟨#[102, 101, 101, 100, 49]⟩, .string ⟨#[122]⟩] 9 (0, 0))) ∧ (b 10 = true → b 24 = false → w'.heap[x1]? = some (.cells #[.string ⟨#[109, 117, 103]⟩, .string ⟨#[99, 117, 112]⟩, .string ⟨#[112, 97, 110]⟩, .string ⟨#[112, 111, 116]⟩] 9 (0, 0))) ∧ (b 4 = true → m4 = .pointer (some ⟨x0, k0, none⟩)) ∧ (b 14 = true → m14 = .pointer (some ⟨x1, k2, none⟩)) ∧ (b 23 = true → b 24 = false → w'.heap[gb]? = some (.cells #[.string ⟨#[]⟩, .int .i64 0, .string ⟨#[]⟩, .string ⟨#[]⟩, .int .i64 0] 23 (0, 0))) ∧ (b 23 = true → w.heap.size ≤ gb) ∧ (b 23 = true → B0 ≠ gb) ∧ (b 23 = true → B1 ≠ gb) ∧ (b 24 = true → w'.heap[gb]? = some (.cells #[.string (srcOf k0), .int .i64 (1 + (k1 : Int)), .string (skuOf k2), .string se, .int .i64 (k4 : Int)] 23 (0, 0)))) HT_.out HW_.out (by kernel_rfl) (by kernel_rfl) ?_ ?_ ?_
  · exact ⟨0, 0, 0, .bool false, .bool false, by simp only [putSel, Bool.false_eq_true, if_false], R0.out, K0.out, (by apply below_drew1; exact HB0.out), fun h_ => absurd h_ (by decide), fun h_ => absurd h_ (by decide), fun h_ => absurd h_ (by decide), fun h_ => absurd h_ (by decide), fun h_ => absurd h_ (by decide), fun h_ => absurd h_ (by decide), fun h_ => absurd h_ (by decide), fun h_ => absurd h_ (by decide), fun h_ => absurd h_ (by decide)⟩
  · skip
    refine steps_cons ?_ ?_
    · rintro b a w' ⟨x0, x1, gb, m4, m14, ha, Q_RB, Q_BK, Q_BB, Q_X0, Q_X1, Q_P4, Q_P14, Q_NB, Q_NG, Q_N0, Q_N1, Q_NV⟩ hb_ hon hoff
      refine ⟨_, rfl, fun K hK => ?_⟩
      replace ha := Aside0.mk ha
      have R_RB := Q_RB
      have R_BK := Q_BK
      have R_BB := Q_BB
      replace R_RB := Aside0.mk R_RB
      replace R_BK := Aside0.mk R_BK
      replace R_BB := Aside0.mk R_BB
      refine value_ (w1 := w'.alloc (.cells #[.string ⟨#[97, 99, 109, 101]⟩, .string ⟨#[102, 101, 101, 100, 49]⟩, .string ⟨#[122]⟩] 9)) (v := .slice (some ⟨w'.heap.size, 0, none⟩) 3 3) (by rfl) rfl ?_ ?_
      · go_simp
        (try simp only [i64_w])
        try rfl
      have hb : Below w'.heap.size w' (w'.alloc (.cells #[.string ⟨#[97, 99, 109, 101]⟩, .string ⟨#[102, 101, 101, 100, 49]⟩, .string ⟨#[122]⟩] 9)) := below_alloc (Below.refl _ _) _
      refine hK.out _ _ ⟨w'.heap.size, x1, gb, m4, m14, (by rw [ha.out]; exact putSel_upk 0 hb_ rfl rfl rfl), blk_below Q_RB hb, blk_below Q_BK hb, below_step Q_BB hb, fun _ _ => blk_new w' _, fun h0_ h1_ => blk_below (Q_X1 h0_ h1_) hb, fun h0_ => absurd ((hoff 4 (by kernel_rfl)).symm.trans h0_) (by decide), Q_P14, fun h0_ h1_ => blk_below (Q_NB h0_ h1_) hb, Q_NG, Q_N0, Q_N1, fun h0_ => absurd ((hoff 24 (by kernel_rfl)).symm.trans h0_) (by decide)⟩
    refine steps_cons ?_ ?_
    · rintro b a w' ⟨x0, x1, gb, m4, m14, ha, Q_RB, Q_BK, Q_BB, Q_X0, Q_X1, Q_P4, Q_P14, Q_NB, Q_NG, Q_N0, Q_N1, Q_NV⟩ hb_ hon hoff
      refine ⟨_, rfl, fun K hK => ?_⟩
      have e1 : a.tmps[1]? = some (.pointer (some ⟨B0, 0, none⟩)) := by rw [ha]; exact (putSel_off rfl).trans rfl
      replace ha := Aside0.mk ha
      have R_RB := Q_RB
      have R_BK := Q_BK
      have R_BB := Q_BB
      replace R_RB := Aside0.mk R_RB
      replace R_BK := Aside0.mk R_BK
      replace R_BB := Aside0.mk R_BB
      refine value_ (w1 := w') (v := .pointer (some ⟨B0, 0, none⟩)) (by rfl) rfl ?_ ?_
      · go_simp
        (try simp only [i64_w])
        try rfl
      refine hK.out _ _ ⟨x0, x1, gb, m4, m14, (by rw [ha.out]; exact putSel_upk 1 hb_ rfl rfl rfl), Q_RB, Q_BK, Q_BB, Q_X0, Q_X1, fun h0_ => absurd ((hoff 4 (by kernel_rfl)).symm.trans h0_) (by decide), fun h0_ => absurd ((hoff 14 (by kernel_rfl)).symm.trans h0_) (by decide), Q_NB, Q_NG, Q_N0, Q_N1, fun h0_ => absurd ((hoff 24 (by kernel_rfl)).symm.trans h0_) (by decide)⟩
    refine steps_cons ?_ ?_
    · rintro b a w' ⟨x0, x1, gb, m4, m14, ha, Q_RB, Q_BK, Q_BB, Q_X0, Q_X1, Q_P4, Q_P14, Q_NB, Q_NG, Q_N0, Q_N1, Q_NV⟩ hb_ hon hoff
      refine ⟨_, rfl, fun K hK => ?_⟩
      have e5 : a.tmps[5]? = some (.pointer (some ⟨B0, 0, none⟩)) := by rw [ha]; exact putSel_on (e := (1, 5, .pointer (some ⟨B0, 0, none⟩))) 1 rfl rfl (hon 1 (by kernel_rfl)) rfl
      replace ha := Aside0.mk ha
      have R_RB := Q_RB
      have R_BK := Q_BK
      have R_BB := Q_BB
      replace R_RB := Aside0.mk R_RB
      replace R_BK := Aside0.mk R_BK
      replace R_BB := Aside0.mk R_BB
      have c := (blk_cell R_RB.out 0).trans (show _ = some (Value.int .i64 a0) from rfl)
      refine value_ (w1 := w') (v := .int .i64 a0) (by rfl) rfl ?_ ?_
      · go_simp
        (try simp only [i64_w])
        try rfl
      refine hK.out _ _ ⟨x0, x1, gb, m4, m14, (by rw [ha.out]; exact putSel_upk 2 hb_ rfl rfl rfl), Q_RB, Q_BK, Q_BB, Q_X0, Q_X1, fun h0_ => absurd ((hoff 4 (by kernel_rfl)).symm.trans h0_) (by decide), fun h0_ => absurd ((hoff 14 (by kernel_rfl)).symm.trans h0_) (by decide), Q_NB, Q_NG, Q_N0, Q_N1, fun h0_ => absurd ((hoff 24 (by kernel_rfl)).symm.trans h0_) (by decide)⟩
    refine steps_cons ?_ ?_
    · rintro b a w' ⟨x0, x1, gb, m4, m14, ha, Q_RB, Q_BK, Q_BB, Q_X0, Q_X1, Q_P4, Q_P14, Q_NB, Q_NG, Q_N0, Q_N1, Q_NV⟩ hb_ hon hoff
      refine ⟨_, rfl, fun K hK => ?_⟩
      have e6 : a.tmps[6]? = some (.int .i64 a0) := by rw [ha]; exact putSel_on (e := (2, 6, .int .i64 a0)) 2 rfl rfl (hon 2 (by kernel_rfl)) rfl
      replace ha := Aside0.mk ha
      have R_RB := Q_RB
      have R_BK := Q_BK
      have R_BB := Q_BB
      replace R_RB := Aside0.mk R_RB
      replace R_BK := Aside0.mk R_BK
      replace R_BB := Aside0.mk R_BB
      refine goes_ Tryz.func10 (by kernel_rfl) rfl #[.int .i64 a0, .int .i64 3] (by rfl) rfl rfl (by first | (simp only [List.map_toArray, List.map_cons, List.map_nil, Act.eval, Array.getD_eq_getD_getElem?, Option.getD_some, e6]; done) | (simp only [List.map_toArray, List.map_cons, List.map_nil, Act.eval, Array.getD_eq_getD_getElem?, Option.getD_some, e6]; rfl)) ?_
      with_reducible refine (pick_calls a0 3 _ H0.out (by decide) (by decide)).mono ?_
      rintro e v2 ⟨rfl, rfl⟩
      rw [hk0.out]
      refine ⟨_, rfl, ?_⟩
      refine hK.out _ _ ⟨x0, x1, gb, m4, m14, (by rw [ha.out]; exact putSel_upk 3 hb_ rfl rfl rfl), Q_RB, Q_BK, Q_BB, Q_X0, Q_X1, fun h0_ => absurd ((hoff 4 (by kernel_rfl)).symm.trans h0_) (by decide), fun h0_ => absurd ((hoff 14 (by kernel_rfl)).symm.trans h0_) (by decide), Q_NB, Q_NG, Q_N0, Q_N1, fun h0_ => absurd ((hoff 24 (by kernel_rfl)).symm.trans h0_) (by decide)⟩
    refine steps_cons ?_ ?_
    · rintro b a w' ⟨x0, x1, gb, m4, m14, ha, Q_RB, Q_BK, Q_BB, Q_X0, Q_X1, Q_P4, Q_P14, Q_NB, Q_NG, Q_N0, Q_N1, Q_NV⟩ hb_ hon hoff
      refine ⟨_, rfl, fun K hK => ?_⟩
      have e4 : a.tmps[4]? = some (.slice (some ⟨x0, 0, none⟩) 3 3) := by rw [ha]; exact putSel_on (e := (0, 4, .slice (some ⟨x0, 0, none⟩) 3 3)) 0 rfl rfl (hon 0 (by kernel_rfl)) rfl
      have e7 : a.tmps[7]? = some (.int .i64 (k0 : Int)) := by rw [ha]; exact putSel_on (e := (3, 7, .int .i64 (k0 : Int))) 3 rfl rfl (hon 3 (by kernel_rfl)) rfl
      replace ha := Aside0.mk ha
      have R_RB := Q_RB
      have R_BK := Q_BK
      have R_BB := Q_BB
      have R_X0 := Q_X0 (hon 0 (by kernel_rfl)) (hoff 24 (by kernel_rfl))
      replace R_RB := Aside0.mk R_RB
      replace R_BK := Aside0.mk R_BK
      replace R_BB := Aside0.mk R_BB
      replace R_X0 := Aside0.mk R_X0
      have l0 : (3 ≤ (k0 : Int)) = False := eq_false (by have := L0.out; omega)
      refine value_ (w1 := w') (v := .pointer (some ⟨x0, k0, none⟩)) (by rfl) rfl ?_ ?_
      · go_simp
        (try simp only [i64_w])
        try rfl
      refine hK.out _ _ ⟨x0, x1, gb, .pointer (some ⟨x0, k0, none⟩), m14, (by rw [ha.out]; exact putSel_upk 4 hb_ rfl rfl rfl), Q_RB, Q_BK, Q_BB, Q_X0, Q_X1, fun _ => rfl, Q_P14, Q_NB, Q_NG, Q_N0, Q_N1, fun h0_ => absurd ((hoff 24 (by kernel_rfl)).symm.trans h0_) (by decide)⟩
    refine steps_cons ?_ ?_
    · rintro b a w' ⟨x0, x1, gb, m4, m14, ha, Q_RB, Q_BK, Q_BB, Q_X0, Q_X1, Q_P4, Q_P14, Q_NB, Q_NG, Q_N0, Q_N1, Q_NV⟩ hb_ hon hoff
      refine ⟨_, rfl, fun K hK => ?_⟩
      have e8 : a.tmps[8]? = some (m4) := by rw [ha]; exact putSel_on (e := (4, 8, m4)) 4 rfl rfl (hon 4 (by kernel_rfl)) rfl
      replace ha := Aside0.mk ha
      have R_RB := Q_RB
      have R_BK := Q_BK
      have R_BB := Q_BB
      have R_X0 := Q_X0 (hon 0 (by kernel_rfl)) (hoff 24 (by kernel_rfl))
      have R_P4 := Q_P4 (hon 4 (by kernel_rfl))
      replace R_RB := Aside0.mk R_RB
      replace R_BK := Aside0.mk R_BK
      replace R_BB := Aside0.mk R_BB
      replace R_X0 := Aside0.mk R_X0
      replace R_P4 := Aside0.mk R_P4
      rw [R_P4.out] at e8
      have c := (blk_cell R_X0.out k0).trans (src_at k0 L0.out)
      refine value_ (w1 := w') (v := .string (srcOf k0)) (by rfl) rfl ?_ ?_
      · go_simp
        (try simp only [i64_w])
        try rfl
      refine hK.out _ _ ⟨x0, x1, gb, m4, m14, (by rw [ha.out]; exact putSel_upk 5 hb_ rfl rfl rfl), Q_RB, Q_BK, Q_BB, Q_X0, Q_X1, Q_P4, Q_P14, Q_NB, Q_NG, Q_N0, Q_N1, fun h0_ => absurd ((hoff 24 (by kernel_rfl)).symm.trans h0_) (by decide)⟩
    refine steps_cons ?_ ?_
    · rintro b a w' ⟨x0, x1, gb, m4, m14, ha, Q_RB, Q_BK, Q_BB, Q_X0, Q_X1, Q_P4, Q_P14, Q_NB, Q_NG, Q_N0, Q_N1, Q_NV⟩ hb_ hon hoff
      refine ⟨_, rfl, fun K hK => ?_⟩
      have e1 : a.tmps[1]? = some (.pointer (some ⟨B0, 0, none⟩)) := by rw [ha]; exact (putSel_off rfl).trans rfl
      replace ha := Aside0.mk ha
      have R_RB := Q_RB
      have R_BK := Q_BK
      have R_BB := Q_BB
      replace R_RB := Aside0.mk R_RB
      replace R_BK := Aside0.mk R_BK
      replace R_BB := Aside0.mk R_BB
      refine value_ (w1 := w') (v := .pointer (some ⟨B0, 1, none⟩)) (by rfl) rfl ?_ ?_
      · go_simp
        (try simp only [i64_w])
        try rfl
      refine hK.out _ _ ⟨x0, x1, gb, m4, m14, (by rw [ha.out]; exact putSel_upk 6 hb_ rfl rfl rfl), Q_RB, Q_BK, Q_BB, Q_X0, Q_X1, Q_P4, fun h0_ => absurd ((hoff 14 (by kernel_rfl)).symm.trans h0_) (by decide), Q_NB, Q_NG, Q_N0, Q_N1, fun h0_ => absurd ((hoff 24 (by kernel_rfl)).symm.trans h0_) (by decide)⟩
    refine steps_cons ?_ ?_
    · rintro b a w' ⟨x0, x1, gb, m4, m14, ha, Q_RB, Q_BK, Q_BB, Q_X0, Q_X1, Q_P4, Q_P14, Q_NB, Q_NG, Q_N0, Q_N1, Q_NV⟩ hb_ hon hoff
      refine ⟨_, rfl, fun K hK => ?_⟩
      have e10 : a.tmps[10]? = some (.pointer (some ⟨B0, 1, none⟩)) := by rw [ha]; exact putSel_on (e := (6, 10, .pointer (some ⟨B0, 1, none⟩))) 6 rfl rfl (hon 6 (by kernel_rfl)) rfl
      replace ha := Aside0.mk ha
      have R_RB := Q_RB
      have R_BK := Q_BK
      have R_BB := Q_BB
      replace R_RB := Aside0.mk R_RB
      replace R_BK := Aside0.mk R_BK
      replace R_BB := Aside0.mk R_BB
      have c := (blk_cell R_RB.out 1).trans (show _ = some (Value.int .i64 a1) from rfl)
      refine value_ (w1 := w') (v := .int .i64 a1) (by rfl) rfl ?_ ?_
      · go_simp
        (try simp only [i64_w])
        try rfl
      refine hK.out _ _ ⟨x0, x1, gb, m4, m14, (by rw [ha.out]; exact putSel_upk 7 hb_ rfl rfl rfl), Q_RB, Q_BK, Q_BB, Q_X0, Q_X1, Q_P4, fun h0_ => absurd ((hoff 14 (by kernel_rfl)).symm.trans h0_) (by decide), Q_NB, Q_NG, Q_N0, Q_N1, fun h0_ => absurd ((hoff 24 (by kernel_rfl)).symm.trans h0_) (by decide)⟩
    refine steps_cons ?_ ?_
    · rintro b a w' ⟨x0, x1, gb, m4, m14, ha, Q_RB, Q_BK, Q_BB, Q_X0, Q_X1, Q_P4, Q_P14, Q_NB, Q_NG, Q_N0, Q_N1, Q_NV⟩ hb_ hon hoff
      refine ⟨_, rfl, fun K hK => ?_⟩
      have e11 : a.tmps[11]? = some (.int .i64 a1) := by rw [ha]; exact putSel_on (e := (7, 11, .int .i64 a1)) 7 rfl rfl (hon 7 (by kernel_rfl)) rfl
      replace ha := Aside0.mk ha
      have R_RB := Q_RB
      have R_BK := Q_BK
      have R_BB := Q_BB
      replace R_RB := Aside0.mk R_RB
      replace R_BK := Aside0.mk R_BK
      replace R_BB := Aside0.mk R_BB
      refine goes_ Tryz.func10 (by kernel_rfl) rfl #[.int .i64 a1, .int .i64 60] (by rfl) rfl rfl (by first | (simp only [List.map_toArray, List.map_cons, List.map_nil, Act.eval, Array.getD_eq_getD_getElem?, Option.getD_some, e11]; done) | (simp only [List.map_toArray, List.map_cons, List.map_nil, Act.eval, Array.getD_eq_getD_getElem?, Option.getD_some, e11]; rfl)) ?_
      with_reducible refine (pick_calls a1 60 _ H1.out (by decide) (by decide)).mono ?_
      rintro e v2 ⟨rfl, rfl⟩
      rw [hk1.out]
      refine ⟨_, rfl, ?_⟩
      refine hK.out _ _ ⟨x0, x1, gb, m4, m14, (by rw [ha.out]; exact putSel_upk 8 hb_ rfl rfl rfl), Q_RB, Q_BK, Q_BB, Q_X0, Q_X1, Q_P4, fun h0_ => absurd ((hoff 14 (by kernel_rfl)).symm.trans h0_) (by decide), Q_NB, Q_NG, Q_N0, Q_N1, fun h0_ => absurd ((hoff 24 (by kernel_rfl)).symm.trans h0_) (by decide)⟩
    refine steps_cons ?_ ?_
    · rintro b a w' ⟨x0, x1, gb, m4, m14, ha, Q_RB, Q_BK, Q_BB, Q_X0, Q_X1, Q_P4, Q_P14, Q_NB, Q_NG, Q_N0, Q_N1, Q_NV⟩ hb_ hon hoff
      refine ⟨_, rfl, fun K hK => ?_⟩
      have e12 : a.tmps[12]? = some (.int .i64 (k1 : Int)) := by rw [ha]; exact putSel_on (e := (8, 12, .int .i64 (k1 : Int))) 8 rfl rfl (hon 8 (by kernel_rfl)) rfl
      replace ha := Aside0.mk ha
      have R_RB := Q_RB
      have R_BK := Q_BK
      have R_BB := Q_BB
      replace R_RB := Aside0.mk R_RB
      replace R_BK := Aside0.mk R_BK
      replace R_BB := Aside0.mk R_BB
      refine value_ (w1 := w') (v := .int .i64 (1 + (k1 : Int))) (by rfl) rfl ?_ ?_
      · go_simp
        (try simp only [i64_w])
        try rfl
        rw [W1.out]
      refine hK.out _ _ ⟨x0, x1, gb, m4, m14, (by rw [ha.out]; exact putSel_upk 9 hb_ rfl rfl rfl), Q_RB, Q_BK, Q_BB, Q_X0, Q_X1, Q_P4, Q_P14, Q_NB, Q_NG, Q_N0, Q_N1, fun h0_ => absurd ((hoff 24 (by kernel_rfl)).symm.trans h0_) (by decide)⟩
    refine steps_cons ?_ ?_
    · rintro b a w' ⟨x0, x1, gb, m4, m14, ha, Q_RB, Q_BK, Q_BB, Q_X0, Q_X1, Q_P4, Q_P14, Q_NB, Q_NG, Q_N0, Q_N1, Q_NV⟩ hb_ hon hoff
      refine ⟨_, rfl, fun K hK => ?_⟩
      replace ha := Aside0.mk ha
      have R_RB := Q_RB
      have R_BK := Q_BK
      have R_BB := Q_BB
      replace R_RB := Aside0.mk R_RB
      replace R_BK := Aside0.mk R_BK
      replace R_BB := Aside0.mk R_BB
      refine value_ (w1 := w'.alloc (.cells #[.string ⟨#[109, 117, 103]⟩, .string ⟨#[99, 117, 112]⟩, .string ⟨#[112, 97, 110]⟩, .string ⟨#[112, 111, 116]⟩] 9)) (v := .slice (some ⟨w'.heap.size, 0, none⟩) 4 4) (by rfl) rfl ?_ ?_
      · go_simp
        (try simp only [i64_w])
        try rfl
      have hb : Below w'.heap.size w' (w'.alloc (.cells #[.string ⟨#[109, 117, 103]⟩, .string ⟨#[99, 117, 112]⟩, .string ⟨#[112, 97, 110]⟩, .string ⟨#[112, 111, 116]⟩] 9)) := below_alloc (Below.refl _ _) _
      refine hK.out _ _ ⟨x0, w'.heap.size, gb, m4, m14, (by rw [ha.out]; exact putSel_upk 10 hb_ rfl rfl rfl), blk_below Q_RB hb, blk_below Q_BK hb, below_step Q_BB hb, fun h0_ h1_ => blk_below (Q_X0 h0_ h1_) hb, fun _ _ => blk_new w' _, Q_P4, fun h0_ => absurd ((hoff 14 (by kernel_rfl)).symm.trans h0_) (by decide), fun h0_ h1_ => blk_below (Q_NB h0_ h1_) hb, Q_NG, Q_N0, Q_N1, fun h0_ => absurd ((hoff 24 (by kernel_rfl)).symm.trans h0_) (by decide)⟩
    refine steps_cons ?_ ?_
    · rintro b a w' ⟨x0, x1, gb, m4, m14, ha, Q_RB, Q_BK, Q_BB, Q_X0, Q_X1, Q_P4, Q_P14, Q_NB, Q_NG, Q_N0, Q_N1, Q_NV⟩ hb_ hon hoff
      refine ⟨_, rfl, fun K hK => ?_⟩
      have e1 : a.tmps[1]? = some (.pointer (some ⟨B0, 0, none⟩)) := by rw [ha]; exact (putSel_off rfl).trans rfl
      replace ha := Aside0.mk ha
      have R_RB := Q_RB
      have R_BK := Q_BK
      have R_BB := Q_BB
      replace R_RB := Aside0.mk R_RB
      replace R_BK := Aside0.mk R_BK
      replace R_BB := Aside0.mk R_BB
      refine value_ (w1 := w') (v := .pointer (some ⟨B0, 2, none⟩)) (by rfl) rfl ?_ ?_
      · go_simp
        (try simp only [i64_w])
        try rfl
      refine hK.out _ _ ⟨x0, x1, gb, m4, m14, (by rw [ha.out]; exact putSel_upk 11 hb_ rfl rfl rfl), Q_RB, Q_BK, Q_BB, Q_X0, Q_X1, Q_P4, fun h0_ => absurd ((hoff 14 (by kernel_rfl)).symm.trans h0_) (by decide), Q_NB, Q_NG, Q_N0, Q_N1, fun h0_ => absurd ((hoff 24 (by kernel_rfl)).symm.trans h0_) (by decide)⟩
    refine steps_cons ?_ ?_
    · rintro b a w' ⟨x0, x1, gb, m4, m14, ha, Q_RB, Q_BK, Q_BB, Q_X0, Q_X1, Q_P4, Q_P14, Q_NB, Q_NG, Q_N0, Q_N1, Q_NV⟩ hb_ hon hoff
      refine ⟨_, rfl, fun K hK => ?_⟩
      have e15 : a.tmps[15]? = some (.pointer (some ⟨B0, 2, none⟩)) := by rw [ha]; exact putSel_on (e := (11, 15, .pointer (some ⟨B0, 2, none⟩))) 11 rfl rfl (hon 11 (by kernel_rfl)) rfl
      replace ha := Aside0.mk ha
      have R_RB := Q_RB
      have R_BK := Q_BK
      have R_BB := Q_BB
      replace R_RB := Aside0.mk R_RB
      replace R_BK := Aside0.mk R_BK
      replace R_BB := Aside0.mk R_BB
      have c := (blk_cell R_RB.out 2).trans (show _ = some (Value.int .i64 a2) from rfl)
      refine value_ (w1 := w') (v := .int .i64 a2) (by rfl) rfl ?_ ?_
      · go_simp
        (try simp only [i64_w])
        try rfl
      refine hK.out _ _ ⟨x0, x1, gb, m4, m14, (by rw [ha.out]; exact putSel_upk 12 hb_ rfl rfl rfl), Q_RB, Q_BK, Q_BB, Q_X0, Q_X1, Q_P4, fun h0_ => absurd ((hoff 14 (by kernel_rfl)).symm.trans h0_) (by decide), Q_NB, Q_NG, Q_N0, Q_N1, fun h0_ => absurd ((hoff 24 (by kernel_rfl)).symm.trans h0_) (by decide)⟩
    refine steps_cons ?_ ?_
    · rintro b a w' ⟨x0, x1, gb, m4, m14, ha, Q_RB, Q_BK, Q_BB, Q_X0, Q_X1, Q_P4, Q_P14, Q_NB, Q_NG, Q_N0, Q_N1, Q_NV⟩ hb_ hon hoff
      refine ⟨_, rfl, fun K hK => ?_⟩
      have e16 : a.tmps[16]? = some (.int .i64 a2) := by rw [ha]; exact putSel_on (e := (12, 16, .int .i64 a2)) 12 rfl rfl (hon 12 (by kernel_rfl)) rfl
      replace ha := Aside0.mk ha
      have R_RB := Q_RB
      have R_BK := Q_BK
      have R_BB := Q_BB
      replace R_RB := Aside0.mk R_RB
      replace R_BK := Aside0.mk R_BK
      replace R_BB := Aside0.mk R_BB
      refine goes_ Tryz.func10 (by kernel_rfl) rfl #[.int .i64 a2, .int .i64 4] (by rfl) rfl rfl (by first | (simp only [List.map_toArray, List.map_cons, List.map_nil, Act.eval, Array.getD_eq_getD_getElem?, Option.getD_some, e16]; done) | (simp only [List.map_toArray, List.map_cons, List.map_nil, Act.eval, Array.getD_eq_getD_getElem?, Option.getD_some, e16]; rfl)) ?_
      with_reducible refine (pick_calls a2 4 _ H2.out (by decide) (by decide)).mono ?_
      rintro e v2 ⟨rfl, rfl⟩
      rw [hk2.out]
      refine ⟨_, rfl, ?_⟩
      refine hK.out _ _ ⟨x0, x1, gb, m4, m14, (by rw [ha.out]; exact putSel_upk 13 hb_ rfl rfl rfl), Q_RB, Q_BK, Q_BB, Q_X0, Q_X1, Q_P4, fun h0_ => absurd ((hoff 14 (by kernel_rfl)).symm.trans h0_) (by decide), Q_NB, Q_NG, Q_N0, Q_N1, fun h0_ => absurd ((hoff 24 (by kernel_rfl)).symm.trans h0_) (by decide)⟩
    refine steps_cons ?_ ?_
    · rintro b a w' ⟨x0, x1, gb, m4, m14, ha, Q_RB, Q_BK, Q_BB, Q_X0, Q_X1, Q_P4, Q_P14, Q_NB, Q_NG, Q_N0, Q_N1, Q_NV⟩ hb_ hon hoff
      refine ⟨_, rfl, fun K hK => ?_⟩
      have e14 : a.tmps[14]? = some (.slice (some ⟨x1, 0, none⟩) 4 4) := by rw [ha]; exact putSel_on (e := (10, 14, .slice (some ⟨x1, 0, none⟩) 4 4)) 10 rfl rfl (hon 10 (by kernel_rfl)) rfl
      have e17 : a.tmps[17]? = some (.int .i64 (k2 : Int)) := by rw [ha]; exact putSel_on (e := (13, 17, .int .i64 (k2 : Int))) 13 rfl rfl (hon 13 (by kernel_rfl)) rfl
      replace ha := Aside0.mk ha
      have R_RB := Q_RB
      have R_BK := Q_BK
      have R_BB := Q_BB
      have R_X1 := Q_X1 (hon 10 (by kernel_rfl)) (hoff 24 (by kernel_rfl))
      replace R_RB := Aside0.mk R_RB
      replace R_BK := Aside0.mk R_BK
      replace R_BB := Aside0.mk R_BB
      replace R_X1 := Aside0.mk R_X1
      have l2 : (4 ≤ (k2 : Int)) = False := eq_false (by have := L2.out; omega)
      refine value_ (w1 := w') (v := .pointer (some ⟨x1, k2, none⟩)) (by rfl) rfl ?_ ?_
      · go_simp
        (try simp only [i64_w])
        try rfl
      refine hK.out _ _ ⟨x0, x1, gb, m4, .pointer (some ⟨x1, k2, none⟩), (by rw [ha.out]; exact putSel_upk 14 hb_ rfl rfl rfl), Q_RB, Q_BK, Q_BB, Q_X0, Q_X1, Q_P4, fun _ => rfl, Q_NB, Q_NG, Q_N0, Q_N1, fun h0_ => absurd ((hoff 24 (by kernel_rfl)).symm.trans h0_) (by decide)⟩
    refine steps_cons ?_ ?_
    · rintro b a w' ⟨x0, x1, gb, m4, m14, ha, Q_RB, Q_BK, Q_BB, Q_X0, Q_X1, Q_P4, Q_P14, Q_NB, Q_NG, Q_N0, Q_N1, Q_NV⟩ hb_ hon hoff
      refine ⟨_, rfl, fun K hK => ?_⟩
      have e18 : a.tmps[18]? = some (m14) := by rw [ha]; exact putSel_on (e := (14, 18, m14)) 14 rfl rfl (hon 14 (by kernel_rfl)) rfl
      replace ha := Aside0.mk ha
      have R_RB := Q_RB
      have R_BK := Q_BK
      have R_BB := Q_BB
      have R_X1 := Q_X1 (hon 10 (by kernel_rfl)) (hoff 24 (by kernel_rfl))
      have R_P14 := Q_P14 (hon 14 (by kernel_rfl))
      replace R_RB := Aside0.mk R_RB
      replace R_BK := Aside0.mk R_BK
      replace R_BB := Aside0.mk R_BB
      replace R_X1 := Aside0.mk R_X1
      replace R_P14 := Aside0.mk R_P14
      rw [R_P14.out] at e18
      have c := (blk_cell R_X1.out k2).trans (sku_at k2 L2.out)
      refine value_ (w1 := w') (v := .string (skuOf k2)) (by rfl) rfl ?_ ?_
      · go_simp
        (try simp only [i64_w])
        try rfl
      refine hK.out _ _ ⟨x0, x1, gb, m4, m14, (by rw [ha.out]; exact putSel_upk 15 hb_ rfl rfl rfl), Q_RB, Q_BK, Q_BB, Q_X0, Q_X1, Q_P4, Q_P14, Q_NB, Q_NG, Q_N0, Q_N1, fun h0_ => absurd ((hoff 24 (by kernel_rfl)).symm.trans h0_) (by decide)⟩
    refine steps_cons ?_ ?_
    · rintro b a w' ⟨x0, x1, gb, m4, m14, ha, Q_RB, Q_BK, Q_BB, Q_X0, Q_X1, Q_P4, Q_P14, Q_NB, Q_NG, Q_N0, Q_N1, Q_NV⟩ hb_ hon hoff
      refine ⟨_, rfl, fun K hK => ?_⟩
      have e1 : a.tmps[1]? = some (.pointer (some ⟨B0, 0, none⟩)) := by rw [ha]; exact (putSel_off rfl).trans rfl
      replace ha := Aside0.mk ha
      have R_RB := Q_RB
      have R_BK := Q_BK
      have R_BB := Q_BB
      replace R_RB := Aside0.mk R_RB
      replace R_BK := Aside0.mk R_BK
      replace R_BB := Aside0.mk R_BB
      refine value_ (w1 := w') (v := .pointer (some ⟨B0, 3, none⟩)) (by rfl) rfl ?_ ?_
      · go_simp
        (try simp only [i64_w])
        try rfl
      refine hK.out _ _ ⟨x0, x1, gb, m4, m14, (by rw [ha.out]; exact putSel_upk 16 hb_ rfl rfl rfl), Q_RB, Q_BK, Q_BB, Q_X0, Q_X1, Q_P4, Q_P14, Q_NB, Q_NG, Q_N0, Q_N1, fun h0_ => absurd ((hoff 24 (by kernel_rfl)).symm.trans h0_) (by decide)⟩
    refine steps_cons ?_ ?_
    · rintro b a w' ⟨x0, x1, gb, m4, m14, ha, Q_RB, Q_BK, Q_BB, Q_X0, Q_X1, Q_P4, Q_P14, Q_NB, Q_NG, Q_N0, Q_N1, Q_NV⟩ hb_ hon hoff
      refine ⟨_, rfl, fun K hK => ?_⟩
      have e20 : a.tmps[20]? = some (.pointer (some ⟨B0, 3, none⟩)) := by rw [ha]; exact putSel_on (e := (16, 20, .pointer (some ⟨B0, 3, none⟩))) 16 rfl rfl (hon 16 (by kernel_rfl)) rfl
      replace ha := Aside0.mk ha
      have R_RB := Q_RB
      have R_BK := Q_BK
      have R_BB := Q_BB
      replace R_RB := Aside0.mk R_RB
      replace R_BK := Aside0.mk R_BK
      replace R_BB := Aside0.mk R_BB
      have c := (blk_cell R_RB.out 3).trans (show _ = some (Value.int .i64 a3) from rfl)
      refine value_ (w1 := w') (v := .int .i64 a3) (by rfl) rfl ?_ ?_
      · go_simp
        (try simp only [i64_w])
        try rfl
      refine hK.out _ _ ⟨x0, x1, gb, m4, m14, (by rw [ha.out]; exact putSel_upk 17 hb_ rfl rfl rfl), Q_RB, Q_BK, Q_BB, Q_X0, Q_X1, Q_P4, Q_P14, Q_NB, Q_NG, Q_N0, Q_N1, fun h0_ => absurd ((hoff 24 (by kernel_rfl)).symm.trans h0_) (by decide)⟩
    refine steps_cons ?_ ?_
    · rintro b a w' ⟨x0, x1, gb, m4, m14, ha, Q_RB, Q_BK, Q_BB, Q_X0, Q_X1, Q_P4, Q_P14, Q_NB, Q_NG, Q_N0, Q_N1, Q_NV⟩ hb_ hon hoff
      refine ⟨_, rfl, fun K hK => ?_⟩
      have e21 : a.tmps[21]? = some (.int .i64 a3) := by rw [ha]; exact putSel_on (e := (17, 21, .int .i64 a3)) 17 rfl rfl (hon 17 (by kernel_rfl)) rfl
      replace ha := Aside0.mk ha
      have R_RB := Q_RB
      have R_BK := Q_BK
      have R_BB := Q_BB
      replace R_RB := Aside0.mk R_RB
      replace R_BK := Aside0.mk R_BK
      replace R_BB := Aside0.mk R_BB
      refine goes_ Tryz.func13 (by kernel_rfl) rfl #[.int .i64 a3] (by rfl) rfl rfl (by first | (simp only [List.map_toArray, List.map_cons, List.map_nil, Act.eval, Array.getD_eq_getD_getElem?, Option.getD_some, e21]; done) | (simp only [List.map_toArray, List.map_cons, List.map_nil, Act.eval, Array.getD_eq_getD_getElem?, Option.getD_some, e21]; rfl)) ?_
      with_reducible refine (hagglerlaw06_Seller.calls 3 a3 se _ hse.out).mono ?_
      rintro e v2 ⟨rfl, hb⟩
      refine ⟨_, rfl, ?_⟩
      refine hK.out _ _ ⟨x0, x1, gb, m4, m14, (by rw [ha.out]; exact putSel_upk 18 hb_ rfl rfl rfl), blk_below Q_RB hb, blk_below Q_BK hb, below_step Q_BB hb, fun h0_ h1_ => blk_below (Q_X0 h0_ h1_) hb, fun h0_ h1_ => blk_below (Q_X1 h0_ h1_) hb, Q_P4, Q_P14, fun h0_ h1_ => blk_below (Q_NB h0_ h1_) hb, Q_NG, Q_N0, Q_N1, fun h0_ => absurd ((hoff 24 (by kernel_rfl)).symm.trans h0_) (by decide)⟩
    refine steps_cons ?_ ?_
    · rintro b a w' ⟨x0, x1, gb, m4, m14, ha, Q_RB, Q_BK, Q_BB, Q_X0, Q_X1, Q_P4, Q_P14, Q_NB, Q_NG, Q_N0, Q_N1, Q_NV⟩ hb_ hon hoff
      refine ⟨_, rfl, fun K hK => ?_⟩
      have e1 : a.tmps[1]? = some (.pointer (some ⟨B0, 0, none⟩)) := by rw [ha]; exact (putSel_off rfl).trans rfl
      replace ha := Aside0.mk ha
      have R_RB := Q_RB
      have R_BK := Q_BK
      have R_BB := Q_BB
      replace R_RB := Aside0.mk R_RB
      replace R_BK := Aside0.mk R_BK
      replace R_BB := Aside0.mk R_BB
      refine value_ (w1 := w') (v := .pointer (some ⟨B0, 4, none⟩)) (by rfl) rfl ?_ ?_
      · go_simp
        (try simp only [i64_w])
        try rfl
      refine hK.out _ _ ⟨x0, x1, gb, m4, m14, (by rw [ha.out]; exact putSel_upk 19 hb_ rfl rfl rfl), Q_RB, Q_BK, Q_BB, Q_X0, Q_X1, Q_P4, Q_P14, Q_NB, Q_NG, Q_N0, Q_N1, fun h0_ => absurd ((hoff 24 (by kernel_rfl)).symm.trans h0_) (by decide)⟩
    refine steps_cons ?_ ?_
    · rintro b a w' ⟨x0, x1, gb, m4, m14, ha, Q_RB, Q_BK, Q_BB, Q_X0, Q_X1, Q_P4, Q_P14, Q_NB, Q_NG, Q_N0, Q_N1, Q_NV⟩ hb_ hon hoff
      refine ⟨_, rfl, fun K hK => ?_⟩
      have e23 : a.tmps[23]? = some (.pointer (some ⟨B0, 4, none⟩)) := by rw [ha]; exact putSel_on (e := (19, 23, .pointer (some ⟨B0, 4, none⟩))) 19 rfl rfl (hon 19 (by kernel_rfl)) rfl
      replace ha := Aside0.mk ha
      have R_RB := Q_RB
      have R_BK := Q_BK
      have R_BB := Q_BB
      replace R_RB := Aside0.mk R_RB
      replace R_BK := Aside0.mk R_BK
      replace R_BB := Aside0.mk R_BB
      have c := (blk_cell R_RB.out 4).trans (show _ = some (Value.int .i64 a4) from rfl)
      refine value_ (w1 := w') (v := .int .i64 a4) (by rfl) rfl ?_ ?_
      · go_simp
        (try simp only [i64_w])
        try rfl
      refine hK.out _ _ ⟨x0, x1, gb, m4, m14, (by rw [ha.out]; exact putSel_upk 20 hb_ rfl rfl rfl), Q_RB, Q_BK, Q_BB, Q_X0, Q_X1, Q_P4, Q_P14, Q_NB, Q_NG, Q_N0, Q_N1, fun h0_ => absurd ((hoff 24 (by kernel_rfl)).symm.trans h0_) (by decide)⟩
    refine steps_cons ?_ ?_
    · rintro b a w' ⟨x0, x1, gb, m4, m14, ha, Q_RB, Q_BK, Q_BB, Q_X0, Q_X1, Q_P4, Q_P14, Q_NB, Q_NG, Q_N0, Q_N1, Q_NV⟩ hb_ hon hoff
      refine ⟨_, rfl, fun K hK => ?_⟩
      have e24 : a.tmps[24]? = some (.int .i64 a4) := by rw [ha]; exact putSel_on (e := (20, 24, .int .i64 a4)) 20 rfl rfl (hon 20 (by kernel_rfl)) rfl
      replace ha := Aside0.mk ha
      have R_RB := Q_RB
      have R_BK := Q_BK
      have R_BB := Q_BB
      replace R_RB := Aside0.mk R_RB
      replace R_BK := Aside0.mk R_BK
      replace R_BB := Aside0.mk R_BB
      refine goes_ Tryz.func10 (by kernel_rfl) rfl #[.int .i64 a4, .int .i64 2500] (by rfl) rfl rfl (by first | (simp only [List.map_toArray, List.map_cons, List.map_nil, Act.eval, Array.getD_eq_getD_getElem?, Option.getD_some, e24]; done) | (simp only [List.map_toArray, List.map_cons, List.map_nil, Act.eval, Array.getD_eq_getD_getElem?, Option.getD_some, e24]; rfl)) ?_
      with_reducible refine (pick_calls a4 2500 _ H4.out (by decide) (by decide)).mono ?_
      rintro e v2 ⟨rfl, rfl⟩
      rw [hk4.out]
      refine ⟨_, rfl, ?_⟩
      refine hK.out _ _ ⟨x0, x1, gb, m4, m14, (by rw [ha.out]; exact putSel_upk 21 hb_ rfl rfl rfl), Q_RB, Q_BK, Q_BB, Q_X0, Q_X1, Q_P4, Q_P14, Q_NB, Q_NG, Q_N0, Q_N1, fun h0_ => absurd ((hoff 24 (by kernel_rfl)).symm.trans h0_) (by decide)⟩
    refine steps_cons ?_ ?_
    · rintro b a w' ⟨x0, x1, gb, m4, m14, ha, Q_RB, Q_BK, Q_BB, Q_X0, Q_X1, Q_P4, Q_P14, Q_NB, Q_NG, Q_N0, Q_N1, Q_NV⟩ hb_ hon hoff
      refine ⟨_, rfl, fun K hK => ?_⟩
      have e9 : a.tmps[9]? = some (.string (srcOf k0)) := by rw [ha]; exact putSel_on (e := (5, 9, .string (srcOf k0))) 5 rfl rfl (hon 5 (by kernel_rfl)) rfl
      have e13 : a.tmps[13]? = some (.int .i64 (1 + (k1 : Int))) := by rw [ha]; exact putSel_on (e := (9, 13, .int .i64 (1 + (k1 : Int)))) 9 rfl rfl (hon 9 (by kernel_rfl)) rfl
      have e19 : a.tmps[19]? = some (.string (skuOf k2)) := by rw [ha]; exact putSel_on (e := (15, 19, .string (skuOf k2))) 15 rfl rfl (hon 15 (by kernel_rfl)) rfl
      have e22 : a.tmps[22]? = some (.string se) := by rw [ha]; exact putSel_on (e := (18, 22, .string se)) 18 rfl rfl (hon 18 (by kernel_rfl)) rfl
      have e25 : a.tmps[25]? = some (.int .i64 (k4 : Int)) := by rw [ha]; exact putSel_on (e := (21, 25, .int .i64 (k4 : Int))) 21 rfl rfl (hon 21 (by kernel_rfl)) rfl
      replace ha := Aside0.mk ha
      have R_RB := Q_RB
      have R_BK := Q_BK
      have R_BB := Q_BB
      have R_X0 := Q_X0 (hon 0 (by kernel_rfl)) (hoff 24 (by kernel_rfl))
      have R_X1 := Q_X1 (hon 10 (by kernel_rfl)) (hoff 24 (by kernel_rfl))
      have R_P4 := Q_P4 (hon 4 (by kernel_rfl))
      have R_P14 := Q_P14 (hon 14 (by kernel_rfl))
      replace R_RB := Aside0.mk R_RB
      replace R_BK := Aside0.mk R_BK
      replace R_BB := Aside0.mk R_BB
      replace R_X0 := Aside0.mk R_X0
      replace R_X1 := Aside0.mk R_X1
      replace R_P4 := Aside0.mk R_P4
      replace R_P14 := Aside0.mk R_P14
      refine value_ (w1 := w') (v := .agg #[.string (srcOf k0), .int .i64 (1 + (k1 : Int)), .string (skuOf k2), .string se, .int .i64 (k4 : Int)]) (by rfl) rfl ?_ ?_
      · go_simp
        (try simp only [i64_w])
        try rfl
      refine hK.out _ _ ⟨x0, x1, gb, m4, m14, (by rw [ha.out]; exact putSel_upk 22 hb_ rfl rfl rfl), Q_RB, Q_BK, Q_BB, Q_X0, Q_X1, Q_P4, Q_P14, Q_NB, Q_NG, Q_N0, Q_N1, fun h0_ => absurd ((hoff 24 (by kernel_rfl)).symm.trans h0_) (by decide)⟩
    refine steps_cons ?_ ?_
    · rintro b a w' ⟨x0, x1, gb, m4, m14, ha, Q_RB, Q_BK, Q_BB, Q_X0, Q_X1, Q_P4, Q_P14, Q_NB, Q_NG, Q_N0, Q_N1, Q_NV⟩ hb_ hon hoff
      refine ⟨_, rfl, fun K hK => ?_⟩
      replace ha := Aside0.mk ha
      have R_RB := Q_RB
      have R_BK := Q_BK
      have R_BB := Q_BB
      replace R_RB := Aside0.mk R_RB
      replace R_BK := Aside0.mk R_BK
      replace R_BB := Aside0.mk R_BB
      refine box_step ?hg (N := 3) ?hd (cs := #[.string ⟨#[]⟩, .int .i64 0, .string ⟨#[]⟩, .string ⟨#[]⟩, .int .i64 0]) (t := 23) ?hr ?_; (case hd => rfl); (case hg => rfl); (case hr => first | (go_simp; done) | (go_simp; rfl))
      intro ng hg v2 hbox hb
      refine hK.out _ _ ⟨x0, x1, ng, m4, m14, (by rw [ha.out]; exact putSel_upk 23 hb_ rfl rfl rfl), blk_below Q_RB hb, blk_below Q_BK hb, below_step Q_BB hb, fun h0_ h1_ => blk_below (Q_X0 h0_ h1_) hb, fun h0_ h1_ => blk_below (Q_X1 h0_ h1_) hb, Q_P4, Q_P14, fun _ _ => hbox, fun _ => by rw [hg]; exact R_BB.out.size, fun _ => by rw [hg]; exact Nat.ne_of_lt (blk_lt R_RB.out), fun _ => by rw [hg]; exact Nat.ne_of_lt (blk_lt R_BK.out), fun h0_ => absurd ((hoff 24 (by kernel_rfl)).symm.trans h0_) (by decide)⟩
    refine steps_cons ?_ ?_
    · rintro b a w' ⟨x0, x1, gb, m4, m14, ha, Q_RB, Q_BK, Q_BB, Q_X0, Q_X1, Q_P4, Q_P14, Q_NB, Q_NG, Q_N0, Q_N1, Q_NV⟩ hb_ hon hoff
      refine ⟨_, rfl, fun K hK => ?_⟩
      have e3 : a.tmps[3]? = some (.pointer (some ⟨gb, 0, none⟩)) := by rw [ha]; exact putSel_on (e := (23, 3, .pointer (some ⟨gb, 0, none⟩))) 23 rfl rfl (hon 23 (by kernel_rfl)) rfl
      have e26 : a.tmps[26]? = some (.agg #[.string (srcOf k0), .int .i64 (1 + (k1 : Int)), .string (skuOf k2), .string se, .int .i64 (k4 : Int)]) := by rw [ha]; exact putSel_on (e := (22, 26, .agg #[.string (srcOf k0), .int .i64 (1 + (k1 : Int)), .string (skuOf k2), .string se, .int .i64 (k4 : Int)])) 22 rfl rfl (hon 22 (by kernel_rfl)) rfl
      replace ha := Aside0.mk ha
      have R_RB := Q_RB
      have R_BK := Q_BK
      have R_BB := Q_BB
      have R_X0 := Q_X0 (hon 0 (by kernel_rfl)) hb_
      have R_X1 := Q_X1 (hon 10 (by kernel_rfl)) hb_
      have R_P4 := Q_P4 (hon 4 (by kernel_rfl))
      have R_P14 := Q_P14 (hon 14 (by kernel_rfl))
      have R_NB := Q_NB (hon 23 (by kernel_rfl)) hb_
      have R_NG := Q_NG (hon 23 (by kernel_rfl))
      have R_N0 := Q_N0 (hon 23 (by kernel_rfl))
      have R_N1 := Q_N1 (hon 23 (by kernel_rfl))
      replace R_RB := Aside0.mk R_RB
      replace R_BK := Aside0.mk R_BK
      replace R_BB := Aside0.mk R_BB
      replace R_X0 := Aside0.mk R_X0
      replace R_X1 := Aside0.mk R_X1
      replace R_P4 := Aside0.mk R_P4
      replace R_P14 := Aside0.mk R_P14
      replace R_NB := Aside0.mk R_NB
      replace R_NG := Aside0.mk R_NG
      replace R_N0 := Aside0.mk R_N0
      replace R_N1 := Aside0.mk R_N1
      have q0 : w'.cell? ⟨gb, 0, none⟩ = some (.string ⟨#[]⟩) := (blk_cell R_NB.out 0).trans rfl
      have q1 : w'.cell? ⟨gb, 1, none⟩ = some (.int .i64 0) := (blk_cell R_NB.out 1).trans rfl
      have q2 : w'.cell? ⟨gb, 2, none⟩ = some (.string ⟨#[]⟩) := (blk_cell R_NB.out 2).trans rfl
      have q3 : w'.cell? ⟨gb, 3, none⟩ = some (.string ⟨#[]⟩) := (blk_cell R_NB.out 3).trans rfl
      have q4 : w'.cell? ⟨gb, 4, none⟩ = some (.int .i64 0) := (blk_cell R_NB.out 4).trans rfl
      have z0 := blk_frozen R_NB.out 0
      have z1 := blk_frozen R_NB.out 1
      have z2 := blk_frozen R_NB.out 2
      have z3 := blk_frozen R_NB.out 3
      have z4 := blk_frozen R_NB.out 4
      refine skip_ (w1 := ?_) (by rfl) rfl ?_ ?_
      rotate_left
      · go_simp
        rfl
      refine hK.out _ _ ⟨x0, x1, gb, m4, m14, (by rw [ha.out]; exact (putSel_same rfl).symm), by rw [Below.heap_setCell _ _ _ _ R_N0.out, Below.heap_setCell _ _ _ _ R_N0.out, Below.heap_setCell _ _ _ _ R_N0.out, Below.heap_setCell _ _ _ _ R_N0.out, Below.heap_setCell _ _ _ _ R_N0.out]; exact R_RB.out, by rw [Below.heap_setCell _ _ _ _ R_N1.out, Below.heap_setCell _ _ _ _ R_N1.out, Below.heap_setCell _ _ _ _ R_N1.out, Below.heap_setCell _ _ _ _ R_N1.out, Below.heap_setCell _ _ _ _ R_N1.out]; exact R_BK.out, (five w w' gb _ _ _ _ _ (.string (srcOf k0)) (.int .i64 (1 + (k1 : Int))) (.string (skuOf k2)) (.string se) (.int .i64 (k4 : Int)) 23 R_NB.out R_BB.out R_NG.out).2, fun h0_ h1_ => absurd ((up_self b 24).symm.trans h1_) (by decide), fun h0_ h1_ => absurd ((up_self b 24).symm.trans h1_) (by decide), Q_P4, Q_P14, fun h0_ h1_ => absurd ((up_self b 24).symm.trans h1_) (by decide), Q_NG, Q_N0, Q_N1, fun _ => (five w w' gb _ _ _ _ _ (.string (srcOf k0)) (.int .i64 (1 + (k1 : Int))) (.string (skuOf k2)) (.string se) (.int .i64 (k4 : Int)) 23 R_NB.out R_BB.out R_NG.out).1⟩
    exact steps_nil
  rintro b a w9 hall ⟨x0, x1, gb, m4, m14, ha, Q_RB, Q_BK, Q_BB, Q_X0, Q_X1, Q_P4, Q_P14, Q_NB, Q_NG, Q_N0, Q_N1, Q_NV⟩
  have hb0_ := hall 0 (by kernel_rfl)
  have hb1_ := hall 1 (by kernel_rfl)
  have hb2_ := hall 2 (by kernel_rfl)
  have hb3_ := hall 3 (by kernel_rfl)
  have hb4_ := hall 4 (by kernel_rfl)
  have hb5_ := hall 5 (by kernel_rfl)
  have hb6_ := hall 6 (by kernel_rfl)
  have hb7_ := hall 7 (by kernel_rfl)
  have hb8_ := hall 8 (by kernel_rfl)
  have hb9_ := hall 9 (by kernel_rfl)
  have hb10_ := hall 10 (by kernel_rfl)
  have hb11_ := hall 11 (by kernel_rfl)
  have hb12_ := hall 12 (by kernel_rfl)
  have hb13_ := hall 13 (by kernel_rfl)
  have hb14_ := hall 14 (by kernel_rfl)
  have hb15_ := hall 15 (by kernel_rfl)
  have hb16_ := hall 16 (by kernel_rfl)
  have hb17_ := hall 17 (by kernel_rfl)
  have hb18_ := hall 18 (by kernel_rfl)
  have hb19_ := hall 19 (by kernel_rfl)
  have hb20_ := hall 20 (by kernel_rfl)
  have hb21_ := hall 21 (by kernel_rfl)
  have hb22_ := hall 22 (by kernel_rfl)
  have hb23_ := hall 23 (by kernel_rfl)
  have hb24_ := hall 24 (by kernel_rfl)
  subst ha
  have RB := Aside0.mk (Q_RB)
  clear Q_RB
  have BK := Aside0.mk (Q_BK)
  clear Q_BK
  have BB := Aside0.mk (Q_BB)
  clear Q_BB
  clear Q_X0
  clear Q_X1
  have P4 := Aside0.mk (Q_P4 hb4_)
  clear Q_P4
  have P14 := Aside0.mk (Q_P14 hb14_)
  clear Q_P14
  clear Q_NB
  have NG := Aside0.mk (Q_NG hb23_)
  clear Q_NG
  have N0 := Aside0.mk (Q_N0 hb23_)
  clear Q_N0
  have N1 := Aside0.mk (Q_N1 hb23_)
  clear Q_N1
  have NV := Aside0.mk (Q_NV hb24_)
  clear Q_NV
  simp only [putSel, hb0_, hb1_, hb2_, hb3_, hb4_, hb5_, hb6_, hb7_, hb8_, hb9_, hb10_, hb11_, hb12_, hb13_, hb14_, hb15_, hb16_, hb17_, hb18_, hb19_, hb20_, hb21_, hb22_, hb23_, hb24_, if_true, Act.put, List.setIfInBounds_toArray, List.set_cons_zero, List.set_cons_succ]
  clear hall hb0_ hb1_ hb2_ hb3_ hb4_ hb5_ hb6_ hb7_ hb8_ hb9_ hb10_ hb11_ hb12_ hb13_ hb14_ hb15_ hb16_ hb17_ hb18_ hb19_ hb20_ hb21_ hb22_ hb23_ hb24_
  have hr4 : w9.cell? ⟨B0, 4, none⟩ = some (.int .i64 a4) := (blk_cell RB.out 4).trans rfl
  cases hz : (a4.tmod 9 == 0) with
  | true =>
    have hans := Aside0.mk (show (lineOf a0 a1 a2 a3 a4).val = .agg #[.string (srcOf k0), .int .i64 (1 + (k1 : Int)), .string (skuOf k2), .string se, .int .i64 0] by rw [hln.out, if_pos (beq_iff_eq.1 hz)]; rfl)
    have v4 : w9.cell? ⟨gb, 4, none⟩ = some (.int .i64 (k4 : Int)) := (blk_cell NV.out 4).trans rfl
    have u4 := blk_frozen NV.out 4
    have NV2 := Aside0.mk (blk_set NV.out 4 (.int .i64 0))
    have BK2 := Aside0.mk (show (w9.setCell ⟨gb, 4, none⟩ (.int .i64 0)).heap[B1]? = some (.cells #[.string ⟨#[]⟩, .int .i64 0, .string ⟨#[]⟩, .string ⟨#[]⟩, .int .i64 0] 23 (0, 0)) by rw [Below.heap_setCell _ _ _ _ N1.out]; exact BK.out)
    have BB2 := Aside0.mk (show Below w.heap.size w (w9.setCell ⟨gb, 4, none⟩ (.int .i64 0)) from below_set BB.out NG.out)
    have y0 : (w9.setCell ⟨gb, 4, none⟩ (.int .i64 0)).cell? ⟨gb, 0, none⟩ = some (.string (srcOf k0)) := (blk_cell NV2.out 0).trans rfl
    have q0 : (w9.setCell ⟨gb, 4, none⟩ (.int .i64 0)).cell? ⟨B1, 0, none⟩ = some (.string ⟨#[]⟩) := (blk_cell BK2.out 0).trans rfl
    have z0 := blk_frozen BK2.out 0
    have y1 : (w9.setCell ⟨gb, 4, none⟩ (.int .i64 0)).cell? ⟨gb, 1, none⟩ = some (.int .i64 (1 + (k1 : Int))) := (blk_cell NV2.out 1).trans rfl
    have q1 : (w9.setCell ⟨gb, 4, none⟩ (.int .i64 0)).cell? ⟨B1, 1, none⟩ = some (.int .i64 0) := (blk_cell BK2.out 1).trans rfl
    have z1 := blk_frozen BK2.out 1
    have y2 : (w9.setCell ⟨gb, 4, none⟩ (.int .i64 0)).cell? ⟨gb, 2, none⟩ = some (.string (skuOf k2)) := (blk_cell NV2.out 2).trans rfl
    have q2 : (w9.setCell ⟨gb, 4, none⟩ (.int .i64 0)).cell? ⟨B1, 2, none⟩ = some (.string ⟨#[]⟩) := (blk_cell BK2.out 2).trans rfl
    have z2 := blk_frozen BK2.out 2
    have y3 : (w9.setCell ⟨gb, 4, none⟩ (.int .i64 0)).cell? ⟨gb, 3, none⟩ = some (.string se) := (blk_cell NV2.out 3).trans rfl
    have q3 : (w9.setCell ⟨gb, 4, none⟩ (.int .i64 0)).cell? ⟨B1, 3, none⟩ = some (.string ⟨#[]⟩) := (blk_cell BK2.out 3).trans rfl
    have z3 := blk_frozen BK2.out 3
    have y4 : (w9.setCell ⟨gb, 4, none⟩ (.int .i64 0)).cell? ⟨gb, 4, none⟩ = some (.int .i64 0) := (blk_cell NV2.out 4).trans rfl
    have q4 : (w9.setCell ⟨gb, 4, none⟩ (.int .i64 0)).cell? ⟨B1, 4, none⟩ = some (.int .i64 0) := (blk_cell BK2.out 4).trans rfl
    have z4 := blk_frozen BK2.out 4
    go_wp2_with fail
    obtain ⟨K9, B9⟩ := five w (w9.setCell ⟨gb, 4, none⟩ (.int .i64 0)) B1 _ _ _ _ _ (.string (srcOf k0)) (.int .i64 (1 + (k1 : Int))) (.string (skuOf k2)) (.string se) (.int .i64 0) 23 BK2.out BB2.out (by rw [HB1.out]; exact Nat.le_succ _)
    clear q0 z0 q1 z1 q2 z2 q3 z3 q4 z4
    generalize (((((World.setCell (w9.setCell ⟨gb, 4, none⟩ (.int .i64 0)) ⟨B1, 0, none⟩ (.string (srcOf k0))).setCell ⟨B1, 1, none⟩ (.int .i64 (1 + (k1 : Int)))).setCell ⟨B1, 2, none⟩ (.string (skuOf k2))).setCell ⟨B1, 3, none⟩ (.string se)).setCell ⟨B1, 4, none⟩ (.int .i64 0)) = W9 at K9 B9 ⊢
    have q0 : W9.cell? ⟨B1, 0, none⟩ = some (.string (srcOf k0)) := (blk_cell K9 0).trans rfl
    have q1 : W9.cell? ⟨B1, 1, none⟩ = some (.int .i64 (1 + (k1 : Int))) := (blk_cell K9 1).trans rfl
    have q2 : W9.cell? ⟨B1, 2, none⟩ = some (.string (skuOf k2)) := (blk_cell K9 2).trans rfl
    have q3 : W9.cell? ⟨B1, 3, none⟩ = some (.string se) := (blk_cell K9 3).trans rfl
    have q4 : W9.cell? ⟨B1, 4, none⟩ = some (.int .i64 0) := (blk_cell K9 4).trans rfl
    refine bodyPost_ret (v := .agg #[.string (srcOf k0), .int .i64 (1 + (k1 : Int)), .string (skuOf k2), .string se, .int .i64 0]) (by simp [results, Tryz.results5, go_sem, q0, q1, q2, q3, q4]) rfl ?_
    exact ⟨by rw [hans.out], B9⟩
  | false =>
    have hans := Aside0.mk (show (lineOf a0 a1 a2 a3 a4).val = .agg #[.string (srcOf k0), .int .i64 (1 + (k1 : Int)), .string (skuOf k2), .string se, .int .i64 (k4 : Int)] by rw [hln.out, if_neg (fun e => by rw [e] at hz; exact absurd hz (by decide))]; rfl)
    have y0 : w9.cell? ⟨gb, 0, none⟩ = some (.string (srcOf k0)) := (blk_cell NV.out 0).trans rfl
    have y1 : w9.cell? ⟨gb, 1, none⟩ = some (.int .i64 (1 + (k1 : Int))) := (blk_cell NV.out 1).trans rfl
    have y2 : w9.cell? ⟨gb, 2, none⟩ = some (.string (skuOf k2)) := (blk_cell NV.out 2).trans rfl
    have y3 : w9.cell? ⟨gb, 3, none⟩ = some (.string se) := (blk_cell NV.out 3).trans rfl
    have y4 : w9.cell? ⟨gb, 4, none⟩ = some (.int .i64 (k4 : Int)) := (blk_cell NV.out 4).trans rfl
    have q0 : w9.cell? ⟨B1, 0, none⟩ = some (.string ⟨#[]⟩) := (blk_cell BK.out 0).trans rfl
    have z0 := blk_frozen BK.out 0
    have q1 : w9.cell? ⟨B1, 1, none⟩ = some (.int .i64 0) := (blk_cell BK.out 1).trans rfl
    have z1 := blk_frozen BK.out 1
    have q2 : w9.cell? ⟨B1, 2, none⟩ = some (.string ⟨#[]⟩) := (blk_cell BK.out 2).trans rfl
    have z2 := blk_frozen BK.out 2
    have q3 : w9.cell? ⟨B1, 3, none⟩ = some (.string ⟨#[]⟩) := (blk_cell BK.out 3).trans rfl
    have z3 := blk_frozen BK.out 3
    have q4 : w9.cell? ⟨B1, 4, none⟩ = some (.int .i64 0) := (blk_cell BK.out 4).trans rfl
    have z4 := blk_frozen BK.out 4
    go_wp2_with fail
    obtain ⟨K9, B9⟩ := five w w9 B1 _ _ _ _ _ (.string (srcOf k0)) (.int .i64 (1 + (k1 : Int))) (.string (skuOf k2)) (.string se) (.int .i64 (k4 : Int)) 23 BK.out BB.out (by rw [HB1.out]; exact Nat.le_succ _)
    clear q0 z0 q1 z1 q2 z2 q3 z3 q4 z4
    generalize (((((World.setCell (w9) ⟨B1, 0, none⟩ (.string (srcOf k0))).setCell ⟨B1, 1, none⟩ (.int .i64 (1 + (k1 : Int)))).setCell ⟨B1, 2, none⟩ (.string (skuOf k2))).setCell ⟨B1, 3, none⟩ (.string se)).setCell ⟨B1, 4, none⟩ (.int .i64 (k4 : Int))) = W9 at K9 B9 ⊢
    have q0 : W9.cell? ⟨B1, 0, none⟩ = some (.string (srcOf k0)) := (blk_cell K9 0).trans rfl
    have q1 : W9.cell? ⟨B1, 1, none⟩ = some (.int .i64 (1 + (k1 : Int))) := (blk_cell K9 1).trans rfl
    have q2 : W9.cell? ⟨B1, 2, none⟩ = some (.string (skuOf k2)) := (blk_cell K9 2).trans rfl
    have q3 : W9.cell? ⟨B1, 3, none⟩ = some (.string se) := (blk_cell K9 3).trans rfl
    have q4 : W9.cell? ⟨B1, 4, none⟩ = some (.int .i64 (k4 : Int)) := (blk_cell K9 4).trans rfl
    refine bodyPost_ret (v := .agg #[.string (srcOf k0), .int .i64 (1 + (k1 : Int)), .string (skuOf k2), .string se, .int .i64 (k4 : Int)]) (by simp [results, Tryz.results5, go_sem, q0, q1, q2, q3, q4]) rfl ?_
    exact ⟨by rw [hans.out], B9⟩
end Go.Proofs.YtbecemdehelooaaGreatDoor.FeedLi
