/- For every input FeedNumbers answers true, in plain Lean. -/
import Derived.Test.YtbecemdehelooaaDoorHFeedNumbersx0
import Derived.Test.YtbecemdehelooaaDoorHFeedNumbersx1
namespace Go.Proofs.YtbecemdehelooaaDoor.Pure
open Go.RowKit Go.Proofs.YtbecemdehelooaaDoor.HFeedNumbers Go.Proofs.YtbecemdehelooaaDoorW.PrintWords Go.Proofs.YtbecemdehelooaaDoorW.PrintLast Go.Proofs.YtbecemdehelooaaDoorW.PrintMore
set_option linter.unusedVariables false
set_option linter.unusedSimpArgs false
open Go.Proofs.YtbecemdehelooaaDoor.FrameS Go.Proofs.YtbecemdehelooaaDoor.FeedPm Go.Proofs.YtbecemdehelooaaDoor.FeedLi Go.Proofs.YtbecemdehelooaaDoor.FeedE
namespace FeedNumbersP
theorem enc_ok (x : Ln) (h : x.ok = true) : feed_Encode.f x.so x.n x.sk x.se x.p = some (⟨x.line.toArray⟩, 0) := if_pos h
theorem enc_no (x : Ln) (h : x.ok = false) : feed_Encode.f x.so x.n x.sk x.se x.p = some (⟨#[]⟩, 1) := if_neg (by rw [show rightF x.so x.sk x.se x.n x.p = false from h]; decide)
theorem line_f (a0 a1 a2 a3 a4 : Int) (h0 : In64 a0) (h1 : In64 a1) (h2 : In64 a2) (h3 : In64 a3) (h4 : In64 a4) : hagglerlaw12_Line.f a0 a1 a2 a3 a4 = some ((lineOf a0 a1 a2 a3 a4).so, (lineOf a0 a1 a2 a3 a4).n, (lineOf a0 a1 a2 a3 a4).sk, (lineOf a0 a1 a2 a3 a4).se, (lineOf a0 a1 a2 a3 a4).p) := if_pos ⟨h0, h1, h2, h3, h4⟩
theorem src_name : ∀ k : Fin 3, Go.Proofs.YtbecemdehelooaaDoor.FeedN.nameB (srcOf k.val) = true := by decide +kernel
theorem sku_name : ∀ k : Fin 4, Go.Proofs.YtbecemdehelooaaDoor.FeedN.nameB (skuOf k.val) = true := by decide +kernel
/-- A line of raw numbers may be. -/
theorem lineOf_ok (a0 a1 a2 a3 a4 : Int) (h3 : In64 a3) : (lineOf a0 a1 a2 a3 a4).ok = true := by
  obtain ⟨k0, g0, l0⟩ := pk_nat a0 3 (by decide)
  obtain ⟨k2, g2, l2⟩ := pk_nat a2 4 (by decide)
  have r1 := pk_range a1 60 (by decide)
  have r4 := pk_range a4 2500 (by decide)
  have n0 := src_name ⟨k0, l0⟩
  have n2 := sku_name ⟨k2, l2⟩
  have n3 := sell_name a3 h3
  unfold lineOf Ln.ok rightF
  simp only
  rw [show pk a0 3 = (k0 : Int) from g0, show pk a2 4 = (k2 : Int) from g2, Int.toNat_natCast, Int.toNat_natCast, n0, n2, n3]
  unfold Go.Proofs.YtbecemdehelooaaDoor.FeedW.badSeq Go.Proofs.YtbecemdehelooaaDoor.FeedW.badPrice
  rw [decide_eq_false (show ¬ (1 + pk a1 60 < 1) by omega), decide_eq_false (show ¬ (1000000000000 < 1 + pk a1 60) by omega)]
  split
  · simp
  · rw [decide_eq_false (show ¬ (pk a4 2500 < 0) by omega), decide_eq_false (show ¬ (1000000000000 < pk a4 2500) by omega)]; rfl
theorem pick_f (a n : Int) (ha : In64 a) (hn : 0 < n) : hagglerlaw12_pick.f a n = some (pk a n) := FeedLi.pick_f12 a n ha hn
theorem dec_ok (x : Ln) (h : x.ok = true) : feed_Decode.f ⟨x.line.toArray⟩ = some (x.so, x.n, x.sk, x.se, x.p, 0, 0) := by unfold feed_Decode.f; rw [back h]
/-- Unlike lines have unlike texts. -/
theorem line_inj (x y : Ln) (hx : x.ok = true) (hy : y.ok = true) (h : x.line = y.line) : x = y := by
  have h1 := back hx
  have h2 := back hy
  rw [h, h2] at h1
  exact (congrArg Prod.fst h1).symm
theorem law_ok (a0 a1 a2 a3 a4 m : Int) (h0 : In64 a0) (h1 : In64 a1) (h2 : In64 a2) (h3 : In64 a3) (h4 : In64 a4) (hm : In64 m) : hagglerlaw12_FeedNumbers.f a0 a1 a2 a3 a4 m = some true := by
  have hl := lineOf_ok a0 a1 a2 a3 a4 h3
  have rn := pk_range a1 60 (by decide)
  have rm := pk_range m 1000 (by decide)
  have hn : (lineOf a0 a1 a2 a3 a4).n = 1 + pk a1 60 := rfl
  unfold hagglerlaw12_FeedNumbers.f hagglerlaw12_awake.f
  rw [line_f a0 a1 a2 a3 a4 h0 h1 h2 h3 h4]
  generalize lineOf a0 a1 a2 a3 a4 = x at hl hn ⊢
  simp only [Option.bind_some]
  rw [pick_f m 1000 hm (by decide)]
  simp only [Option.bind_some]
  rw [enc_ok x hl]
  have hw : wrap64 (wrap64 (x.n + 1) + pk m 1000) = x.n + 1 + pk m 1000 := by
    have : wrap64 (x.n + 1) = x.n + 1 := by unfold wrap64; omega
    rw [this]; unfold wrap64; omega
  rw [hw]
  have hy : (⟨x.so, x.n + 1 + pk m 1000, x.sk, x.se, x.p⟩ : Ln).ok = true := by
    obtain ⟨g0, g1, g2, g3, g4, g5, g6⟩ := ok_parts hl
    unfold Ln.ok rightF Go.Proofs.YtbecemdehelooaaDoor.FeedW.badSeq at hl ⊢
    simp only at hl ⊢
    rw [decide_eq_false (show ¬ (x.n < 1) by omega), decide_eq_false (show ¬ (1000000000000 < x.n) by omega)] at hl
    rw [decide_eq_false (show ¬ (x.n + 1 + pk m 1000 < 1) by omega), decide_eq_false (show ¬ (1000000000000 < x.n + 1 + pk m 1000) by omega)]
    exact hl
  have he := enc_ok ⟨x.so, x.n + 1 + pk m 1000, x.sk, x.se, x.p⟩ hy
  have hd := dec_ok ⟨x.so, x.n + 1 + pk m 1000, x.sk, x.se, x.p⟩ hy
  have hne : x.line ≠ (⟨x.so, x.n + 1 + pk m 1000, x.sk, x.se, x.p⟩ : Ln).line := fun e => by
    have := congrArg Ln.n (line_inj _ _ hl hy e)
    simp only at this
    omega
  simp only at he
  rw [he]
  simp only [Option.bind_some]
  rw [dec_ok x hl]
  simp only [Option.bind_some]
  rw [hd]
  simp only [Option.bind_some]
  rw [if_pos trivial, if_pos trivial, if_pos trivial, if_pos trivial, if_pos trivial, if_pos trivial, if_pos trivial, if_pos trivial, if_pos trivial]
  rw [if_neg (fun e => hne (by
    rw [FrameS.toList_data, FrameS.toList_data] at e
    simpa using e)), if_pos trivial, if_pos trivial]
  simp
end FeedNumbersP
end Go.Proofs.YtbecemdehelooaaDoor.Pure
