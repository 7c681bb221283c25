/- For every input FeedBack answers true, in plain Lean. -/
import Derived.Test.YtbecemdehelooaaDoorHFeedBackx0
import Derived.Test.YtbecemdehelooaaDoorHFeedBackx1
import Derived.Test.YtbecemdehelooaaDoorHFeedBackx2
namespace Go.Proofs.YtbecemdehelooaaDoor.Pure
open Go.RowKit Go.Proofs.YtbecemdehelooaaDoor.HFeedBack Go.Proofs.YtbecemdehelooaaDoorW.PrintWords Go.Proofs.YtbecemdehelooaaDoorW.PrintLast Go.Proofs.YtbecemdehelooaaDoorW.PrintMore
set_option linter.unusedVariables false
set_option linter.unusedSimpArgs false
open Go.Proofs.YtbecemdehelooaaDoor.FrameS Go.Proofs.YtbecemdehelooaaDoor.FeedPm Go.Proofs.YtbecemdehelooaaDoor.FeedLi Go.Proofs.YtbecemdehelooaaDoor.FeedE
namespace FeedBackP
theorem enc_ok (x : Ln) (h : x.ok = true) : feed_Encode.f x.so x.n x.sk x.se x.p = some (⟨x.line.toArray⟩, 0) := if_pos h
theorem enc_no (x : Ln) (h : x.ok = false) : feed_Encode.f x.so x.n x.sk x.se x.p = some (⟨#[]⟩, 1) := if_neg (by rw [show rightF x.so x.sk x.se x.n x.p = false from h]; decide)
theorem line_f (a0 a1 a2 a3 a4 : Int) (h0 : In64 a0) (h1 : In64 a1) (h2 : In64 a2) (h3 : In64 a3) (h4 : In64 a4) : hagglerlaw12_Line.f a0 a1 a2 a3 a4 = some ((lineOf a0 a1 a2 a3 a4).so, (lineOf a0 a1 a2 a3 a4).n, (lineOf a0 a1 a2 a3 a4).sk, (lineOf a0 a1 a2 a3 a4).se, (lineOf a0 a1 a2 a3 a4).p) := if_pos ⟨h0, h1, h2, h3, h4⟩
theorem src_name : ∀ k : Fin 3, Go.Proofs.YtbecemdehelooaaDoor.FeedN.nameB (srcOf k.val) = true := by decide +kernel
theorem sku_name : ∀ k : Fin 4, Go.Proofs.YtbecemdehelooaaDoor.FeedN.nameB (skuOf k.val) = true := by decide +kernel
/-- A line of raw numbers may be. -/
theorem lineOf_ok (a0 a1 a2 a3 a4 : Int) (h3 : In64 a3) : (lineOf a0 a1 a2 a3 a4).ok = true := by
  obtain ⟨k0, g0, l0⟩ := pk_nat a0 3 (by decide)
  obtain ⟨k2, g2, l2⟩ := pk_nat a2 4 (by decide)
  have r1 := pk_range a1 60 (by decide)
  have r4 := pk_range a4 2500 (by decide)
  have n0 := src_name ⟨k0, l0⟩
  have n2 := sku_name ⟨k2, l2⟩
  have n3 := sell_name a3 h3
  unfold lineOf Ln.ok rightF
  simp only
  rw [show pk a0 3 = (k0 : Int) from g0, show pk a2 4 = (k2 : Int) from g2, Int.toNat_natCast, Int.toNat_natCast, n0, n2, n3]
  unfold Go.Proofs.YtbecemdehelooaaDoor.FeedW.badSeq Go.Proofs.YtbecemdehelooaaDoor.FeedW.badPrice
  rw [decide_eq_false (show ¬ (1 + pk a1 60 < 1) by omega), decide_eq_false (show ¬ (1000000000000 < 1 + pk a1 60) by omega)]
  split
  · simp
  · rw [decide_eq_false (show ¬ (pk a4 2500 < 0) by omega), decide_eq_false (show ¬ (1000000000000 < pk a4 2500) by omega)]; rfl
theorem step (x : Ln) (k : Nat) (y : List S24) (i : Int) (h0 : 0 ≤ i) (h1 : i < 2) (hy : y.length = 2) (hx : rd_T24 y i = ⟨x.so, x.n, x.sk, x.se, x.p⟩) :
    hagglerlaw12_FeedBack.l0 (k + 1) true y 2 i = hagglerlaw12_FeedBack.l0 k true y 2 (i + 1) := by
  have hw : wrap64 (i + 1) = i + 1 := by unfold wrap64; omega
  simp only [hagglerlaw12_FeedBack.l0]
  rw [if_pos h1, if_pos h0, if_pos (by omega), hx]
  simp only
  cases h : x.ok with
  | true =>
    rw [enc_ok x h]
    simp only [Option.bind_some]
    rw [if_pos trivial]
    unfold feed_Decode.f feed_Right.f
    rw [back h]
    simp only [Option.bind_some]
    rw [if_neg (by simp), if_pos trivial, if_pos trivial, if_pos (show rightF x.so x.sk x.se x.n x.p = true from h), hw]
  | false =>
    rw [enc_no x h]
    simp only [Option.bind_some]
    rw [if_neg (by decide)]
    unfold feed_Right.f
    simp only [Option.bind_some]
    rw [if_neg (by rw [show rightF x.so x.sk x.se x.n x.p = false from h]; decide), if_pos (by rw [FrameS.toList_data]), hw]
theorem law_ok (a0 a1 a2 a3 a4 : Int) (b0 : ByteArray) (b1 : Int) (b2 b3 : ByteArray) (b4 : Int) (h0 : In64 a0) (h1 : In64 a1) (h2 : In64 a2) (h3 : In64 a3) (h4 : In64 a4) (g0 : b0.size ≤ maxLen) (g1 : (Lit.int .i64 b1).wf = true) (g2 : b2.size ≤ maxLen) (g3 : b3.size ≤ maxLen) (g4 : (Lit.int .i64 b4).wf = true) :
    ∃ k, hagglerlaw12_FeedBack.f k a0 a1 a2 a3 a4 b0 b1 b2 b3 b4 = some true := by
  refine ⟨3, ?_⟩
  unfold hagglerlaw12_FeedBack.f hagglerlaw12_awake.f
  rw [line_f a0 a1 a2 a3 a4 h0 h1 h2 h3 h4]
  simp only [Option.bind_some]
  rw [show (([(⟨(lineOf a0 a1 a2 a3 a4).so, (lineOf a0 a1 a2 a3 a4).n, (lineOf a0 a1 a2 a3 a4).sk, (lineOf a0 a1 a2 a3 a4).se, (lineOf a0 a1 a2 a3 a4).p⟩ : S24), (⟨b0, b1, b2, b3, b4⟩ : S24)] : List S24).length : Int) = 2 from rfl]
  rw [step (lineOf a0 a1 a2 a3 a4) 2 _ 0 (by decide) (by decide) rfl rfl, show (0 : Int) + 1 = 1 from rfl, step ⟨b0, b1, b2, b3, b4⟩ 1 _ 1 (by decide) (by decide) rfl rfl]
  simp only [hagglerlaw12_FeedBack.l0]
  rw [if_neg (by decide)]
end FeedBackP
end Go.Proofs.YtbecemdehelooaaDoor.Pure
