/- A record's frame. -/
import Derived.Test.YthidhmfejnjdhaaDoorFrameB
namespace Go.Proofs.YthidhmfejnjdhaaDoor.FrameE
open Go.RowKit Go.Proofs.YthidhmfejnjdhaaDoor.FrameB Go.Proofs.YthidhmfejnjdhaaDoor.FrameS Go.Proofs.YthidhmfejnjdhaaDoor.FrameG Go.Proofs.YthidhmfejnjdhaaDoor.FrameSum Go.Proofs.YthidhmfejnjdhaaDoorW.PrintWords Go.Proofs.YthidhmfejnjdhaaDoorW.PrintLast Go.Proofs.YthidhmfejnjdhaaDoorW.PrintMore
set_option linter.unusedVariables false
set_option linter.unusedSimpArgs false
set_option maxHeartbeats 1000000 in
set_option maxRecDepth 20000 in
theorem encode_no (A : Option Addr) (c : Nat) (r : Rec) (w : World) (hr : Kd.C (Kd.int .i64) w A r.nums.length r.nums) (hR : RightB r = false) :
    Calls Tryd.prog 11 #[.agg #[.int .i64 r.kind, .slice A r.nums.length c, .string r.text]] w fun e w' => e = .returned (.tuple #[.string ⟨#[]⟩, .int .i64 1]) ∧ Below w.heap.size w w' := by
  obtain ⟨kind, nums, text⟩ := r
  have HR := Aside0.mk hr
  have HO := Aside0.mk hR
  have HB := Aside0.mk (Below.refl w.heap.size w)
  clear hr hR
  go_enter Tryd.func11, Tryd.ntmps11
  go_wp2_with (first | ((with_reducible refine gate_dst (N := 1) rfl ?_); refine box_event ?hg (N := 1) ?hd (cs := #[.int .i64 kind, .slice A nums.length c, .string text]) (t := 24) ?hr ?_; (case hd => rfl); (case hg => rfl); (case hr => first | (go_simp; done) | (go_simp; rfl)); intro g0 hg w2 hbox hb; have GE := Aside0.mk (show w.heap.size ≤ g0 by rw [hg]; exact Nat.le_refl _); have BK := Aside0.mk hbox; have B2 := Aside0.mk hb; have hz0 := blk_cell hbox 0; have hz1 := blk_cell hbox 1; have hz2 := blk_cell hbox 2; clear hb hbox hg HB))
  refine (right_calls A c ⟨kind, nums, text⟩ _ (Kd.C_below HR.out B2.out)).mono ?_
  rintro e w1 ⟨rfl, b1⟩
  rw [HO.out]
  have B1 := Aside0.mk (below_step B2.out b1)
  clear b1
  go_wp2
  go_ret2
  exact ⟨rfl, B1.out⟩
theorem wrap_size (n : Nat) (h : n ≤ 2378) : IntKind.i64.wrap (n : Int) = n := by rw [i64_w]; unfold wrap64; omega
set_option maxHeartbeats 1000000 in
set_option maxRecDepth 20000 in
theorem encode_yes (A : Option Addr) (c : Nat) (r : Rec) (w : World) (hG : G w) (hr : Kd.C (Kd.int .i64) w A r.nums.length r.nums) (hR : Right r) :
    Calls Tryd.prog 11 #[.agg #[.int .i64 r.kind, .slice A r.nums.length c, .string r.text]] w fun e w' => e = .returned (.tuple #[.string ⟨(frameL r).toArray⟩, .int .i64 0]) ∧ Below w.heap.size w w' := by
  have hlen := body_length r hR
  obtain ⟨b, hb0⟩ : ∃ b : ByteArray, b = ⟨(bodyL r).toArray⟩ := ⟨_, rfl⟩
  have hbs : b.size = (bodyL r).length := by rw [hb0]; show (bodyL r).toArray.size = _; simp
  have hbl : tl b = bodyL r := by rw [hb0]; simp [tl]
  have hfin : Aside0 (∀ s2 : BitVec 16, s2 = sumL (tl ((⟨(two b.size).toArray⟩ : ByteArray) ++ b)) → (((⟨(two b.size).toArray⟩ : ByteArray) ++ b) ++ (⟨(two s2.toNat).toArray⟩ : ByteArray)) = ⟨(frameL r).toArray⟩) := ⟨by
    rintro s2 rfl
    apply ByteArray.ext
    apply Array.toList_inj.1
    have e1 : tl ((⟨(two b.size).toArray⟩ : ByteArray) ++ b) = two (bodyL r).length ++ bodyL r := by
      have : tl ((⟨(two b.size).toArray⟩ : ByteArray) ++ b) = two b.size ++ tl b := by simp [tl, ByteArray.data_append]
      rw [this, hbl, hbs]
    rw [e1]
    have : (((⟨(two b.size).toArray⟩ : ByteArray) ++ b) ++ (⟨(two (sumL (two (bodyL r).length ++ bodyL r)).toNat).toArray⟩ : ByteArray)).data.toList = tl ((⟨(two b.size).toArray⟩ : ByteArray) ++ b) ++ two (sumL (two (bodyL r).length ++ bodyL r)).toNat := by simp [tl, ByteArray.data_append]
    rw [this, e1]
    simp [frameL, wrapL, sumB]⟩
  have hb2 : b.size ≤ 2378 := by omega
  have HB0 := Aside0.mk hb0
  clear hb0 hbs hbl hlen
  obtain ⟨kind, nums, text⟩ := r
  have HR := Aside0.mk hr
  have HO := Aside0.mk hR
  have HG := Aside0.mk hG
  have HB := Aside0.mk (Below.refl w.heap.size w)
  clear hr hR hG
  go_enter Tryd.func11, Tryd.ntmps11
  go_wp2_with (first | ((with_reducible refine gate_dst (N := 1) rfl ?_); refine box_event ?hg (N := 1) ?hd (cs := #[.int .i64 kind, .slice A nums.length c, .string text]) (t := 24) ?hr ?_; (case hd => rfl); (case hg => rfl); (case hr => first | (go_simp; done) | (go_simp; rfl)); intro g0 hg w2 hbox hb; have GE := Aside0.mk (show w.heap.size ≤ g0 by rw [hg]; exact Nat.le_refl _); have BK := Aside0.mk hbox; have B2 := Aside0.mk hb; have hz0 := blk_cell hbox 0; have hz1 := blk_cell hbox 1; have hz2 := blk_cell hbox 2; clear hb hbox hg HB))
  refine (right_calls A c ⟨kind, nums, text⟩ _ (Kd.C_below HR.out B2.out)).mono ?_
  rintro e w1 ⟨rfl, b1⟩
  rw [(rightB_iff _).2 HO.out]
  have B1 := Aside0.mk (below_step B2.out b1)
  have BK1 := Aside0.mk (blk_below BK.out b1)
  clear b1 BK hz0 hz1 hz2
  have hz0 := blk_cell BK1.out 0; have hz1 := blk_cell BK1.out 1; have hz2 := blk_cell BK1.out 2
  go_wp2_with fail
  refine (body_calls A c ⟨kind, nums, text⟩ _ (HG.out.below B1.out) (Kd.C_below HR.out B1.out) HO.out).mono ?_
  rintro e w3 ⟨rfl, b3⟩
  rw [← HB0.out]
  have B3 := Aside0.mk (below_step B1.out b3)
  clear b3 BK1 hz0 hz1 hz2 B1
  go_wp2_with fail
  refine (bytes_ok _ _ (by omega) (by omega)).mono ?_
  rintro e w4 ⟨rfl, b4⟩
  rw [Int.toNat_natCast]
  have B4 := Aside0.mk (below_step B3.out b4)
  clear b4 B3
  obtain ⟨s1, hs⟩ : ∃ s : ByteArray, (⟨(two b.size).toArray⟩ : ByteArray) = s := ⟨_, rfl⟩
  have hs0 : s1.size = 2 := by rw [← hs]; rfl
  have hs1 : ¬ (9223372036854775807 < s1.size + b.size) := by omega
  rw [hs] at hfin ⊢
  have hs2 : s1.size ≤ 2 := by omega
  clear hs hs0
  go_wp2_with fail
  obtain ⟨s2, hs3⟩ : ∃ s : ByteArray, s = s1 ++ b := ⟨_, rfl⟩
  have hs4 : s2.size ≤ 2380 := by rw [hs3, ByteArray.size_append]; omega
  rw [← hs3] at hfin ⊢
  clear hs3
  refine (of_ok s2 _ (by omega)).mono ?_
  rintro e w5 ⟨rfl, b5⟩
  have B5 := Aside0.mk (below_step B4.out b5.below)
  clear b5 B4
  obtain ⟨q, hq⟩ : ∃ q, q = sumL (tl s2) := ⟨_, rfl⟩
  have hfin2 := Aside0.mk (hfin.out q hq)
  have hql := q.isLt
  rw [← hq]
  clear hq hfin
  go_wp2_with fail
  refine (bytes_ok _ _ (by omega) (by omega)).mono ?_
  rintro e w6 ⟨rfl, b6⟩
  rw [Int.toNat_natCast]
  have B6 := Aside0.mk (below_step B5.out b6)
  clear b6 B5
  obtain ⟨s3, hs⟩ : ∃ s : ByteArray, (⟨(two q.toNat).toArray⟩ : ByteArray) = s := ⟨_, rfl⟩
  have hs0 : s3.size = 2 := by rw [← hs]; rfl
  have hs5 : ¬ (9223372036854775807 < s2.size + s3.size) := by omega
  rw [hs] at hfin2 ⊢
  clear hs hs0 hs1
  go_wp2
  go_ret2
  exact ⟨by rw [← hfin2.out]; rfl, B6.out⟩
end Go.Proofs.YthidhmfejnjdhaaDoor.FrameE
