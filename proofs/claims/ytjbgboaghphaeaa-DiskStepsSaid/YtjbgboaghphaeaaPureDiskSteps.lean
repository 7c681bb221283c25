/- For every three texts and a number, DiskSteps answers true: what was synced outlives each crash; what is appended piece by piece is as all at once. No condition. -/
import Derived.Test.YtjbgboaghphaeaaHDiskStepsx4
namespace Go.Proofs.Ytjbgboaghphaeaa.Pure
open Go.RowKit Go.Proofs.Ytjbgboaghphaeaa.HDiskSteps Go.Proofs.YtjbgboaghphaeaaW.PrintWords Go.Proofs.YtjbgboaghphaeaaW.PrintLast
set_option linter.unusedVariables false
set_option linter.unusedSimpArgs false
namespace DiskStepsP

theorem ba_ext {a b : ByteArray} (h : a.data.toList = b.data.toList) : a = b := by
  apply ByteArray.ext; exact Array.toList_inj.1 h
theorem ex_l (a : ByteArray) (n : Nat) : (a.extract 0 n).data.toList = a.data.toList.take n := by
  rw [ByteArray.data_extract, Array.toList_extract]; simp [List.extract]
theorem ap_l (a b : ByteArray) : (a ++ b).data.toList = a.data.toList ++ b.data.toList := by
  rw [ByteArray.data_append, Array.toList_append]
theorem sz_l (a : ByteArray) : a.data.toList.length = a.size := by rw [Array.length_toList]; rfl
theorem nil_l : (⟨#[]⟩ : ByteArray).data.toList = [] := rfl
theorem ap_nil (a : ByteArray) : a ++ (⟨#[]⟩ : ByteArray) = a := ba_ext (by rw [ap_l, nil_l, List.append_nil])
theorem nil_ap (a : ByteArray) : (⟨#[]⟩ : ByteArray) ++ a = a := ba_ext (by rw [ap_l, nil_l, List.nil_append])
theorem ap_assoc (a b c : ByteArray) : (a ++ b) ++ c = a ++ (b ++ c) := ba_ext (by simp only [ap_l, List.append_assoc])
theorem cut_l (s : ByteArray) (n : Int) : (cutTo s n).data.toList = s.data.toList.take n.toNat := by
  unfold cutTo
  rw [ex_l]
  by_cases h : n ≤ s.size
  · congr 1; omega
  · rw [List.take_of_length_le (by rw [sz_l]; omega), List.take_of_length_le (by rw [sz_l]; omega)]
theorem sz_cut (s : ByteArray) (n : Int) : (cutTo s n).size = min n.toNat s.size := by
  rw [← sz_l, cut_l, List.length_take, sz_l]
theorem sz_ap (a b : ByteArray) : (a ++ b).size = a.size + b.size := ByteArray.size_append
theorem sz_nil : (⟨#[]⟩ : ByteArray).size = 0 := rfl
theorem toNat_sz (x : ByteArray) (m : Int) (h : 0 ≤ m) : ((x.size : Int) + m).toNat = x.size + m.toNat := by omega
theorem pick_f (a n : Int) (ha : (Lit.int .i64 a).wf = true) (hn : 0 < n) : ∃ r, hagglerlaw05_pick.f a n = some r ∧ 0 ≤ r ∧ r < n := by
  have hw : -9223372036854775808 ≤ a ∧ a ≤ 9223372036854775807 := by
    have := ha
    simp [Lit.wf, IntKind.min, IntKind.max, IntKind.bits, IntKind.signed] at this
    omega
  unfold hagglerlaw05_pick.f
  by_cases h : a < 0
  · rw [if_pos h, if_neg (by omega)]
    have e : wrap64 (-(wrap64 (a + 1))) = -(a + 1) := by unfold wrap64; omega
    rw [e]
    exact ⟨_, rfl, Int.tmod_nonneg _ (by omega), Int.tmod_lt_of_pos _ hn⟩
  · rw [if_neg h, if_neg (by omega)]
    exact ⟨_, rfl, Int.tmod_nonneg _ (by omega), Int.tmod_lt_of_pos _ hn⟩
theorem mn_le (a : ByteArray) (m : Int) (hm : 0 ≤ m) : 0 ≤ mn (a.size : Int) m ∧ mn (a.size : Int) m ≤ a.size ∧ ((a.extract 0 (mn (a.size : Int) m).toNat).size : Int) ≤ m := by
  rw [ByteArray.size_extract]
  unfold mn
  split <;> omega
theorem sync_f (x y : ByteArray) (h : x.size + y.size ≤ 2000000) : disk_Sync.f x y = some (x ++ y, ⟨#[]⟩) := by
  unfold disk_Sync.f; rw [if_pos (by omega)]
theorem all_f (x y : ByteArray) (h : x.size + y.size ≤ 2000000) : disk_All.f x y = some (x ++ y) := by
  unfold disk_All.f; rw [if_pos (by omega)]
theorem cut_f (x y : ByteArray) (n : Int) (h : x.size + y.size ≤ 2000000) : disk_Cut.f x y n = some (cutTo (x ++ y) n, ⟨#[]⟩) := by
  unfold disk_Cut.f; rw [if_pos (by omega)]
theorem crash_f (x y : ByteArray) (n : Int) (h : x.size + y.size ≤ 2000000) : disk_Crash.f x y n = some (x ++ cutTo y n, ⟨#[]⟩) := by
  unfold disk_Crash.f; rw [if_pos (by omega)]
  refine congrArg some (Prod.ext ?_ rfl)
  apply ba_ext
  simp only [cut_l, ap_l]
  rw [List.take_append, sz_l, toNat_sz _ _ (by omega), Nat.add_sub_cancel_left, List.take_of_length_le (by rw [sz_l]; omega)]
  congr 1
  by_cases e : n ≤ y.size
  · congr 1; omega
  · rw [List.take_of_length_le (by rw [sz_l]; omega), List.take_of_length_le (by rw [sz_l]; omega)]
theorem append_f (x y t : ByteArray) (h : x.size + y.size + t.size ≤ 1000000) : disk_Append.f x y t = some (x, y ++ t, 0) := by
  unfold disk_Append.f
  have e : wrap64 (wrap64 ((x.size : Int) + y.size) + t.size) = (x.size : Int) + y.size + t.size := by unfold wrap64; omega
  rw [e, if_neg (by omega), if_pos (by omega)]
theorem append_full (x y t : ByteArray) (h0 : x.size + y.size + t.size ≤ 4000000000) (h : 1000000 < x.size + y.size + t.size) : disk_Append.f x y t = some (x, y, 50) := by
  unfold disk_Append.f
  have e : wrap64 (wrap64 ((x.size : Int) + y.size) + t.size) = (x.size : Int) + y.size + t.size := by unfold wrap64; omega
  rw [e, if_pos (by omega)]
theorem awake_f : hagglerlaw05_awake.f = some true := by
  have a1 : disk_Append.f ⟨#[]⟩ ⟨#[]⟩ ⟨#[97, 98]⟩ = some (⟨#[]⟩, ⟨#[97, 98]⟩, 0) := by
    rw [append_f _ _ _ (by decide)]; rfl
  unfold hagglerlaw05_awake.f
  decide +kernel

theorem cut_mn (c : ByteArray) (k : Int) : c.extract 0 (mn k (c.size : Int)).toNat = cutTo c k := by
  apply ba_ext
  rw [ex_l, cut_l]
  unfold mn
  split
  · rw [List.take_of_length_le (by rw [sz_l]; omega), List.take_of_length_le (by rw [sz_l]; omega)]
  · rfl
theorem mn_k (k : Int) (n : Nat) (h : 0 ≤ k) : 0 ≤ mn k (n : Int) ∧ mn k (n : Int) ≤ n := by unfold mn; split <;> omega
theorem core (a b c : ByteArray) (ha : (a.size : Int) ≤ 500) (hb : (b.size : Int) ≤ 500) (hc : (c.size : Int) ≤ 500) : True := trivial

end DiskStepsP
open DiskStepsP
theorem DiskSteps : hagglerlaw05_DiskSteps.Pure := by
  intro x y z n _ _ _ hn
  obtain ⟨a1, a2, a3⟩ := mn_le x 500 (by omega)
  obtain ⟨b1, b2, b3⟩ := mn_le y 500 (by omega)
  obtain ⟨c1, c2, c3⟩ := mn_le z 500 (by omega)
  obtain ⟨k, hk, k0, k1⟩ := pick_f n 600 hn (by omega)
  unfold hagglerlaw05_DiskSteps.f
  rw [awake_f, Option.bind_some, if_pos a1, if_pos a2, if_pos b1, if_pos b2, if_pos c1, if_pos c2]
  generalize x.extract 0 (mn (x.size : Int) 500).toNat = a at *
  generalize y.extract 0 (mn (y.size : Int) 500).toNat = b at *
  generalize z.extract 0 (mn (z.size : Int) 500).toNat = c at *
  have hab : (a ++ b).size = a.size + b.size := sz_ap _ _
  have hc1 := mn_k k c.size k0
  have hc2 := mn_k k (a ++ b).size k0
  have sc : (cutTo c k).size ≤ c.size := by rw [sz_cut]; omega
  have sab : (cutTo (a ++ b) k).size ≤ (a ++ b).size := by rw [sz_cut]; omega
  rw [append_f _ _ _ (by rw [sz_nil]; omega), Option.bind_some]; dsimp only
  rw [nil_ap, append_f _ _ _ (by rw [sz_nil]; omega), Option.bind_some]; dsimp only
  rw [sync_f _ _ (by rw [sz_nil]; omega), Option.bind_some]; dsimp only
  rw [nil_ap, append_f _ _ _ (by rw [sz_nil]; omega), Option.bind_some]; dsimp only
  rw [nil_ap, if_pos (by omega), append_f _ _ _ (by rw [sz_nil]; omega), Option.bind_some]; dsimp only
  rw [nil_ap, hk, Option.bind_some, if_pos rfl, if_pos rfl, if_pos rfl, if_pos rfl, if_pos rfl, if_pos (by simp)]
  rw [all_f _ _ (by omega), Option.bind_some, if_pos (by omega), if_pos rfl]
  rw [crash_f _ _ _ (by omega), Option.bind_some]; dsimp only
  rw [all_f _ _ (by rw [sz_nil, sz_ap]; omega), Option.bind_some, ap_nil, if_pos hc1.1, if_pos hc1.2, cut_mn, if_pos (by omega), if_pos rfl]
  rw [crash_f _ _ _ (by rw [sz_nil]; omega), Option.bind_some]; dsimp only
  rw [nil_ap, all_f _ _ (by rw [sz_nil]; omega), Option.bind_some, ap_nil, if_pos hc2.1, if_pos hc2.2, cut_mn]
  simp

end Go.Proofs.Ytjbgboaghphaeaa.Pure
