/- For every disk, two numbers and a text, DiskCuts answers true: what is cut off is gone; a cut behind a cut is the shorter one. No condition. -/
import Derived.Test.YtjbgboaghphaeaaHDiskCutsx4
namespace Go.Proofs.Ytjbgboaghphaeaa.Pure
open Go.RowKit Go.Proofs.Ytjbgboaghphaeaa.HDiskCuts Go.Proofs.YtjbgboaghphaeaaW.PrintWords Go.Proofs.YtjbgboaghphaeaaW.PrintLast
set_option linter.unusedVariables false
set_option linter.unusedSimpArgs false
namespace DiskCutsP

theorem ba_ext {a b : ByteArray} (h : a.data.toList = b.data.toList) : a = b := by
  apply ByteArray.ext; exact Array.toList_inj.1 h
theorem ex_l (a : ByteArray) (n : Nat) : (a.extract 0 n).data.toList = a.data.toList.take n := by
  rw [ByteArray.data_extract, Array.toList_extract]; simp [List.extract]
theorem ap_l (a b : ByteArray) : (a ++ b).data.toList = a.data.toList ++ b.data.toList := by
  rw [ByteArray.data_append, Array.toList_append]
theorem sz_l (a : ByteArray) : a.data.toList.length = a.size := by rw [Array.length_toList]; rfl
theorem nil_l : (⟨#[]⟩ : ByteArray).data.toList = [] := rfl
theorem ap_nil (a : ByteArray) : a ++ (⟨#[]⟩ : ByteArray) = a := ba_ext (by rw [ap_l, nil_l, List.append_nil])
theorem nil_ap (a : ByteArray) : (⟨#[]⟩ : ByteArray) ++ a = a := ba_ext (by rw [ap_l, nil_l, List.nil_append])
theorem ap_assoc (a b c : ByteArray) : (a ++ b) ++ c = a ++ (b ++ c) := ba_ext (by simp only [ap_l, List.append_assoc])
theorem cut_l (s : ByteArray) (n : Int) : (cutTo s n).data.toList = s.data.toList.take n.toNat := by
  unfold cutTo
  rw [ex_l]
  by_cases h : n ≤ s.size
  · congr 1; omega
  · rw [List.take_of_length_le (by rw [sz_l]; omega), List.take_of_length_le (by rw [sz_l]; omega)]
theorem sz_cut (s : ByteArray) (n : Int) : (cutTo s n).size = min n.toNat s.size := by
  rw [← sz_l, cut_l, List.length_take, sz_l]
theorem sz_ap (a b : ByteArray) : (a ++ b).size = a.size + b.size := ByteArray.size_append
theorem sz_nil : (⟨#[]⟩ : ByteArray).size = 0 := rfl
theorem toNat_sz (x : ByteArray) (m : Int) (h : 0 ≤ m) : ((x.size : Int) + m).toNat = x.size + m.toNat := by omega
theorem mn_le (a : ByteArray) (m : Int) (hm : 0 ≤ m) : 0 ≤ mn (a.size : Int) m ∧ mn (a.size : Int) m ≤ a.size ∧ ((a.extract 0 (mn (a.size : Int) m).toNat).size : Int) ≤ m := by
  rw [ByteArray.size_extract]
  unfold mn
  split <;> omega
theorem sync_f (x y : ByteArray) (h : x.size + y.size ≤ 2000000) : disk_Sync.f x y = some (x ++ y, ⟨#[]⟩) := by
  unfold disk_Sync.f; rw [if_pos (by omega)]
theorem all_f (x y : ByteArray) (h : x.size + y.size ≤ 2000000) : disk_All.f x y = some (x ++ y) := by
  unfold disk_All.f; rw [if_pos (by omega)]
theorem cut_f (x y : ByteArray) (n : Int) (h : x.size + y.size ≤ 2000000) : disk_Cut.f x y n = some (cutTo (x ++ y) n, ⟨#[]⟩) := by
  unfold disk_Cut.f; rw [if_pos (by omega)]
theorem crash_f (x y : ByteArray) (n : Int) (h : x.size + y.size ≤ 2000000) : disk_Crash.f x y n = some (x ++ cutTo y n, ⟨#[]⟩) := by
  unfold disk_Crash.f; rw [if_pos (by omega)]
  refine congrArg some (Prod.ext ?_ rfl)
  apply ba_ext
  simp only [cut_l, ap_l]
  rw [List.take_append, sz_l, toNat_sz _ _ (by omega), Nat.add_sub_cancel_left, List.take_of_length_le (by rw [sz_l]; omega)]
  congr 1
  by_cases e : n ≤ y.size
  · congr 1; omega
  · rw [List.take_of_length_le (by rw [sz_l]; omega), List.take_of_length_le (by rw [sz_l]; omega)]
theorem append_f (x y t : ByteArray) (h : x.size + y.size + t.size ≤ 1000000) : disk_Append.f x y t = some (x, y ++ t, 0) := by
  unfold disk_Append.f
  have e : wrap64 (wrap64 ((x.size : Int) + y.size) + t.size) = (x.size : Int) + y.size + t.size := by unfold wrap64; omega
  rw [e, if_neg (by omega), if_pos (by omega)]
theorem append_full (x y t : ByteArray) (h0 : x.size + y.size + t.size ≤ 4000000000) (h : 1000000 < x.size + y.size + t.size) : disk_Append.f x y t = some (x, y, 50) := by
  unfold disk_Append.f
  have e : wrap64 (wrap64 ((x.size : Int) + y.size) + t.size) = (x.size : Int) + y.size + t.size := by unfold wrap64; omega
  rw [e, if_pos (by omega)]
theorem awake_f : hagglerlaw05_awake.f = some true := by
  have a1 : disk_Append.f ⟨#[]⟩ ⟨#[]⟩ ⟨#[97, 98]⟩ = some (⟨#[]⟩, ⟨#[97, 98]⟩, 0) := by
    rw [append_f _ _ _ (by decide)]; rfl
  unfold hagglerlaw05_awake.f
  decide +kernel

theorem small_f (x y : ByteArray) : ∃ a b, hagglerlaw05_small.f x y = some (a, b) ∧ a.size ≤ 3000 ∧ b.size ≤ 3000 := by
  unfold hagglerlaw05_small.f
  obtain ⟨a1, a2, a3⟩ := mn_le x 3000 (by omega)
  obtain ⟨b1, b2, b3⟩ := mn_le y 3000 (by omega)
  rw [if_pos a1, if_pos a2, if_pos b1, if_pos b2]
  exact ⟨_, _, rfl, by omega, by omega⟩

end DiskCutsP
open DiskCutsP
theorem DiskCuts : hagglerlaw05_DiskCuts.Pure := by
  intro x y n m t _ _ _ _ _
  obtain ⟨a, b, hs, ha, hb⟩ := small_f x y
  obtain ⟨c1, c2, c3⟩ := mn_le t 100 (by omega)
  unfold hagglerlaw05_DiskCuts.f
  rw [awake_f, Option.bind_some, hs, Option.bind_some, if_pos c1, if_pos c2]; dsimp only
  generalize t.extract 0 (mn (t.size : Int) 100).toNat = s at *
  have hsz2 : (a ++ b).size = a.size + b.size := sz_ap _ _
  have hc : (cutTo (a ++ b) n).size ≤ a.size + b.size := by rw [sz_cut]; omega
  have k1 : (cutTo (a ++ b) n).size + (⟨#[]⟩ : ByteArray).size ≤ 2000000 := by rw [sz_nil]; omega
  have e1 : cutTo (cutTo (a ++ b) n) m = cutTo (a ++ b) (mn n m) := by
    apply ba_ext
    simp only [cut_l, List.take_take]
    congr 1
    unfold mn; split <;> omega
  have e2 : cutTo s 0 = ⟨#[]⟩ := ba_ext (by rw [cut_l, nil_l]; rfl)
  have e3 : cutTo (cutTo (a ++ b) n ++ s) ((cutTo (a ++ b) n).size : Int) = cutTo (a ++ b) n := by
    apply ba_ext
    rw [cut_l, ap_l, Int.toNat_natCast, List.take_append, sz_l, Nat.sub_self, List.take_zero, List.append_nil, List.take_of_length_le (by rw [sz_l]; omega)]
  rw [cut_f _ _ _ (by omega), Option.bind_some]; dsimp only
  rw [cut_f _ _ _ k1, Option.bind_some]; dsimp only
  rw [append_f _ _ _ (by rw [sz_nil]; omega), Option.bind_some]; dsimp only
  rw [nil_ap, ap_nil, if_pos rfl, cut_f _ _ _ (by omega), Option.bind_some]; dsimp only
  rw [e1, if_pos (by simp), if_pos rfl, all_f _ _ (by omega), Option.bind_some, all_f _ _ k1, Option.bind_some, ap_nil, if_pos (by omega), if_pos rfl]
  rw [crash_f _ _ _ (by omega), Option.bind_some]; dsimp only
  rw [e2, ap_nil, if_pos (by simp), Option.bind_some]
  rw [cut_f _ _ _ (by omega), Option.bind_some]; dsimp only
  rw [e3]
  simp

end Go.Proofs.Ytjbgboaghphaeaa.Pure
