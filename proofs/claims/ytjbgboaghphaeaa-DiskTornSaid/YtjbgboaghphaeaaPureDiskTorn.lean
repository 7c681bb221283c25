/- For every disk and two numbers, DiskTorn answers true: behind a crash All is a beginning of what it was, and has all that was synced. No condition. -/
import Derived.Test.YtjbgboaghphaeaaHDiskTornx4
namespace Go.Proofs.Ytjbgboaghphaeaa.Pure
open Go.RowKit Go.Proofs.Ytjbgboaghphaeaa.HDiskTorn Go.Proofs.YtjbgboaghphaeaaW.PrintWords Go.Proofs.YtjbgboaghphaeaaW.PrintLast
set_option linter.unusedVariables false
set_option linter.unusedSimpArgs false
namespace DiskTornP

theorem ba_ext {a b : ByteArray} (h : a.data.toList = b.data.toList) : a = b := by
  apply ByteArray.ext; exact Array.toList_inj.1 h
theorem ex_l (a : ByteArray) (n : Nat) : (a.extract 0 n).data.toList = a.data.toList.take n := by
  rw [ByteArray.data_extract, Array.toList_extract]; simp [List.extract]
theorem ap_l (a b : ByteArray) : (a ++ b).data.toList = a.data.toList ++ b.data.toList := by
  rw [ByteArray.data_append, Array.toList_append]
theorem sz_l (a : ByteArray) : a.data.toList.length = a.size := by rw [Array.length_toList]; rfl
theorem nil_l : (⟨#[]⟩ : ByteArray).data.toList = [] := rfl
theorem ap_nil (a : ByteArray) : a ++ (⟨#[]⟩ : ByteArray) = a := ba_ext (by rw [ap_l, nil_l, List.append_nil])
theorem nil_ap (a : ByteArray) : (⟨#[]⟩ : ByteArray) ++ a = a := ba_ext (by rw [ap_l, nil_l, List.nil_append])
theorem ap_assoc (a b c : ByteArray) : (a ++ b) ++ c = a ++ (b ++ c) := ba_ext (by simp only [ap_l, List.append_assoc])
theorem cut_l (s : ByteArray) (n : Int) : (cutTo s n).data.toList = s.data.toList.take n.toNat := by
  unfold cutTo
  rw [ex_l]
  by_cases h : n ≤ s.size
  · congr 1; omega
  · rw [List.take_of_length_le (by rw [sz_l]; omega), List.take_of_length_le (by rw [sz_l]; omega)]
theorem sz_cut (s : ByteArray) (n : Int) : (cutTo s n).size = min n.toNat s.size := by
  rw [← sz_l, cut_l, List.length_take, sz_l]
theorem sz_ap (a b : ByteArray) : (a ++ b).size = a.size + b.size := ByteArray.size_append
theorem sz_nil : (⟨#[]⟩ : ByteArray).size = 0 := rfl
theorem toNat_sz (x : ByteArray) (m : Int) (h : 0 ≤ m) : ((x.size : Int) + m).toNat = x.size + m.toNat := by omega
theorem mn_le (a : ByteArray) (m : Int) (hm : 0 ≤ m) : 0 ≤ mn (a.size : Int) m ∧ mn (a.size : Int) m ≤ a.size ∧ ((a.extract 0 (mn (a.size : Int) m).toNat).size : Int) ≤ m := by
  rw [ByteArray.size_extract]
  unfold mn
  split <;> omega
theorem sync_f (x y : ByteArray) (h : x.size + y.size ≤ 2000000) : disk_Sync.f x y = some (x ++ y, ⟨#[]⟩) := by
  unfold disk_Sync.f; rw [if_pos (by omega)]
theorem all_f (x y : ByteArray) (h : x.size + y.size ≤ 2000000) : disk_All.f x y = some (x ++ y) := by
  unfold disk_All.f; rw [if_pos (by omega)]
theorem cut_f (x y : ByteArray) (n : Int) (h : x.size + y.size ≤ 2000000) : disk_Cut.f x y n = some (cutTo (x ++ y) n, ⟨#[]⟩) := by
  unfold disk_Cut.f; rw [if_pos (by omega)]
theorem crash_f (x y : ByteArray) (n : Int) (h : x.size + y.size ≤ 2000000) : disk_Crash.f x y n = some (x ++ cutTo y n, ⟨#[]⟩) := by
  unfold disk_Crash.f; rw [if_pos (by omega)]
  refine congrArg some (Prod.ext ?_ rfl)
  apply ba_ext
  simp only [cut_l, ap_l]
  rw [List.take_append, sz_l, toNat_sz _ _ (by omega), Nat.add_sub_cancel_left, List.take_of_length_le (by rw [sz_l]; omega)]
  congr 1
  by_cases e : n ≤ y.size
  · congr 1; omega
  · rw [List.take_of_length_le (by rw [sz_l]; omega), List.take_of_length_le (by rw [sz_l]; omega)]
theorem append_f (x y t : ByteArray) (h : x.size + y.size + t.size ≤ 1000000) : disk_Append.f x y t = some (x, y ++ t, 0) := by
  unfold disk_Append.f
  have e : wrap64 (wrap64 ((x.size : Int) + y.size) + t.size) = (x.size : Int) + y.size + t.size := by unfold wrap64; omega
  rw [e, if_neg (by omega), if_pos (by omega)]
theorem append_full (x y t : ByteArray) (h0 : x.size + y.size + t.size ≤ 4000000000) (h : 1000000 < x.size + y.size + t.size) : disk_Append.f x y t = some (x, y, 50) := by
  unfold disk_Append.f
  have e : wrap64 (wrap64 ((x.size : Int) + y.size) + t.size) = (x.size : Int) + y.size + t.size := by unfold wrap64; omega
  rw [e, if_pos (by omega)]
theorem awake_f : hagglerlaw05_awake.f = some true := by
  have a1 : disk_Append.f ⟨#[]⟩ ⟨#[]⟩ ⟨#[97, 98]⟩ = some (⟨#[]⟩, ⟨#[97, 98]⟩, 0) := by
    rw [append_f _ _ _ (by decide)]; rfl
  unfold hagglerlaw05_awake.f
  decide +kernel

theorem small_f (x y : ByteArray) : ∃ a b, hagglerlaw05_small.f x y = some (a, b) ∧ a.size ≤ 3000 ∧ b.size ≤ 3000 := by
  unfold hagglerlaw05_small.f
  obtain ⟨a1, a2, a3⟩ := mn_le x 3000 (by omega)
  obtain ⟨b1, b2, b3⟩ := mn_le y 3000 (by omega)
  rw [if_pos a1, if_pos a2, if_pos b1, if_pos b2]
  exact ⟨_, _, rfl, by omega, by omega⟩

end DiskTornP
open DiskTornP
theorem DiskTorn : hagglerlaw05_DiskTorn.Pure := by
  intro x y n m _ _ hn hm
  obtain ⟨a, b, hs, ha, hb⟩ := small_f x y
  unfold hagglerlaw05_DiskTorn.f
  have hc : (cutTo b n).size ≤ b.size := by rw [sz_cut]; omega
  have e0 : cutTo (⟨#[]⟩ : ByteArray) m = ⟨#[]⟩ := ba_ext (by rw [cut_l, nil_l, List.take_nil])
  have hsz : (a ++ cutTo b n).size = a.size + (cutTo b n).size := sz_ap _ _
  have hsz2 : (a ++ b).size = a.size + b.size := sz_ap _ _
  have k1 : (a ++ cutTo b n).size + (⟨#[]⟩ : ByteArray).size ≤ 2000000 := by rw [sz_nil]; omega
  have k2 : (a ++ b).size + (⟨#[]⟩ : ByteArray).size ≤ 2000000 := by rw [sz_nil]; omega
  have hpre : (a ++ b).extract 0 (((a ++ cutTo b n).size : Int) : Int).toNat = a ++ cutTo b n := by
    apply ba_ext
    rw [Int.toNat_natCast]
    simp only [ex_l, ap_l, cut_l, hsz]
    rw [List.take_append, sz_l, Nat.add_sub_cancel_left, List.take_of_length_le (by rw [sz_l]; omega), sz_cut]
    congr 1
    by_cases e : n.toNat ≤ b.size
    · rw [Nat.min_eq_left e]
    · rw [List.take_of_length_le (by rw [sz_l]; omega), List.take_of_length_le (by rw [sz_l]; omega)]
  rw [awake_f, Option.bind_some, hs, Option.bind_some]; dsimp only
  rw [crash_f _ _ _ (by omega), Option.bind_some]; dsimp only
  rw [all_f _ _ (by omega), Option.bind_some, all_f _ _ k1, Option.bind_some, ap_nil]
  rw [if_pos rfl, if_pos (by omega), if_pos (by omega), if_pos (by omega), if_pos (by rw [hpre])]
  rw [crash_f _ _ _ k1, Option.bind_some]; dsimp only
  rw [e0, ap_nil, if_pos (by simp)]
  rw [sync_f _ _ (by omega), Option.bind_some]; dsimp only
  rw [crash_f _ _ _ k2, Option.bind_some, Option.bind_some]; dsimp only
  rw [e0, ap_nil, if_pos (by simp), Option.bind_some]; dsimp only
  rw [all_f _ _ k2, Option.bind_some, ap_nil, if_pos rfl, sync_f _ _ k1, Option.bind_some]; dsimp only
  rw [ap_nil]
  simp

end Go.Proofs.Ytjbgboaghphaeaa.Pure
