/- For every disk, text and number, DiskTells answers true: what is appended, synced, torn off and cut off is as the document says. No condition. -/
import Derived.Test.YtjbgboaghphaeaaHDiskTellsx4
namespace Go.Proofs.Ytjbgboaghphaeaa.Pure
open Go.RowKit Go.Proofs.Ytjbgboaghphaeaa.HDiskTells Go.Proofs.YtjbgboaghphaeaaW.PrintWords Go.Proofs.YtjbgboaghphaeaaW.PrintLast
set_option linter.unusedVariables false
set_option linter.unusedSimpArgs false
namespace DiskTellsP

theorem ba_ext {a b : ByteArray} (h : a.data.toList = b.data.toList) : a = b := by
  apply ByteArray.ext; exact Array.toList_inj.1 h
theorem ex_l (a : ByteArray) (n : Nat) : (a.extract 0 n).data.toList = a.data.toList.take n := by
  rw [ByteArray.data_extract, Array.toList_extract]; simp [List.extract]
theorem ap_l (a b : ByteArray) : (a ++ b).data.toList = a.data.toList ++ b.data.toList := by
  rw [ByteArray.data_append, Array.toList_append]
theorem sz_l (a : ByteArray) : a.data.toList.length = a.size := by rw [Array.length_toList]; rfl
theorem nil_l : (⟨#[]⟩ : ByteArray).data.toList = [] := rfl
theorem ap_nil (a : ByteArray) : a ++ (⟨#[]⟩ : ByteArray) = a := ba_ext (by rw [ap_l, nil_l, List.append_nil])
theorem nil_ap (a : ByteArray) : (⟨#[]⟩ : ByteArray) ++ a = a := ba_ext (by rw [ap_l, nil_l, List.nil_append])
theorem ap_assoc (a b c : ByteArray) : (a ++ b) ++ c = a ++ (b ++ c) := ba_ext (by simp only [ap_l, List.append_assoc])
theorem cut_l (s : ByteArray) (n : Int) : (cutTo s n).data.toList = s.data.toList.take n.toNat := by
  unfold cutTo
  rw [ex_l]
  by_cases h : n ≤ s.size
  · congr 1; omega
  · rw [List.take_of_length_le (by rw [sz_l]; omega), List.take_of_length_le (by rw [sz_l]; omega)]
theorem sz_cut (s : ByteArray) (n : Int) : (cutTo s n).size = min n.toNat s.size := by
  rw [← sz_l, cut_l, List.length_take, sz_l]
theorem sz_ap (a b : ByteArray) : (a ++ b).size = a.size + b.size := ByteArray.size_append
theorem sz_nil : (⟨#[]⟩ : ByteArray).size = 0 := rfl
theorem toNat_sz (x : ByteArray) (m : Int) (h : 0 ≤ m) : ((x.size : Int) + m).toNat = x.size + m.toNat := by omega
theorem pick_f (a n : Int) (ha : (Lit.int .i64 a).wf = true) (hn : 0 < n) : ∃ r, hagglerlaw05_pick.f a n = some r ∧ 0 ≤ r ∧ r < n := by
  have hw : -9223372036854775808 ≤ a ∧ a ≤ 9223372036854775807 := by
    have := ha
    simp [Lit.wf, IntKind.min, IntKind.max, IntKind.bits, IntKind.signed] at this
    omega
  unfold hagglerlaw05_pick.f
  by_cases h : a < 0
  · rw [if_pos h, if_neg (by omega)]
    have e : wrap64 (-(wrap64 (a + 1))) = -(a + 1) := by unfold wrap64; omega
    rw [e]
    exact ⟨_, rfl, Int.tmod_nonneg _ (by omega), Int.tmod_lt_of_pos _ hn⟩
  · rw [if_neg h, if_neg (by omega)]
    exact ⟨_, rfl, Int.tmod_nonneg _ (by omega), Int.tmod_lt_of_pos _ hn⟩
theorem mn_le (a : ByteArray) (m : Int) (hm : 0 ≤ m) : 0 ≤ mn (a.size : Int) m ∧ mn (a.size : Int) m ≤ a.size ∧ ((a.extract 0 (mn (a.size : Int) m).toNat).size : Int) ≤ m := by
  rw [ByteArray.size_extract]
  unfold mn
  split <;> omega
theorem sync_f (x y : ByteArray) (h : x.size + y.size ≤ 2000000) : disk_Sync.f x y = some (x ++ y, ⟨#[]⟩) := by
  unfold disk_Sync.f; rw [if_pos (by omega)]
theorem all_f (x y : ByteArray) (h : x.size + y.size ≤ 2000000) : disk_All.f x y = some (x ++ y) := by
  unfold disk_All.f; rw [if_pos (by omega)]
theorem cut_f (x y : ByteArray) (n : Int) (h : x.size + y.size ≤ 2000000) : disk_Cut.f x y n = some (cutTo (x ++ y) n, ⟨#[]⟩) := by
  unfold disk_Cut.f; rw [if_pos (by omega)]
theorem crash_f (x y : ByteArray) (n : Int) (h : x.size + y.size ≤ 2000000) : disk_Crash.f x y n = some (x ++ cutTo y n, ⟨#[]⟩) := by
  unfold disk_Crash.f; rw [if_pos (by omega)]
  refine congrArg some (Prod.ext ?_ rfl)
  apply ba_ext
  simp only [cut_l, ap_l]
  rw [List.take_append, sz_l, toNat_sz _ _ (by omega), Nat.add_sub_cancel_left, List.take_of_length_le (by rw [sz_l]; omega)]
  congr 1
  by_cases e : n ≤ y.size
  · congr 1; omega
  · rw [List.take_of_length_le (by rw [sz_l]; omega), List.take_of_length_le (by rw [sz_l]; omega)]
theorem append_f (x y t : ByteArray) (h : x.size + y.size + t.size ≤ 1000000) : disk_Append.f x y t = some (x, y ++ t, 0) := by
  unfold disk_Append.f
  have e : wrap64 (wrap64 ((x.size : Int) + y.size) + t.size) = (x.size : Int) + y.size + t.size := by unfold wrap64; omega
  rw [e, if_neg (by omega), if_pos (by omega)]
theorem append_full (x y t : ByteArray) (h0 : x.size + y.size + t.size ≤ 4000000000) (h : 1000000 < x.size + y.size + t.size) : disk_Append.f x y t = some (x, y, 50) := by
  unfold disk_Append.f
  have e : wrap64 (wrap64 ((x.size : Int) + y.size) + t.size) = (x.size : Int) + y.size + t.size := by unfold wrap64; omega
  rw [e, if_pos (by omega)]
theorem awake_f : hagglerlaw05_awake.f = some true := by
  have a1 : disk_Append.f ⟨#[]⟩ ⟨#[]⟩ ⟨#[97, 98]⟩ = some (⟨#[]⟩, ⟨#[97, 98]⟩, 0) := by
    rw [append_f _ _ _ (by decide)]; rfl
  unfold hagglerlaw05_awake.f
  decide +kernel

theorem small_f (x y : ByteArray) : ∃ a b, hagglerlaw05_small.f x y = some (a, b) ∧ a.size ≤ 3000 ∧ b.size ≤ 3000 := by
  unfold hagglerlaw05_small.f
  obtain ⟨a1, a2, a3⟩ := mn_le x 3000 (by omega)
  obtain ⟨b1, b2, b3⟩ := mn_le y 3000 (by omega)
  rw [if_pos a1, if_pos a2, if_pos b1, if_pos b2]
  exact ⟨_, _, rfl, by omega, by omega⟩

theorem mxmn (n : Int) (s : Nat) : mx 0 (mn n (s : Int)) = max 0 (min n (s : Int)) := by unfold mx mn; split <;> split <;> omega
theorem first_f (s : ByteArray) (n : Int) : hagglerref05_first.f s n = some (cutTo s n) := by
  unfold hagglerref05_first.f
  rw [mxmn, if_pos (by omega), if_pos (by omega)]
  rfl
theorem rall_f (x y : ByteArray) (h : x.size + y.size ≤ 2000000) : hagglerref05_All.f x y = some (x ++ y) := by
  unfold hagglerref05_All.f; rw [if_pos (by omega)]
theorem rcrash_f (x y : ByteArray) (n : Int) (h : x.size + y.size ≤ 2000000) : hagglerref05_Crash.f x y n = some (x ++ cutTo y n, ⟨#[]⟩) := by
  unfold hagglerref05_Crash.f
  rw [first_f, Option.bind_some, if_pos (by rw [sz_cut]; omega)]
theorem rcut_f (x y : ByteArray) (n : Int) (h : x.size + y.size ≤ 2000000) : hagglerref05_Cut.f x y n = some (cutTo (x ++ y) n, ⟨#[]⟩) := by
  unfold hagglerref05_Cut.f
  rw [rall_f x y h, Option.bind_some, first_f, Option.bind_some]
theorem rsync_f (x y : ByteArray) (h : x.size + y.size ≤ 2000000) : hagglerref05_Sync.f x y = some (x ++ y, ⟨#[]⟩) := by
  unfold hagglerref05_Sync.f
  rw [rall_f x y h, Option.bind_some]
theorem rappend_f (x y t : ByteArray) (hx : x.size ≤ 3000) (hy : y.size ≤ 3000) (ht : t.size ≤ 3000) : hagglerref05_Append.f x y t = some (x, y ++ t, 0) := by
  unfold hagglerref05_Append.f
  have e : wrap64 (wrap64 ((x.size : Int) + y.size) + t.size) = (x.size : Int) + y.size + t.size := by unfold wrap64; omega
  rw [if_neg (by omega), if_neg (by omega), if_neg (by omega), e, if_neg (by omega), if_pos (by omega)]
theorem loop (x y t : ByteArray) (hx : x.size ≤ 3000) (hy : y.size ≤ 3000) (ht : t.size ≤ 3000) (p q r : Int) :
    hagglerlaw05_DiskTells.l0 5 true t [p, q, r] (([p, q, r] : List Int).length : Int) 0 x y = some true := by
  have hl : (([p, q, r] : List Int).length : Int) = 3 := rfl
  rw [hl]
  have step : ∀ (k : Nat) (i : Int), 0 ≤ i → i < 3 → hagglerlaw05_DiskTells.l0 (k + 1) true t [p, q, r] 3 i x y = hagglerlaw05_DiskTells.l0 k true t [p, q, r] 3 (i + 1) x y := by
    intro k i h0 h3
    rw [hagglerlaw05_DiskTells.l0]
    rw [if_pos h3, if_pos h0, if_pos (by rw [hl]; exact h3), crash_f _ _ _ (by omega), rcrash_f _ _ _ (by omega)]
    rw [Option.bind_some, Option.bind_some, if_neg (by simp), cut_f _ _ _ (by omega), rcut_f _ _ _ (by omega)]
    rw [Option.bind_some, Option.bind_some, if_neg (by simp)]
    rw [show wrap64 (i + 1) = i + 1 by unfold wrap64; omega]
  rw [step 4 0 (by omega) (by omega), step 3 (0 + 1) (by omega) (by omega), step 2 (0 + 1 + 1) (by omega) (by omega)]
  rw [hagglerlaw05_DiskTells.l0]
  rw [if_neg (by omega), append_f _ _ _ (by omega), rappend_f _ _ _ hx hy ht, Option.bind_some, Option.bind_some, if_pos rfl, if_pos (by simp), if_pos rfl]
  rw [sync_f _ _ (by omega), rsync_f _ _ (by omega), Option.bind_some, Option.bind_some, if_pos (by simp), all_f _ _ (by omega), rall_f _ _ (by omega), Option.bind_some, Option.bind_some]
  simp

end DiskTellsP
open DiskTellsP
theorem DiskTells : hagglerlaw05_DiskTells.Pure := by
  intro x y t n _ _ _ hn
  refine ⟨5, ?_⟩
  obtain ⟨a, b, hs, ha, hb⟩ := small_f x y
  obtain ⟨c1, c2, c3⟩ := mn_le t 3000 (by omega)
  obtain ⟨q, hq, _, _⟩ := pick_f n 40 hn (by omega)
  unfold hagglerlaw05_DiskTells.f
  rw [awake_f, Option.bind_some, hs, Option.bind_some, if_pos c1, if_pos c2, hq, Option.bind_some, Option.bind_some]
  exact loop a b _ ha hb (by omega) _ _ _

end Go.Proofs.Ytjbgboaghphaeaa.Pure
