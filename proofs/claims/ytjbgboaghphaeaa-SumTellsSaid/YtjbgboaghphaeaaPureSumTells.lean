/- For every text and number, SumTells answers true: the program's sum is the document's. No condition. -/
import Derived.Test.YtjbgboaghphaeaaOSumTellsx1
import Derived.Test.YtjbgboaghphaeaaCrc
namespace Go.Proofs.Ytjbgboaghphaeaa.Pure
open Go.RowKit Go.Proofs.Ytjbgboaghphaeaa.OSumTells Go.Proofs.YtjbgboaghphaeaaW.PrintWords Go.Proofs.YtjbgboaghphaeaaW.PrintLast
set_option linter.unusedVariables false
set_option linter.unusedSimpArgs false
namespace SumTellsP

/-! The program's sum is 'crc'. -/
open Go.Proofs.Ytjbgboaghphaeaa.Crc in
theorem of_l1 (k : Nat) (a : ByteArray) (n : BitVec 16) (s i j : Int) (h : j < 8) (h0 : 0 ≤ j) :
    sum_Of.l1 (k + 1) a (n.toNat : Int) s i j = sum_Of.l1 k a ((stp n).toNat : Int) s i (j + 1) := by
  simp only [sum_Of.l1]
  rw [if_pos h, show wrap64 (j + 1) = j + 1 by unfold wrap64; omega]
  cases hm : n.msb with
  | false =>
    rw [if_pos ((msb16 n).2 hm), dbl16, stp_lo hm]
  | true =>
    rw [if_neg (fun e => by rw [(msb16 n).1 e] at hm; exact absurd hm (by decide)), dbl16]
    rw [show (4129 : Int) = ((0x1021#16).toNat : Int) from rfl, xor16, stp_hi hm]

open Go.Proofs.Ytjbgboaghphaeaa.Crc in
theorem of_l18 (k : Nat) (a : ByteArray) (n : BitVec 16) (s i : Int) :
    sum_Of.l1 (k + 9) a (n.toNat : Int) s i 0 = sum_Of.l0 k a ((its 8 n).toNat : Int) s (wrap64 (i + 1)) := by
  rw [of_l1 (k + 8) a n s i 0 (by omega) (by omega), of_l1 (k + 7) _ _ _ _ _ (by omega) (by omega), of_l1 (k + 6) _ _ _ _ _ (by omega) (by omega), of_l1 (k + 5) _ _ _ _ _ (by omega) (by omega), of_l1 (k + 4) _ _ _ _ _ (by omega) (by omega), of_l1 (k + 3) _ _ _ _ _ (by omega) (by omega), of_l1 (k + 2) _ _ _ _ _ (by omega) (by omega), of_l1 (k + 1) _ _ _ _ _ (by omega) (by omega)]
  simp only [sum_Of.l1]
  rw [if_neg (by omega)]
  rfl

open Go.Proofs.Ytjbgboaghphaeaa.Crc in
theorem of_l0 (a : ByteArray) (hs : a.size ≤ 9223372036854775800) : ∀ (d m i : Nat) (n : BitVec 16), i + d = a.size →
    sum_Of.l0 (10 * d + 1 + m) a (n.toNat : Int) (a.size : Int) (i : Int) = some ((crc n (a.data.toList.drop i)).toNat : Int) := by
  intro d
  induction d with
  | zero =>
    intro m i n h
    rw [show 10 * 0 + 1 + m = m + 1 by omega]
    simp only [sum_Of.l0]
    rw [if_neg (by omega), List.drop_eq_nil_of_le (by simp; show a.size ≤ i; omega)]
    have := n.isLt
    rw [show wrap64 (n.toNat : Int) = n.toNat by unfold wrap64; omega]
    rfl
  | succ d ih =>
    intro m i n h
    rw [show 10 * (d + 1) + 1 + m = (10 * d + 1 + m + 9) + 1 by omega]
    simp only [sum_Of.l0]
    have hi' : i < a.size := by omega
    rw [if_pos (by omega), if_pos (by omega), if_pos (by omega)]
    have hb : bt a (i : Int) = (a[i].toNat : Int) := by
      unfold bt; rw [dif_pos (by simpa using hi')]; simp
    rw [hb, byte16, xor16, of_l18, show wrap64 ((i : Int) + 1) = ((i + 1 : Nat) : Int) by unfold wrap64; omega, ih m (i + 1) _ (by omega)]
    rw [List.drop_eq_getElem_cons (i := i) (by simpa using hi')]
    rfl

open Go.Proofs.Ytjbgboaghphaeaa.Crc in
theorem of_f (a : ByteArray) (hs : a.size ≤ 9223372036854775800) (k : Nat) (hk : 10 * a.size + 1 ≤ k) :
    sum_Of.f k a = some ((crc 0xffff#16 a.data.toList).toNat : Int) := by
  obtain ⟨m, rfl⟩ : ∃ m, k = 10 * a.size + 1 + m := ⟨k - (10 * a.size + 1), by omega⟩
  exact of_l0 a hs a.size m 0 0xffff#16 (by omega)

theorem bytes_f (n : Int) (h : 0 ≤ n) (h' : n ≤ 65535) : sum_Bytes.f n = some (strOfNums [(n / 256) % 256, n % 256]) := by
  unfold sum_Bytes.f; rw [if_neg (by omega), if_neg (by omega)]

theorem bytes_data (n : Int) : (strOfNums [(n / 256) % 256, n % 256]).data.toList = [UInt8.ofNat ((n / 256) % 256).toNat, UInt8.ofNat (n % 256).toNat] := rfl

theorem pick_f (a n : Int) (ha : (Lit.int .i64 a).wf = true) (hn : 0 < n) : ∃ r, hagglerlaw03_pick.f a n = some r ∧ 0 ≤ r ∧ r < n := by
  have hw : -9223372036854775808 ≤ a ∧ a ≤ 9223372036854775807 := by
    have := ha
    simp [Lit.wf, IntKind.min, IntKind.max, IntKind.bits, IntKind.signed] at this
    omega
  unfold hagglerlaw03_pick.f
  by_cases h : a < 0
  · rw [if_pos h, if_neg (by omega)]
    have e : wrap64 (-(wrap64 (a + 1))) = -(a + 1) := by unfold wrap64; omega
    rw [e]
    exact ⟨_, rfl, Int.tmod_nonneg _ (by omega), Int.tmod_lt_of_pos _ hn⟩
  · rw [if_neg h, if_neg (by omega)]
    exact ⟨_, rfl, Int.tmod_nonneg _ (by omega), Int.tmod_lt_of_pos _ hn⟩

theorem awake_f (k : Nat) (hk : 100 ≤ k) : hagglerlaw03_awake.f k = some true := by
  unfold hagglerlaw03_awake.f
  rw [of_f _ (by decide) k (by show 10 * 9 + 1 ≤ k; omega), of_f _ (by decide) k (by show 10 * 0 + 1 ≤ k; omega)]
  decide +kernel

open Go.Proofs.Ytjbgboaghphaeaa.Crc in
theorem ref_l1 (k : Nat) (a : ByteArray) (n : BitVec 16) (i j : Int) (h : j < 8) (h0 : 0 ≤ j) :
    hagglerref03_Of.l1 (k + 1) a (n.toNat : Int) i j = hagglerref03_Of.l1 k a ((stp n).toNat : Int) i (j + 1) := by
  simp only [hagglerref03_Of.l1]
  rw [if_pos h, show wrap64 (j + 1) = j + 1 by unfold wrap64; omega, dbl64]
  cases hm : n.msb with
  | false =>
    rw [if_neg (fun e => by rw [(msb64 n).1 e] at hm; exact absurd hm (by decide)), stp_lo hm]
  | true =>
    rw [if_pos ((msb64 n).2 hm)]
    rw [show (4129 : Int) = ((0x1021#16).toNat : Int) from rfl, xor64, stp_hi hm]

open Go.Proofs.Ytjbgboaghphaeaa.Crc in
theorem ref_l18 (k : Nat) (a : ByteArray) (n : BitVec 16) (i : Int) :
    hagglerref03_Of.l1 (k + 9) a (n.toNat : Int) i 0 = hagglerref03_Of.l0 k a ((its 8 n).toNat : Int) (wrap64 (i + 1)) := by
  rw [ref_l1 (k + 8) a n i 0 (by omega) (by omega), ref_l1 (k + 7) _ _ _ _ (by omega) (by omega), ref_l1 (k + 6) _ _ _ _ (by omega) (by omega), ref_l1 (k + 5) _ _ _ _ (by omega) (by omega), ref_l1 (k + 4) _ _ _ _ (by omega) (by omega), ref_l1 (k + 3) _ _ _ _ (by omega) (by omega), ref_l1 (k + 2) _ _ _ _ (by omega) (by omega), ref_l1 (k + 1) _ _ _ _ (by omega) (by omega)]
  simp only [hagglerref03_Of.l1]
  rw [if_neg (by omega)]
  rfl

open Go.Proofs.Ytjbgboaghphaeaa.Crc in
theorem ref_l0 (a : ByteArray) (hs : a.size ≤ 9223372036854775800) : ∀ (d m i : Nat) (n : BitVec 16), i + d = a.size →
    hagglerref03_Of.l0 (10 * d + 1 + m) a (n.toNat : Int) (i : Int) = some ((crc n (a.data.toList.drop i)).toNat : Int) := by
  intro d
  induction d with
  | zero =>
    intro m i n h
    rw [show 10 * 0 + 1 + m = m + 1 by omega]
    simp only [hagglerref03_Of.l0]
    rw [if_neg (by omega), List.drop_eq_nil_of_le (by simp; show a.size ≤ i; omega)]
    rfl
  | succ d ih =>
    intro m i n h
    rw [show 10 * (d + 1) + 1 + m = (10 * d + 1 + m + 9) + 1 by omega]
    simp only [hagglerref03_Of.l0]
    have hi' : i < a.size := by omega
    rw [if_pos (by omega), if_pos (by omega)]
    have hb : bt a (i : Int) = (a[i].toNat : Int) := by
      unfold bt; rw [dif_pos (by simpa using hi')]; simp
    rw [hb, byte64, xor64, ref_l18, show wrap64 ((i : Int) + 1) = ((i + 1 : Nat) : Int) by unfold wrap64; omega, ih m (i + 1) _ (by omega)]
    rw [List.drop_eq_getElem_cons (i := i) (by simpa using hi')]
    rfl

open Go.Proofs.Ytjbgboaghphaeaa.Crc in
theorem ref_f (a : ByteArray) (hs : a.size ≤ 9223372036854775800) (k : Nat) (hk : 10 * a.size + 1 ≤ k) :
    hagglerref03_Of.f k a = some ((crc 0xffff#16 a.data.toList).toNat : Int) := by
  obtain ⟨m, rfl⟩ : ∃ m, k = 10 * a.size + 1 + m := ⟨k - (10 * a.size + 1), by omega⟩
  exact ref_l0 a hs a.size m 0 0xffff#16 (by omega)

theorem bytes_same (n : Int) (hn : (Lit.int .i64 n).wf = true) : ∃ s, sum_Bytes.f n = some s ∧ hagglerref03_Bytes.f n = some s := by
  unfold sum_Bytes.f hagglerref03_Bytes.f
  by_cases h : n < 0
  · rw [if_pos h, if_pos h]; exact ⟨_, rfl, rfl⟩
  · rw [if_neg h, if_neg h]
    by_cases h2 : n > 65535
    · rw [if_pos h2, if_pos h2]; exact ⟨_, rfl, rfl⟩
    · rw [if_neg h2, if_neg h2, Int.tdiv_eq_ediv_of_nonneg (by omega), Int.tmod_eq_emod_of_nonneg (by omega), show wrap64 (n / 256) = n / 256 by unfold wrap64; omega]
      refine ⟨_, rfl, ?_⟩
      rw [show n % 256 % 256 = n % 256 by omega]

theorem j_f (a : ByteArray) (hs : a.size ≤ 3000) (n : Int) (hn : (Lit.int .i64 n).wf = true) (k : Nat) (hk : 10 * a.size + 1 ≤ k) : hagglerlaw03_SumTells.j0 (k + 1) a n true = some true := by
  simp only [hagglerlaw03_SumTells.j0]
  rw [if_pos trivial, of_f a (by omega) k hk, ref_f a (by omega) k hk]
  simp only [Option.bind_some, if_true]
  obtain ⟨s, h1, h2⟩ := bytes_same n hn
  rw [h1, h2]
  simp only [Option.bind_some, if_true]
  obtain ⟨r, h3, h4, h5⟩ := pick_f n 65536 hn (by omega)
  obtain ⟨t, h6, h7⟩ := bytes_same r (by simp [Lit.wf, IntKind.min, IntKind.max, IntKind.bits, IntKind.signed]; omega)
  rw [h3]
  simp only [Option.bind_some]
  rw [h6, h7]
  simp

end SumTellsP
open SumTellsP
theorem SumTells : hagglerlaw03_SumTells.Pure := by
  intro a n ha hn
  refine ⟨40000, ?_⟩
  unfold hagglerlaw03_SumTells.f
  rw [awake_f 40000 (by omega)]
  simp only [Option.bind_some]
  by_cases h : (a.size : Int) > 3000
  · rw [if_pos h, if_pos (by omega), if_pos (by omega)]
    refine j_f _ ?_ n hn 39999 ?_ <;> simp only [ByteArray.size_extract] <;> omega
  · rw [if_neg h]
    exact j_f a (by omega) n hn 39999 (by omega)

end Go.Proofs.Ytjbgboaghphaeaa.Pure
