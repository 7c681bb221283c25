/- For every text and two numbers, SumLength answers true: another byte ahead of a text, or behind it, makes another sum. No condition. -/
import Derived.Test.YtjbgboaghphaeaaOSumLengthx1
import Derived.Test.YtjbgboaghphaeaaCrc
namespace Go.Proofs.Ytjbgboaghphaeaa.Pure
open Go.RowKit Go.Proofs.Ytjbgboaghphaeaa.OSumLength Go.Proofs.YtjbgboaghphaeaaW.PrintWords Go.Proofs.YtjbgboaghphaeaaW.PrintLast
set_option linter.unusedVariables false
set_option linter.unusedSimpArgs false
namespace SumLengthP

/-! The program's sum is 'crc'. -/
open Go.Proofs.Ytjbgboaghphaeaa.Crc in
theorem of_l1 (k : Nat) (a : ByteArray) (n : BitVec 16) (s i j : Int) (h : j < 8) (h0 : 0 ≤ j) :
    sum_Of.l1 (k + 1) a (n.toNat : Int) s i j = sum_Of.l1 k a ((stp n).toNat : Int) s i (j + 1) := by
  simp only [sum_Of.l1]
  rw [if_pos h, show wrap64 (j + 1) = j + 1 by unfold wrap64; omega]
  cases hm : n.msb with
  | false =>
    rw [if_pos ((msb16 n).2 hm), dbl16, stp_lo hm]
  | true =>
    rw [if_neg (fun e => by rw [(msb16 n).1 e] at hm; exact absurd hm (by decide)), dbl16]
    rw [show (4129 : Int) = ((0x1021#16).toNat : Int) from rfl, xor16, stp_hi hm]

open Go.Proofs.Ytjbgboaghphaeaa.Crc in
theorem of_l18 (k : Nat) (a : ByteArray) (n : BitVec 16) (s i : Int) :
    sum_Of.l1 (k + 9) a (n.toNat : Int) s i 0 = sum_Of.l0 k a ((its 8 n).toNat : Int) s (wrap64 (i + 1)) := by
  rw [of_l1 (k + 8) a n s i 0 (by omega) (by omega), of_l1 (k + 7) _ _ _ _ _ (by omega) (by omega), of_l1 (k + 6) _ _ _ _ _ (by omega) (by omega), of_l1 (k + 5) _ _ _ _ _ (by omega) (by omega), of_l1 (k + 4) _ _ _ _ _ (by omega) (by omega), of_l1 (k + 3) _ _ _ _ _ (by omega) (by omega), of_l1 (k + 2) _ _ _ _ _ (by omega) (by omega), of_l1 (k + 1) _ _ _ _ _ (by omega) (by omega)]
  simp only [sum_Of.l1]
  rw [if_neg (by omega)]
  rfl

open Go.Proofs.Ytjbgboaghphaeaa.Crc in
theorem of_l0 (a : ByteArray) (hs : a.size ≤ 9223372036854775800) : ∀ (d m i : Nat) (n : BitVec 16), i + d = a.size →
    sum_Of.l0 (10 * d + 1 + m) a (n.toNat : Int) (a.size : Int) (i : Int) = some ((crc n (a.data.toList.drop i)).toNat : Int) := by
  intro d
  induction d with
  | zero =>
    intro m i n h
    rw [show 10 * 0 + 1 + m = m + 1 by omega]
    simp only [sum_Of.l0]
    rw [if_neg (by omega), List.drop_eq_nil_of_le (by simp; show a.size ≤ i; omega)]
    have := n.isLt
    rw [show wrap64 (n.toNat : Int) = n.toNat by unfold wrap64; omega]
    rfl
  | succ d ih =>
    intro m i n h
    rw [show 10 * (d + 1) + 1 + m = (10 * d + 1 + m + 9) + 1 by omega]
    simp only [sum_Of.l0]
    have hi' : i < a.size := by omega
    rw [if_pos (by omega), if_pos (by omega), if_pos (by omega)]
    have hb : bt a (i : Int) = (a[i].toNat : Int) := by
      unfold bt; rw [dif_pos (by simpa using hi')]; simp
    rw [hb, byte16, xor16, of_l18, show wrap64 ((i : Int) + 1) = ((i + 1 : Nat) : Int) by unfold wrap64; omega, ih m (i + 1) _ (by omega)]
    rw [List.drop_eq_getElem_cons (i := i) (by simpa using hi')]
    rfl

open Go.Proofs.Ytjbgboaghphaeaa.Crc in
theorem of_f (a : ByteArray) (hs : a.size ≤ 9223372036854775800) (k : Nat) (hk : 10 * a.size + 1 ≤ k) :
    sum_Of.f k a = some ((crc 0xffff#16 a.data.toList).toNat : Int) := by
  obtain ⟨m, rfl⟩ : ∃ m, k = 10 * a.size + 1 + m := ⟨k - (10 * a.size + 1), by omega⟩
  exact of_l0 a hs a.size m 0 0xffff#16 (by omega)

theorem bytes_f (n : Int) (h : 0 ≤ n) (h' : n ≤ 65535) : sum_Bytes.f n = some (strOfNums [(n / 256) % 256, n % 256]) := by
  unfold sum_Bytes.f; rw [if_neg (by omega), if_neg (by omega)]

theorem bytes_data (n : Int) : (strOfNums [(n / 256) % 256, n % 256]).data.toList = [UInt8.ofNat ((n / 256) % 256).toNat, UInt8.ofNat (n % 256).toNat] := rfl

theorem pick_f (a n : Int) (ha : (Lit.int .i64 a).wf = true) (hn : 0 < n) : ∃ r, hagglerlaw03_pick.f a n = some r ∧ 0 ≤ r ∧ r < n := by
  have hw : -9223372036854775808 ≤ a ∧ a ≤ 9223372036854775807 := by
    have := ha
    simp [Lit.wf, IntKind.min, IntKind.max, IntKind.bits, IntKind.signed] at this
    omega
  unfold hagglerlaw03_pick.f
  by_cases h : a < 0
  · rw [if_pos h, if_neg (by omega)]
    have e : wrap64 (-(wrap64 (a + 1))) = -(a + 1) := by unfold wrap64; omega
    rw [e]
    exact ⟨_, rfl, Int.tmod_nonneg _ (by omega), Int.tmod_lt_of_pos _ hn⟩
  · rw [if_neg h, if_neg (by omega)]
    exact ⟨_, rfl, Int.tmod_nonneg _ (by omega), Int.tmod_lt_of_pos _ hn⟩

theorem awake_f (k : Nat) (hk : 100 ≤ k) : hagglerlaw03_awake.f k = some true := by
  unfold hagglerlaw03_awake.f
  rw [of_f _ (by decide) k (by show 10 * 9 + 1 ≤ k; omega), of_f _ (by decide) k (by show 10 * 0 + 1 ≤ k; omega)]
  decide +kernel


open Go.Proofs.Ytjbgboaghphaeaa.Crc in
theorem num_bytes (m : BitVec 16) : (strOfNums [((m.toNat : Int) / 256) % 256, (m.toNat : Int) % 256]).data.toList = [hiB m, loB m] := by
  have := m.isLt
  rw [bytes_data]
  unfold hiB loB
  congr 1
  · apply UInt8.toNat_inj.1; rw [UInt8.toNat_ofNat', UInt8.toNat_ofNat']; omega
  · congr 1; apply UInt8.toNat_inj.1; rw [UInt8.toNat_ofNat', UInt8.toNat_ofNat']; omega

open Go.Proofs.Ytjbgboaghphaeaa.Crc in
theorem of_with (a t : ByteArray) (hs : a.size ≤ 4000) (ht : t.size ≤ 4000) (k : Nat) (hk : 80001 ≤ k) :
    sum_Of.f k (a ++ t) = some ((crc (crc 0xffff#16 a.data.toList) t.data.toList).toNat : Int) := by
  have e : (a ++ t).size = a.size + t.size := ByteArray.size_append
  rw [of_f (a ++ t) (by omega) k (by omega), ← crc_append]
  rw [ByteArray.data_append, Array.toList_append]

open Go.Proofs.Ytjbgboaghphaeaa.Crc in
theorem bytes_of (m : BitVec 16) : sum_Bytes.f (m.toNat : Int) = some (strOfNums [((m.toNat : Int) / 256) % 256, (m.toNat : Int) % 256]) := by
  have := m.isLt
  exact bytes_f _ (by omega) (by omega)

theorem size_of (x : Int) : (strOfNums [(x / 256) % 256, x % 256]).size = 2 := rfl

open Go.Proofs.Ytjbgboaghphaeaa.Crc in
theorem nat_inj16 {a b : BitVec 16} : ((a.toNat : Int) = (b.toNat : Int)) ↔ a = b := by
  rw [← BitVec.toNat_inj]; omega

open Go.Proofs.Ytjbgboaghphaeaa.Crc in
theorem beq16 (a b : BitVec 16) : ((a.toNat : Int) == (b.toNat : Int)) = decide (a = b) := by
  rw [Bool.eq_iff_iff]; simp [nat_inj16]

theorem mn_le (a : ByteArray) : 0 ≤ mn (a.size : Int) 1000 ∧ mn (a.size : Int) 1000 ≤ a.size ∧ (a.extract 0 (mn (a.size : Int) 1000).toNat).size ≤ 1000 := by
  rw [ByteArray.size_extract]
  unfold mn
  split <;> omega

theorem one_data (n : Int) : (strOfNums [n]).data.toList = [UInt8.ofNat n.toNat] := rfl
theorem one_size (n : Int) : (strOfNums [n]).size = 1 := rfl

end SumLengthP
open SumLengthP
open Go.Proofs.Ytjbgboaghphaeaa.Crc in
theorem SumLength : hagglerlaw03_SumLength.Pure := by
  intro a p q ha hp hq
  refine ⟨90000, ?_⟩
  unfold hagglerlaw03_SumLength.f
  rw [awake_f 90000 (by omega)]
  simp only [Option.bind_some]
  obtain ⟨a1, a2, a3⟩ := mn_le a
  rw [if_pos a1, if_pos a2]
  generalize a.extract 0 (mn (a.size : Int) 1000).toNat = x at *
  obtain ⟨r, h3, h4, h5⟩ := pick_f p 256 hp (by omega)
  obtain ⟨s, h6, h7, h8⟩ := pick_f q 256 hq (by omega)
  rw [h3, h6]
  simp only [Option.bind_some, if_true]
  rw [show r % 256 = r by omega, show s % 256 = s by omega]
  have tl : ((strOfNums [r]).toList == (strOfNums [s]).toList) = decide (UInt8.ofNat r.toNat = UInt8.ofNat s.toNat) := by
    rw [ByteArray.toList_eq, ByteArray.toList_eq, one_data, one_data, Bool.eq_iff_iff]; simp
  rw [one_size, one_size, if_pos (by omega), of_with x _ (by omega) (by rw [one_size]; omega) 90000 (by omega), of_with x _ (by omega) (by rw [one_size]; omega) 90000 (by omega), one_data, one_data, tl]
  simp only [Option.bind_some]
  rw [if_pos (by omega), beq16]
  have e1 := upd_inj_byte (crc 0xffff#16 x.data.toList) (UInt8.ofNat r.toNat) (UInt8.ofNat s.toNat)
  have e0 : ∀ (n : BitVec 16) (c : UInt8), crc n [c] = upd n c := fun _ _ => rfl
  rw [e0, e0, if_pos (by simp [e1]), of_f x (by omega) 90000 (by omega)]
  rw [Option.bind_some]
  have := (crc 0xffff#16 x.data.toList).isLt
  rw [if_pos (by omega)]
  simp only [Option.bind_some]
  rw [if_pos (by omega), if_pos (by omega), of_with _ x (by rw [one_size]; omega) (by omega) 90000 (by omega)]
  simp only [Option.bind_some]
  rw [if_pos (by omega), of_with _ x (by rw [one_size]; omega) (by omega) 90000 (by omega), one_data, one_data, e0, e0]
  simp only [Option.bind_some]
  rw [beq16]
  have e2 := crc_inj x.data.toList (upd 0xffff#16 (UInt8.ofNat r.toNat)) (upd 0xffff#16 (UInt8.ofNat s.toNat))
  have e3 := upd_inj_byte 0xffff#16 (UInt8.ofNat r.toNat) (UInt8.ofNat s.toNat)
  simp [e2, e3]

end Go.Proofs.Ytjbgboaghphaeaa.Pure
