/- For every text and number, SumNought answers true: a text with its sum behind it has the sum 0, and with no other number. No condition. -/
import Derived.Test.YtjbgboaghphaeaaPSumNoughtx1
import Derived.Test.YtjbgboaghphaeaaCrc
namespace Go.Proofs.Ytjbgboaghphaeaa.Pure
open Go.RowKit Go.Proofs.Ytjbgboaghphaeaa.PSumNought Go.Proofs.YtjbgboaghphaeaaW.PrintWords Go.Proofs.YtjbgboaghphaeaaW.PrintLast
set_option linter.unusedVariables false
set_option linter.unusedSimpArgs false
namespace SumNoughtP

/-! The program's sum is 'crc'. -/
open Go.Proofs.Ytjbgboaghphaeaa.Crc in
theorem of_l1 (k : Nat) (a : ByteArray) (n : BitVec 16) (s i j : Int) (h : j < 8) (h0 : 0 ≤ j) :
    sum_Of.l1 (k + 1) a (n.toNat : Int) s i j = sum_Of.l1 k a ((stp n).toNat : Int) s i (j + 1) := by
  simp only [sum_Of.l1]
  rw [if_pos h, show wrap64 (j + 1) = j + 1 by unfold wrap64; omega]
  cases hm : n.msb with
  | false =>
    rw [if_pos ((msb16 n).2 hm), dbl16, stp_lo hm]
  | true =>
    rw [if_neg (fun e => by rw [(msb16 n).1 e] at hm; exact absurd hm (by decide)), dbl16]
    rw [show (4129 : Int) = ((0x1021#16).toNat : Int) from rfl, xor16, stp_hi hm]

open Go.Proofs.Ytjbgboaghphaeaa.Crc in
theorem of_l18 (k : Nat) (a : ByteArray) (n : BitVec 16) (s i : Int) :
    sum_Of.l1 (k + 9) a (n.toNat : Int) s i 0 = sum_Of.l0 k a ((its 8 n).toNat : Int) s (wrap64 (i + 1)) := by
  rw [of_l1 (k + 8) a n s i 0 (by omega) (by omega), of_l1 (k + 7) _ _ _ _ _ (by omega) (by omega), of_l1 (k + 6) _ _ _ _ _ (by omega) (by omega), of_l1 (k + 5) _ _ _ _ _ (by omega) (by omega), of_l1 (k + 4) _ _ _ _ _ (by omega) (by omega), of_l1 (k + 3) _ _ _ _ _ (by omega) (by omega), of_l1 (k + 2) _ _ _ _ _ (by omega) (by omega), of_l1 (k + 1) _ _ _ _ _ (by omega) (by omega)]
  simp only [sum_Of.l1]
  rw [if_neg (by omega)]
  rfl

open Go.Proofs.Ytjbgboaghphaeaa.Crc in
theorem of_l0 (a : ByteArray) (hs : a.size ≤ 9223372036854775800) : ∀ (d m i : Nat) (n : BitVec 16), i + d = a.size →
    sum_Of.l0 (10 * d + 1 + m) a (n.toNat : Int) (a.size : Int) (i : Int) = some ((crc n (a.data.toList.drop i)).toNat : Int) := by
  intro d
  induction d with
  | zero =>
    intro m i n h
    rw [show 10 * 0 + 1 + m = m + 1 by omega]
    simp only [sum_Of.l0]
    rw [if_neg (by omega), List.drop_eq_nil_of_le (by simp; show a.size ≤ i; omega)]
    have := n.isLt
    rw [show wrap64 (n.toNat : Int) = n.toNat by unfold wrap64; omega]
    rfl
  | succ d ih =>
    intro m i n h
    rw [show 10 * (d + 1) + 1 + m = (10 * d + 1 + m + 9) + 1 by omega]
    simp only [sum_Of.l0]
    have hi' : i < a.size := by omega
    rw [if_pos (by omega), if_pos (by omega), if_pos (by omega)]
    have hb : bt a (i : Int) = (a[i].toNat : Int) := by
      unfold bt; rw [dif_pos (by simpa using hi')]; simp
    rw [hb, byte16, xor16, of_l18, show wrap64 ((i : Int) + 1) = ((i + 1 : Nat) : Int) by unfold wrap64; omega, ih m (i + 1) _ (by omega)]
    rw [List.drop_eq_getElem_cons (i := i) (by simpa using hi')]
    rfl

open Go.Proofs.Ytjbgboaghphaeaa.Crc in
theorem of_f (a : ByteArray) (hs : a.size ≤ 9223372036854775800) (k : Nat) (hk : 10 * a.size + 1 ≤ k) :
    sum_Of.f k a = some ((crc 0xffff#16 a.data.toList).toNat : Int) := by
  obtain ⟨m, rfl⟩ : ∃ m, k = 10 * a.size + 1 + m := ⟨k - (10 * a.size + 1), by omega⟩
  exact of_l0 a hs a.size m 0 0xffff#16 (by omega)

theorem bytes_f (n : Int) (h : 0 ≤ n) (h' : n ≤ 65535) : sum_Bytes.f n = some (strOfNums [(n / 256) % 256, n % 256]) := by
  unfold sum_Bytes.f; rw [if_neg (by omega), if_neg (by omega)]

theorem bytes_data (n : Int) : (strOfNums [(n / 256) % 256, n % 256]).data.toList = [UInt8.ofNat ((n / 256) % 256).toNat, UInt8.ofNat (n % 256).toNat] := rfl

theorem pick_f (a n : Int) (ha : (Lit.int .i64 a).wf = true) (hn : 0 < n) : ∃ r, hagglerlaw03_pick.f a n = some r ∧ 0 ≤ r ∧ r < n := by
  have hw : -9223372036854775808 ≤ a ∧ a ≤ 9223372036854775807 := by
    have := ha
    simp [Lit.wf, IntKind.min, IntKind.max, IntKind.bits, IntKind.signed] at this
    omega
  unfold hagglerlaw03_pick.f
  by_cases h : a < 0
  · rw [if_pos h, if_neg (by omega)]
    have e : wrap64 (-(wrap64 (a + 1))) = -(a + 1) := by unfold wrap64; omega
    rw [e]
    exact ⟨_, rfl, Int.tmod_nonneg _ (by omega), Int.tmod_lt_of_pos _ hn⟩
  · rw [if_neg h, if_neg (by omega)]
    exact ⟨_, rfl, Int.tmod_nonneg _ (by omega), Int.tmod_lt_of_pos _ hn⟩

theorem awake_f (k : Nat) (hk : 100 ≤ k) : hagglerlaw03_awake.f k = some true := by
  unfold hagglerlaw03_awake.f
  rw [of_f _ (by decide) k (by show 10 * 9 + 1 ≤ k; omega), of_f _ (by decide) k (by show 10 * 0 + 1 ≤ k; omega)]
  decide +kernel


open Go.Proofs.Ytjbgboaghphaeaa.Crc in
theorem num_bytes (m : BitVec 16) : (strOfNums [((m.toNat : Int) / 256) % 256, (m.toNat : Int) % 256]).data.toList = [hiB m, loB m] := by
  have := m.isLt
  rw [bytes_data]
  unfold hiB loB
  congr 1
  · apply UInt8.toNat_inj.1; rw [UInt8.toNat_ofNat', UInt8.toNat_ofNat']; omega
  · congr 1; apply UInt8.toNat_inj.1; rw [UInt8.toNat_ofNat', UInt8.toNat_ofNat']; omega

open Go.Proofs.Ytjbgboaghphaeaa.Crc in
theorem of_with (a t : ByteArray) (hs : a.size ≤ 4000) (ht : t.size ≤ 4000) (k : Nat) (hk : 80001 ≤ k) :
    sum_Of.f k (a ++ t) = some ((crc (crc 0xffff#16 a.data.toList) t.data.toList).toNat : Int) := by
  have e : (a ++ t).size = a.size + t.size := ByteArray.size_append
  rw [of_f (a ++ t) (by omega) k (by omega), ← crc_append]
  rw [ByteArray.data_append, Array.toList_append]

open Go.Proofs.Ytjbgboaghphaeaa.Crc in
theorem bytes_of (m : BitVec 16) : sum_Bytes.f (m.toNat : Int) = some (strOfNums [((m.toNat : Int) / 256) % 256, (m.toNat : Int) % 256]) := by
  have := m.isLt
  exact bytes_f _ (by omega) (by omega)

theorem size_of (x : Int) : (strOfNums [(x / 256) % 256, x % 256]).size = 2 := rfl

open Go.Proofs.Ytjbgboaghphaeaa.Crc in
theorem nat_inj16 {a b : BitVec 16} : ((a.toNat : Int) = (b.toNat : Int)) ↔ a = b := by
  rw [← BitVec.toNat_inj]; omega

open Go.Proofs.Ytjbgboaghphaeaa.Crc in
theorem beq16 (a b : BitVec 16) : ((a.toNat : Int) == (b.toNat : Int)) = decide (a = b) := by
  rw [Bool.eq_iff_iff]; simp [nat_inj16]

open Go.Proofs.Ytjbgboaghphaeaa.Crc in
theorem num16 (n : Int) (h : 0 ≤ n) (h' : n < 65536) : ∃ m : BitVec 16, n = (m.toNat : Int) :=
  ⟨BitVec.ofNat 16 n.toNat, by rw [BitVec.toNat_ofNat]; omega⟩

open Go.Proofs.Ytjbgboaghphaeaa.Crc in
theorem hb_inj (m k : BitVec 16) : (hiB m = hiB k ∧ loB m = loB k) ↔ m = k := by
  constructor
  · rintro ⟨h1, h2⟩
    have f1 := congrArg UInt8.toNat h1
    have f2 := congrArg UInt8.toNat h2
    unfold hiB at f1; unfold loB at f2
    rw [UInt8.toNat_ofNat', UInt8.toNat_ofNat'] at f1 f2
    have := m.isLt; have := k.isLt
    apply BitVec.eq_of_toNat_eq; omega
  · rintro rfl; exact ⟨rfl, rfl⟩

open Go.Proofs.Ytjbgboaghphaeaa.Crc in
theorem j_f (a : ByteArray) (hs : a.size ≤ 3000) (n : Int) (hn : (Lit.int .i64 n).wf = true) (k : Nat) (hk : 80001 ≤ k) : hagglerlaw03_SumNought.j0 (k + 1) a n true = some true := by
  simp only [hagglerlaw03_SumNought.j0]
  rw [of_f a (by omega) k (by omega)]
  repeat rw [Option.bind_some]
  obtain ⟨r, h3, h4, h5⟩ := pick_f n 65536 hn (by omega)
  obtain ⟨q, rfl⟩ := num16 r h4 h5
  rw [h3]
  repeat rw [Option.bind_some]
  rw [if_pos trivial]
  generalize hm : crc 0xffff#16 a.data.toList = m
  have := m.isLt
  rw [if_pos (by omega), if_pos (by omega), bytes_of m]
  repeat rw [Option.bind_some]
  rw [size_of, if_pos (by omega), of_with a _ (by omega) (by rw [size_of]; omega) k hk, hm, num_bytes]
  repeat rw [Option.bind_some]
  have e0 : ∀ x : BitVec 16, crc m [hiB x, loB x] = upd (upd m (hiB x)) (loB x) := fun _ => rfl
  rw [e0, bytes_nought]
  rw [if_pos (by decide), bytes_of q]
  repeat rw [Option.bind_some]
  rw [size_of, if_pos (by omega), of_with a _ (by omega) (by rw [size_of]; omega) k hk, hm, num_bytes, e0]
  repeat rw [Option.bind_some]
  refine congrArg some ?_
  rw [beq16]
  rw [show (0 : Int) = ((0#16).toNat : Int) from rfl, beq16, ← bytes_nought m]
  have : (upd (upd m (hiB q)) (loB q) = upd (upd m (hiB m)) (loB m)) ↔ q = m := by rw [two_inj, hb_inj]
  simp [this]

end SumNoughtP
open SumNoughtP
theorem SumNought : hagglerlaw03_SumNought.Pure := by
  intro a n ha hn
  refine ⟨90000, ?_⟩
  unfold hagglerlaw03_SumNought.f
  rw [awake_f 90000 (by omega)]
  repeat rw [Option.bind_some]
  by_cases h : (a.size : Int) > 3000
  · rw [if_pos h, if_pos (by omega), if_pos (by omega)]
    refine j_f _ ?_ n hn 89999 (by omega); simp only [ByteArray.size_extract]; omega
  · rw [if_neg h]
    exact j_f a (by omega) n hn 89999 (by omega)

end Go.Proofs.Ytjbgboaghphaeaa.Pure
