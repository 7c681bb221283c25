/- For every two numbers, SumBytes answers true: unlike numbers have unlike bytes. No condition. -/
import Derived.Test.YtjbgboaghphaeaaPSumBytesx2
import Derived.Test.YtjbgboaghphaeaaCrc
namespace Go.Proofs.Ytjbgboaghphaeaa.Pure
open Go.RowKit Go.Proofs.Ytjbgboaghphaeaa.PSumBytes Go.Proofs.YtjbgboaghphaeaaW.PrintWords Go.Proofs.YtjbgboaghphaeaaW.PrintLast
set_option linter.unusedVariables false
set_option linter.unusedSimpArgs false
namespace SumBytesP

/-! The program's sum is 'crc'. -/
open Go.Proofs.Ytjbgboaghphaeaa.Crc in
theorem of_l1 (k : Nat) (a : ByteArray) (n : BitVec 16) (s i j : Int) (h : j < 8) (h0 : 0 ≤ j) :
    sum_Of.l1 (k + 1) a (n.toNat : Int) s i j = sum_Of.l1 k a ((stp n).toNat : Int) s i (j + 1) := by
  simp only [sum_Of.l1]
  rw [if_pos h, show wrap64 (j + 1) = j + 1 by unfold wrap64; omega]
  cases hm : n.msb with
  | false =>
    rw [if_pos ((msb16 n).2 hm), dbl16, stp_lo hm]
  | true =>
    rw [if_neg (fun e => by rw [(msb16 n).1 e] at hm; exact absurd hm (by decide)), dbl16]
    rw [show (4129 : Int) = ((0x1021#16).toNat : Int) from rfl, xor16, stp_hi hm]

open Go.Proofs.Ytjbgboaghphaeaa.Crc in
theorem of_l18 (k : Nat) (a : ByteArray) (n : BitVec 16) (s i : Int) :
    sum_Of.l1 (k + 9) a (n.toNat : Int) s i 0 = sum_Of.l0 k a ((its 8 n).toNat : Int) s (wrap64 (i + 1)) := by
  rw [of_l1 (k + 8) a n s i 0 (by omega) (by omega), of_l1 (k + 7) _ _ _ _ _ (by omega) (by omega), of_l1 (k + 6) _ _ _ _ _ (by omega) (by omega), of_l1 (k + 5) _ _ _ _ _ (by omega) (by omega), of_l1 (k + 4) _ _ _ _ _ (by omega) (by omega), of_l1 (k + 3) _ _ _ _ _ (by omega) (by omega), of_l1 (k + 2) _ _ _ _ _ (by omega) (by omega), of_l1 (k + 1) _ _ _ _ _ (by omega) (by omega)]
  simp only [sum_Of.l1]
  rw [if_neg (by omega)]
  rfl

open Go.Proofs.Ytjbgboaghphaeaa.Crc in
theorem of_l0 (a : ByteArray) (hs : a.size ≤ 9223372036854775800) : ∀ (d m i : Nat) (n : BitVec 16), i + d = a.size →
    sum_Of.l0 (10 * d + 1 + m) a (n.toNat : Int) (a.size : Int) (i : Int) = some ((crc n (a.data.toList.drop i)).toNat : Int) := by
  intro d
  induction d with
  | zero =>
    intro m i n h
    rw [show 10 * 0 + 1 + m = m + 1 by omega]
    simp only [sum_Of.l0]
    rw [if_neg (by omega), List.drop_eq_nil_of_le (by simp; show a.size ≤ i; omega)]
    have := n.isLt
    rw [show wrap64 (n.toNat : Int) = n.toNat by unfold wrap64; omega]
    rfl
  | succ d ih =>
    intro m i n h
    rw [show 10 * (d + 1) + 1 + m = (10 * d + 1 + m + 9) + 1 by omega]
    simp only [sum_Of.l0]
    have hi' : i < a.size := by omega
    rw [if_pos (by omega), if_pos (by omega), if_pos (by omega)]
    have hb : bt a (i : Int) = (a[i].toNat : Int) := by
      unfold bt; rw [dif_pos (by simpa using hi')]; simp
    rw [hb, byte16, xor16, of_l18, show wrap64 ((i : Int) + 1) = ((i + 1 : Nat) : Int) by unfold wrap64; omega, ih m (i + 1) _ (by omega)]
    rw [List.drop_eq_getElem_cons (i := i) (by simpa using hi')]
    rfl

open Go.Proofs.Ytjbgboaghphaeaa.Crc in
theorem of_f (a : ByteArray) (hs : a.size ≤ 9223372036854775800) (k : Nat) (hk : 10 * a.size + 1 ≤ k) :
    sum_Of.f k a = some ((crc 0xffff#16 a.data.toList).toNat : Int) := by
  obtain ⟨m, rfl⟩ : ∃ m, k = 10 * a.size + 1 + m := ⟨k - (10 * a.size + 1), by omega⟩
  exact of_l0 a hs a.size m 0 0xffff#16 (by omega)

theorem bytes_f (n : Int) (h : 0 ≤ n) (h' : n ≤ 65535) : sum_Bytes.f n = some (strOfNums [(n / 256) % 256, n % 256]) := by
  unfold sum_Bytes.f; rw [if_neg (by omega), if_neg (by omega)]

theorem bytes_data (n : Int) : (strOfNums [(n / 256) % 256, n % 256]).data.toList = [UInt8.ofNat ((n / 256) % 256).toNat, UInt8.ofNat (n % 256).toNat] := rfl

theorem pick_f (a n : Int) (ha : (Lit.int .i64 a).wf = true) (hn : 0 < n) : ∃ r, hagglerlaw03_pick.f a n = some r ∧ 0 ≤ r ∧ r < n := by
  have hw : -9223372036854775808 ≤ a ∧ a ≤ 9223372036854775807 := by
    have := ha
    simp [Lit.wf, IntKind.min, IntKind.max, IntKind.bits, IntKind.signed] at this
    omega
  unfold hagglerlaw03_pick.f
  by_cases h : a < 0
  · rw [if_pos h, if_neg (by omega)]
    have e : wrap64 (-(wrap64 (a + 1))) = -(a + 1) := by unfold wrap64; omega
    rw [e]
    exact ⟨_, rfl, Int.tmod_nonneg _ (by omega), Int.tmod_lt_of_pos _ hn⟩
  · rw [if_neg h, if_neg (by omega)]
    exact ⟨_, rfl, Int.tmod_nonneg _ (by omega), Int.tmod_lt_of_pos _ hn⟩

theorem awake_f (k : Nat) (hk : 100 ≤ k) : hagglerlaw03_awake.f k = some true := by
  unfold hagglerlaw03_awake.f
  rw [of_f _ (by decide) k (by show 10 * 9 + 1 ≤ k; omega), of_f _ (by decide) k (by show 10 * 0 + 1 ≤ k; omega)]
  decide +kernel


theorem bt0 (x : Int) (h : 0 ≤ x) (h' : x ≤ 65535) : bt (strOfNums [(x / 256) % 256, x % 256]) 0 = x / 256 := by
  unfold bt
  rw [dif_pos (by show 0 < 2; omega)]
  show ((UInt8.ofNat ((x / 256) % 256).toNat).toNat : Int) = _
  rw [UInt8.toNat_ofNat']; omega

theorem bt1 (x : Int) (h : 0 ≤ x) (h' : x ≤ 65535) : bt (strOfNums [(x / 256) % 256, x % 256]) 1 = x % 256 := by
  unfold bt
  rw [dif_pos (by show 1 < 2; omega)]
  show ((UInt8.ofNat (x % 256).toNat).toNat : Int) = _
  rw [UInt8.toNat_ofNat']; omega

theorem bytes_inj (x y : Int) (h : 0 ≤ x) (h' : x ≤ 65535) (g : 0 ≤ y) (g' : y ≤ 65535) :
    (strOfNums [(x / 256) % 256, x % 256]).toList = (strOfNums [(y / 256) % 256, y % 256]).toList ↔ x = y := by
  constructor
  · intro e
    rw [ByteArray.toList_eq, ByteArray.toList_eq, bytes_data, bytes_data] at e
    injection e with e1 e2
    injection e2 with e2 _
    have f1 := congrArg UInt8.toNat e1
    have f2 := congrArg UInt8.toNat e2
    rw [UInt8.toNat_ofNat', UInt8.toNat_ofNat'] at f1 f2
    omega
  · rintro rfl; rfl

end SumBytesP
open SumBytesP
theorem SumBytes : hagglerlaw03_SumBytes.Pure := by
  intro a b ha hb
  refine ⟨100, ?_⟩
  obtain ⟨x, hx, x0, x1⟩ := pick_f a 65536 ha (by omega)
  obtain ⟨y, hy, y0, y1⟩ := pick_f b 65536 hb (by omega)
  unfold hagglerlaw03_SumBytes.f
  rw [awake_f 100 (by omega), hx, hy]
  repeat rw [Option.bind_some]
  rw [bytes_f x x0 (by omega), bytes_f y y0 (by omega)]
  repeat rw [Option.bind_some]
  rw [if_pos rfl]
  have e2 : ((strOfNums [(x / 256) % 256, x % 256]).size : Int) = 2 := rfl
  rw [e2, if_pos rfl, if_pos (by omega), if_pos (by omega), bt0 x x0 (by omega), bt1 x x0 (by omega)]
  rw [show wrap64 (wrap64 (wrap64 (x / 256) * 256) + wrap64 (x % 256)) = x by unfold wrap64; omega, if_pos rfl]
  refine congrArg some ?_
  by_cases e : x = y
  · subst e; simp
  · have : ¬ (strOfNums [(x / 256) % 256, x % 256]).toList = (strOfNums [(y / 256) % 256, y % 256]).toList := fun h => e ((bytes_inj x y x0 (by omega) y0 (by omega)).1 h)
    rw [beq_eq_false_iff_ne.2 this, beq_eq_false_iff_ne.2 e]; rfl

end Go.Proofs.Ytjbgboaghphaeaa.Pure
