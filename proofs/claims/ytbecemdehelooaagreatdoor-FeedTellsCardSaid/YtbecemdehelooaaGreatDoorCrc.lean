/- Plain facts on the sum of sixteen bits: a stp is linear and has no kernel, so what differs stays different. -/
import Derived.Laws.Entries
import Derived.RowKit
import Derived.Laws.BytesArg
namespace Go.Proofs.YtbecemdehelooaaGreatDoor.Crc
open Go Go.RowKit

def stp (n : BitVec 16) : BitVec 16 := (n <<< 1) ^^^ (if n.msb then 0x1021#16 else 0#16)
def its : Nat → BitVec 16 → BitVec 16
  | 0, n => n
  | k + 1, n => its k (stp n)
def hi (c : UInt8) : BitVec 16 := (c.toBitVec.zeroExtend 16) <<< 8
def upd (n : BitVec 16) (c : UInt8) : BitVec 16 := its 8 (n ^^^ hi c)
def crc (n : BitVec 16) (l : List UInt8) : BitVec 16 := l.foldl upd n

theorem stp_xor (a b : BitVec 16) : stp (a ^^^ b) = stp a ^^^ stp b := by
  unfold stp
  rw [BitVec.msb_xor, BitVec.shiftLeft_xor_distrib]
  cases a.msb <;> cases b.msb <;> simp
  · rw [BitVec.xor_assoc]
  · rw [BitVec.xor_assoc, BitVec.xor_assoc, BitVec.xor_comm (b <<< 1)]
  · have : (a <<< 1 ^^^ 4129#16 ^^^ (b <<< 1 ^^^ 4129#16)) = a <<< 1 ^^^ b <<< 1 ^^^ (4129#16 ^^^ 4129#16) := by ac_rfl
    rw [this, BitVec.xor_self, BitVec.xor_zero]

theorem stp_lo {n : BitVec 16} (h : n.msb = false) : stp n = n <<< 1 := by simp [stp, h]
theorem stp_hi {n : BitVec 16} (h : n.msb = true) : stp n = n <<< 1 ^^^ 0x1021#16 := by simp [stp, h]

theorem its_xor : ∀ (k : Nat) (a b : BitVec 16), its k (a ^^^ b) = its k a ^^^ its k b
  | 0, _, _ => rfl
  | k + 1, a, b => by simp only [its]; rw [stp_xor, its_xor k]

theorem stp_zero_iff (a : BitVec 16) : stp a = 0#16 ↔ a = 0#16 := by
  constructor
  · intro h
    unfold stp at h
    cases hm : a.msb with
    | false =>
      rw [hm] at h
      simp at h
      apply BitVec.eq_of_getLsbD_eq
      intro i hi
      by_cases e : i = 15
      · subst e
        rw [BitVec.msb_eq_getLsbD_last] at hm
        simpa using hm
      · have := congrArg (fun v => v.getLsbD (i + 1)) h
        simp at this
        have h1 := this (by omega)
        simpa using h1
    | true =>
      rw [hm] at h
      have := congrArg (fun v => v.getLsbD 0) h
      simp at this
  · rintro rfl; rfl

theorem its_zero_iff : ∀ (k : Nat) (a : BitVec 16), its k a = 0#16 ↔ a = 0#16
  | 0, _ => Iff.rfl
  | k + 1, a => by simp only [its]; rw [its_zero_iff k, stp_zero_iff]

theorem xor_eq_zero {a b : BitVec 16} : a ^^^ b = 0#16 ↔ a = b := BitVec.xor_eq_zero_iff

theorem its_inj (k : Nat) (a b : BitVec 16) : its k a = its k b ↔ a = b := by
  rw [← xor_eq_zero, ← its_xor, its_zero_iff, xor_eq_zero]

theorem upd_inj_state (a b : BitVec 16) (c : UInt8) : upd a c = upd b c ↔ a = b := by
  unfold upd; rw [its_inj]
  constructor
  · intro h
    have := congrArg (· ^^^ hi c) h
    simpa [BitVec.xor_assoc] using this
  · rintro rfl; rfl

theorem crc_inj (l : List UInt8) : ∀ a b : BitVec 16, crc a l = crc b l ↔ a = b := by
  induction l with
  | nil => intro a b; exact Iff.rfl
  | cons c l ih => intro a b; show crc (upd a c) l = crc (upd b c) l ↔ _; rw [ih, upd_inj_state]

theorem crc_append (a : BitVec 16) (l m : List UInt8) : crc a (l ++ m) = crc (crc a l) m := by unfold crc; rw [List.foldl_append]

theorem hi_inj : ∀ c d : UInt8, hi c = hi d ↔ c = d := by
  intro c d
  constructor
  · intro h
    apply UInt8.toBitVec_inj.1
    apply BitVec.eq_of_getLsbD_eq
    intro i hi'
    have := congrArg (fun v => v.getLsbD (i + 8)) h
    simpa [hi, BitVec.getLsbD_setWidth, show i < 16 by omega, show i + 8 < 16 by omega, show ¬ i + 8 < 8 by omega] using this
  · rintro rfl; rfl

theorem upd_inj_byte (a : BitVec 16) (c d : UInt8) : upd a c = upd a d ↔ c = d := by
  unfold upd; rw [its_inj]
  constructor
  · intro h
    have := congrArg (a ^^^ ·) h
    simp only [← BitVec.xor_assoc, BitVec.xor_self, BitVec.zero_xor] at this
    exact (hi_inj c d).1 this
  · rintro rfl; rfl

/-- The low byte of what a byte becomes tells whether its is nought. -/
theorem low_nought : ∀ n : Fin 256, (its 8 (hi (UInt8.ofNat n.val))).setWidth 8 = 0#8 → n.val = 0 := by decide +kernel

theorem low_nought' (c : UInt8) (h : (its 8 (hi c)).setWidth 8 = 0#8) : c = 0 := by
  have := low_nought ⟨c.toNat, c.toNat_lt⟩ (by simpa using h)
  apply UInt8.toNat_inj.1
  simpa using this

theorem hi_low (c : UInt8) : (hi c).setWidth 8 = 0#8 := by
  apply BitVec.eq_of_getLsbD_eq
  intro i h
  simp [hi, h]

theorem hi_xor (c d : UInt8) : hi (c ^^^ d) = hi c ^^^ hi d := by
  apply BitVec.eq_of_getLsbD_eq
  intro i h
  simp [hi, BitVec.getLsbD_setWidth]
  by_cases h1 : i < 8
  · simp [h1]
  · simp [h1, h, show i - 8 < 16 by omega]

theorem zero_xor_eq {a b c d : BitVec 16} : a ^^^ b = c ^^^ d ↔ a ^^^ c = b ^^^ d := by
  rw [← xor_eq_zero, ← xor_eq_zero (a := a ^^^ c)]
  rw [show a ^^^ b ^^^ (c ^^^ d) = a ^^^ c ^^^ (b ^^^ d) by ac_rfl]

/-- Two bytes side by side: where the sums are the same the bytes are. -/
theorem two_inj (n : BitVec 16) (a b c d : UInt8) : upd (upd n a) b = upd (upd n c) d ↔ a = c ∧ b = d := by
  constructor
  · intro h
    have h1 : its 8 (n ^^^ hi a) ^^^ hi b = its 8 (n ^^^ hi c) ^^^ hi d := by
      unfold upd at h; rwa [its_inj] at h
    rw [zero_xor_eq, ← its_xor] at h1
    have h2 : n ^^^ hi a ^^^ (n ^^^ hi c) = hi (a ^^^ c) := by
      rw [show n ^^^ hi a ^^^ (n ^^^ hi c) = (n ^^^ n) ^^^ (hi a ^^^ hi c) by ac_rfl, BitVec.xor_self, BitVec.zero_xor, hi_xor]
    rw [h2, ← hi_xor] at h1
    have h3 : a ^^^ c = 0 := low_nought' _ (by rw [h1]; exact hi_low _)
    have h4 : a = c := by simpa using h3
    subst h4
    refine ⟨rfl, ?_⟩
    exact (upd_inj_byte _ b d).1 h
  · rintro ⟨rfl, rfl⟩; rfl

/-- A sum and its own bytes behind. -/
theorem its_low (m : BitVec 16) (h : m.toNat < 256) : its 8 m = m <<< 8 := by
  have key : ∀ n : Fin 256, its 8 (BitVec.ofNat 16 n.val) = BitVec.ofNat 16 n.val <<< 8 := by decide +kernel
  have := key ⟨m.toNat, h⟩
  simpa using this

def hiB (m : BitVec 16) : UInt8 := UInt8.ofNat (m.toNat / 256)
def loB (m : BitVec 16) : UInt8 := UInt8.ofNat m.toNat

theorem bytes_nought (m : BitVec 16) : upd (upd m (hiB m)) (loB m) = 0#16 := by
  have e1 : m ^^^ hi (hiB m) = BitVec.ofNat 16 (m.toNat % 256) := by
    apply BitVec.eq_of_getLsbD_eq
    intro i h
    have e : m.getLsbD i = m.toNat.testBit i := rfl
    simp only [BitVec.getLsbD_xor, e, hi, hiB]
    simp only [BitVec.getLsbD_shiftLeft, BitVec.truncate_eq_setWidth, BitVec.getLsbD_setWidth, BitVec.getLsbD_ofNat, UInt8.toBitVec_ofNat', h, decide_true, Bool.true_and]
    rw [show m.toNat % 256 = m.toNat % 2 ^ 8 from rfl, show m.toNat / 256 = m.toNat / 2 ^ 8 from rfl, Nat.testBit_mod_two_pow, Nat.testBit_div_two_pow]
    by_cases h1 : i < 8
    · simp [h1]
    · simp [h1, show i - 8 < 16 by omega, show i - 8 < 8 by omega, show i - 8 + 8 = i by omega]
  have e2 : upd m (hiB m) = BitVec.ofNat 16 (m.toNat % 256) <<< 8 := by
    unfold upd; rw [e1]; apply its_low; simp; omega
  have e3 : BitVec.ofNat 16 (m.toNat % 256) <<< 8 = hi (loB m) := by
    apply BitVec.eq_of_getLsbD_eq
    intro i h
    simp only [hi, loB, BitVec.getLsbD_shiftLeft, BitVec.truncate_eq_setWidth, BitVec.getLsbD_setWidth, BitVec.getLsbD_ofNat, UInt8.toBitVec_ofNat', h, decide_true, Bool.true_and]
    rw [show m.toNat % 256 = m.toNat % 2 ^ 8 from rfl, Nat.testBit_mod_two_pow]
  rw [e2, e3]
  show its 8 (hi (loB m) ^^^ hi (loB m)) = 0#16
  rw [BitVec.xor_self, its_zero_iff]

/-! The machine's numbers. -/
theorem wrap16 (n : Int) : IntKind.u16.wrap n = n % 65536 := by simp [IntKind.wrap, IntKind.bits, IntKind.signed]

theorem ofInt16 (a : BitVec 16) : BitVec.ofInt 16 (a.toNat : Int) = a := by
  rw [BitVec.ofInt_natCast]; simp

theorem xor16 (a b : BitVec 16) : bits .xor .u16 (a.toNat : Int) (b.toNat : Int) = ((a ^^^ b).toNat : Int) := by
  show IntKind.u16.wrap ((BitVec.ofInt 16 (a.toNat : Int) ^^^ BitVec.ofInt 16 (b.toNat : Int)).toNat : Int) = _
  rw [ofInt16, ofInt16, wrap16]
  have := (a ^^^ b).isLt
  omega

theorem and16 (a b : BitVec 16) : bits .and .u16 (a.toNat : Int) (b.toNat : Int) = ((a &&& b).toNat : Int) := by
  show IntKind.u16.wrap ((BitVec.ofInt 16 (a.toNat : Int) &&& BitVec.ofInt 16 (b.toNat : Int)).toNat : Int) = _
  rw [ofInt16, ofInt16, wrap16]
  have := (a &&& b).isLt
  omega

theorem msb16 (a : BitVec 16) : bits .and .u16 (a.toNat : Int) 32768 = 0 ↔ a.msb = false := by
  have h := and16 a 32768#16
  rw [show ((32768#16).toNat : Int) = 32768 from rfl] at h
  rw [h]
  have e : a &&& 32768#16 = if a.msb then 32768#16 else 0#16 := by
    apply BitVec.eq_of_getLsbD_eq
    intro i hi
    rw [BitVec.msb_eq_getLsbD_last]
    by_cases h15 : i = 15
    · subst h15
      rw [BitVec.getLsbD_and]
      cases a.getLsbD 15 <;> decide
    · have : (32768#16).getLsbD i = false := by
        have : ∀ j : Fin 16, j.val ≠ 15 → (32768#16).getLsbD j.val = false := by decide
        exact this ⟨i, hi⟩ h15
      cases a.getLsbD 15 <;> simp [this]
  rw [e]
  cases a.msb <;> simp

theorem dbl16 (a : BitVec 16) : IntKind.u16.wrap ((a.toNat : Int) * 2) = ((a <<< 1).toNat : Int) := by
  rw [wrap16, BitVec.toNat_shiftLeft, Nat.shiftLeft_eq]; omega

theorem byte16 (c : UInt8) : IntKind.u16.wrap ((IntKind.u16.wrap (c.toNat : Int)) * 256) = ((hi c).toNat : Int) := by
  have := c.toNat_lt
  rw [wrap16, wrap16]
  unfold hi
  rw [BitVec.toNat_shiftLeft, Nat.shiftLeft_eq]
  simp only [BitVec.truncate_eq_setWidth, BitVec.toNat_setWidth, UInt8.toNat_toBitVec]
  omega

/-- The ref's numbers. -/
theorem xor64 (a b : BitVec 16) : bits .xor .i64 (a.toNat : Int) (b.toNat : Int) = ((a ^^^ b).toNat : Int) := by
  have e : ∀ x : BitVec 16, BitVec.ofInt 64 (x.toNat : Int) = x.setWidth 64 := by
    intro x; rw [BitVec.ofInt_natCast]; apply BitVec.eq_of_toNat_eq; simp
  show IntKind.i64.wrap ((BitVec.ofInt 64 (a.toNat : Int) ^^^ BitVec.ofInt 64 (b.toNat : Int)).toNat : Int) = _
  rw [e, e, ← BitVec.setWidth_xor]
  have := (a ^^^ b).isLt
  have h2 : ((a ^^^ b).setWidth 64).toNat = (a ^^^ b).toNat := by rw [BitVec.toNat_setWidth]; omega
  rw [h2]
  have h3 : ∀ n : Int, IntKind.i64.wrap n = wrap64 n := by
    intro n; unfold wrap64; simp [IntKind.wrap, IntKind.bits, IntKind.signed]; split <;> omega
  rw [h3]
  unfold wrap64; omega

theorem dbl64 (a : BitVec 16) : Int.tmod (wrap64 ((a.toNat : Int) * 2)) 65536 = ((a <<< 1).toNat : Int) := by
  have := a.isLt
  rw [show wrap64 ((a.toNat : Int) * 2) = (a.toNat : Int) * 2 by unfold wrap64; omega]
  rw [Int.tmod_eq_emod_of_nonneg (by omega), BitVec.toNat_shiftLeft, Nat.shiftLeft_eq]; omega

theorem byte64 (c : UInt8) : wrap64 ((wrap64 (c.toNat : Int)) * 256) = ((hi c).toNat : Int) := by
  have := c.toNat_lt
  rw [show wrap64 (c.toNat : Int) = c.toNat by unfold wrap64; omega, show wrap64 ((c.toNat : Int) * 256) = (c.toNat : Int) * 256 by unfold wrap64; omega]
  unfold hi
  rw [BitVec.toNat_shiftLeft, Nat.shiftLeft_eq]
  simp only [BitVec.truncate_eq_setWidth, BitVec.toNat_setWidth, UInt8.toNat_toBitVec]
  omega

theorem msb64 (a : BitVec 16) : (a.toNat : Int) ≥ 32768 ↔ a.msb = true := by
  rw [BitVec.msb_eq_decide]; simp; omega

end Go.Proofs.YtbecemdehelooaaGreatDoor.Crc
