/- For every input FrameTells answers true, in plain Lean. -/
import Derived.Test.YthidhmfejnjdhaaDoorHFrameTellsx0
import Derived.Test.YthidhmfejnjdhaaDoorHFrameTellsx1
import Derived.Test.YthidhmfejnjdhaaDoorHFrameTellsx2
import Derived.Test.YthidhmfejnjdhaaDoorHFrameTellsx3
import Derived.Test.YthidhmfejnjdhaaDoorHFrameTellsx4
import Derived.Test.YthidhmfejnjdhaaDoorHFrameTellsx5
import Derived.Test.YthidhmfejnjdhaaDoorHFrameTellsx6
import Derived.Test.YthidhmfejnjdhaaDoorHFrameTellsx7
namespace Go.Proofs.YthidhmfejnjdhaaDoor.Pure
open Go.RowKit Go.Proofs.YthidhmfejnjdhaaDoor.HFrameTells Go.Proofs.YthidhmfejnjdhaaDoorW.PrintWords Go.Proofs.YthidhmfejnjdhaaDoorW.PrintLast Go.Proofs.YthidhmfejnjdhaaDoorW.PrintMore
set_option linter.unusedVariables false
set_option linter.unusedSimpArgs false
open Go.Proofs.YthidhmfejnjdhaaDoor.FrameS Go.Proofs.YthidhmfejnjdhaaDoor.FrameC
namespace FrameTellsP
/-! Records by two names. -/
theorem of_to (x : S24) : ofR (toR x) = x := rfl
theorem to_of (r : Rec) : toR (ofR r) = r := rfl
theorem map_to_of (l : List Rec) : (l.map ofR).map toR = l := by
  rw [List.map_map]
  exact List.map_id' _
theorem toR_inj {x y : S24} (h : toR x = toR y) : x = y := by rw [← of_to x, h, of_to]
theorem ofR_inj {x y : Rec} (h : ofR x = ofR y) : x = y := by rw [← to_of x, h, to_of]
theorem map_toR_inj : ∀ {l m : List S24}, l.map toR = m.map toR → l = m
  | [], [], _ => rfl
  | [], y :: m, h => by simp at h
  | x :: l, [], h => by simp at h
  | x :: l, y :: m, h => by
    simp only [List.map_cons, List.cons.injEq] at h
    rw [toR_inj h.1, map_toR_inj h.2]
abbrev W64 (x : Int) : Prop := (Lit.int .i64 x).wf = true
theorem in64 {x : Int} (h : W64 x) : -9223372036854775808 ≤ x ∧ x ≤ 9223372036854775807 := by
  unfold W64 Lit.wf at h
  rw [Bool.and_eq_true, decide_eq_true_eq, decide_eq_true_eq] at h
  exact ⟨h.1, h.2⟩
theorem pick_ok (a n : Int) (ha : W64 a) (hn : 0 < n) : ∃ r, hagglerlaw04_pick.f a n = some r ∧ 0 ≤ r ∧ r < n := by
  have hw := in64 ha
  unfold hagglerlaw04_pick.f
  by_cases h : a < 0
  · rw [if_pos h, if_neg (by omega)]
    have e : wrap64 (-(wrap64 (a + 1))) = -(a + 1) := by unfold wrap64; omega
    rw [e]
    exact ⟨_, rfl, Int.tmod_nonneg _ (by omega), Int.tmod_lt_of_pos _ hn⟩
  · rw [if_neg h, if_neg (by omega)]
    exact ⟨_, rfl, Int.tmod_nonneg _ (by omega), Int.tmod_lt_of_pos _ hn⟩
theorem rd_in {l : List Int} {i : Int} (h0 : 0 ≤ i) (h : i < l.length) : rd l i ∈ l := by
  unfold rd
  rw [List.getD_eq_getElem?_getD, List.getElem?_eq_getElem (by omega)]
  exact List.getElem_mem _
theorem rdl_in {l : List (List Int)} {i : Int} (h0 : 0 ≤ i) (h : i < l.length) : rd_L1 l i ∈ l := by
  unfold rd_L1
  rw [List.getD_eq_getElem?_getD, List.getElem?_eq_getElem (by omega)]
  exact List.getElem_mem _
theorem wrap_nat (i : Nat) (h : i ≤ 1000000) : wrap64 ((i : Int) + 1) = ((i + 1 : Nat) : Int) := by unfold wrap64; omega

/-! The records of raw numbers. -/
section
variable (x0 : List (List Int)) (x1 : List ByteArray)
theorem rec_end (d i k : Nat) (acc : List S24) (m kind : Int) (nums : List Int) (hi : i < x0.length) (hi2 : i < 12) (hk : 50 * d + 4 ≤ k) (hacc : ∀ x ∈ acc, Right (toR x)) (hlen : acc.length = i)
    (hr : Right ⟨kind, nums, ⟨#[]⟩⟩) (hx1 : x1.length ≤ 9223372036854775807)
    (IH : ∀ k acc, 50 * d + 3 ≤ k → (∀ x ∈ acc, Right (toR x)) → acc.length = i + 1 → ∃ l, hagglerlaw04_Records.l0 k x0 x1 acc ((i + 1 : Nat) : Int) = some l ∧ (∀ x ∈ l, Right (toR x)) ∧ l.length ≤ 12) :
    ∃ l, hagglerlaw04_Records.j3 k x0 x1 acc (i : Int) m false kind nums (⟨#[]⟩ : ByteArray) = some l ∧ (∀ x ∈ l, Right (toR x)) ∧ l.length ≤ 12 := by
  obtain ⟨k, rfl⟩ : ∃ q, k = q + 1 := ⟨k - 1, by omega⟩
  simp only [hagglerlaw04_Records.j3]
  rw [if_neg (show ¬ (false = true) by decide)]
  have app : ∀ t : ByteArray, t.size ≤ 2000 → ∀ x ∈ acc ++ [(⟨kind, nums, t⟩ : S24)], Right (toR x) := by
    intro t ht x hx
    rcases List.mem_append.1 hx with h | h
    · exact hacc x h
    · rw [List.mem_singleton.1 h]
      exact ⟨hr.1, hr.2.1, hr.2.2.1, hr.2.2.2.1, ht⟩
  by_cases h1 : (x1.length : Int) > 0
  · rw [if_pos h1, if_neg (by omega)]
    have a1 := Int.tmod_nonneg (x1.length : Int) (show (0 : Int) ≤ (i : Int) by omega)
    have a2 := Int.tmod_lt_of_pos (i : Int) h1
    rw [if_pos a1, if_pos a2]
    generalize rdOf ByteArray.empty x1 (Int.tmod (i : Int) (x1.length : Int)) = t
    have b1 : (0 : Int) ≤ mn (t.size : Int) 200 := by unfold mn; split <;> omega
    have b2 : mn (t.size : Int) 200 ≤ (t.size : Int) := by unfold mn; split <;> omega
    have b3 : mn (t.size : Int) 200 ≤ 200 := by unfold mn; split <;> omega
    rw [if_pos b1, if_pos b2, if_pos (by omega), wrap_nat i (by omega)]
    exact IH k _ (by omega) (app _ (by rw [ByteArray.size_extract]; omega)) (by simp [hlen])
  · rw [if_neg h1, if_pos (by omega), wrap_nat i (by omega)]
    exact IH k _ (by omega) (app _ (by decide)) (by simp [hlen])
variable (hx : ∀ r ∈ x0, ∀ n ∈ r, W64 n)
include hx
theorem rec_row (d i : Nat) (acc : List S24) (hi : i < x0.length) (hi2 : i < 12) (hacc : ∀ x ∈ acc, Right (toR x)) (hlen : acc.length = i) (hx1 : x1.length ≤ 9223372036854775807)
    (IH : ∀ k acc, 50 * d + 3 ≤ k → (∀ x ∈ acc, Right (toR x)) → acc.length = i + 1 → ∃ l, hagglerlaw04_Records.l0 k x0 x1 acc ((i + 1 : Nat) : Int) = some l ∧ (∀ x ∈ l, Right (toR x)) ∧ l.length ≤ 12) :
    ∀ (e m k : Nat) (kind : Int) (nums : List Int), m + e = 21 → 2 * e + 50 * d + 5 ≤ k → 1 ≤ kind → kind ≤ 255 → nums.length ≤ m - 1 → nums.any Odd = false →
      ∃ l, hagglerlaw04_Records.l1 k x0 x1 acc (i : Int) (m : Int) kind nums (⟨#[]⟩ : ByteArray) = some l ∧ (∀ x ∈ l, Right (toR x)) ∧ l.length ≤ 12 := by
  intro e
  induction e with
  | zero =>
    intro m k kind nums hm hk k1 k2 hn ho
    obtain ⟨k, rfl⟩ : ∃ q, k = q + 1 := ⟨k - 1, by omega⟩
    simp only [hagglerlaw04_Records.l1]
    rw [if_pos (by omega), if_pos (by omega)]
    have hd : decide ((m : Int) < 21) = false := decide_eq_false (by omega)
    rw [hd]
    have := rec_end x0 x1 d i k acc (m : Int) kind nums hi hi2 (by omega) hacc hlen ⟨k1, k2, by show nums.length ≤ 20; omega, ho, Nat.zero_le _⟩ hx1 IH
    split <;> exact this
  | succ e ih =>
    intro m k kind nums hm hk k1 k2 hn ho
    obtain ⟨k, rfl⟩ : ∃ q, k = q + 1 := ⟨k - 1, by omega⟩
    simp only [hagglerlaw04_Records.l1]
    rw [if_pos (by omega), if_pos (by omega)]
    have hd : decide ((m : Int) < 21) = true := decide_eq_true (by omega)
    rw [hd]
    have hrow := rdl_in (l := x0) (i := (i : Int)) (by omega) (by omega)
    by_cases hml : (m : Int) < ((rd_L1 x0 (i : Int)).length : Int)
    · rw [if_pos hml]
      obtain ⟨k, rfl⟩ : ∃ q, k = q + 1 := ⟨k - 1, by omega⟩
      simp only [hagglerlaw04_Records.j3]
      rw [if_pos trivial]
      by_cases hm0 : (m : Int) = 0
      · rw [if_pos hm0, if_pos (by omega), if_pos (by omega), if_pos (by omega)]
        obtain ⟨r, h1, h2, h3⟩ := pick_ok (rd (rd_L1 x0 (i : Int)) 0) 255 (hx _ hrow _ (rd_in (by omega) (by omega))) (by omega)
        rw [h1]
        simp only [Option.bind_some]
        rw [wrap_nat m (by omega), show wrap64 (1 + r) = 1 + r by unfold wrap64; omega]
        exact ih (m + 1) k (1 + r) nums (by omega) (by omega) (by omega) (by omega) (by omega) ho
      · rw [if_neg hm0, if_pos (by omega), if_pos (by omega), if_pos (by omega), if_pos hml]
        obtain ⟨r, h1, h2, h3⟩ := pick_ok (rd (rd_L1 x0 (i : Int)) (m : Int)) 2251799813685249 (hx _ hrow _ (rd_in (by omega) hml)) (by omega)
        rw [h1]
        simp only [Option.bind_some]
        rw [if_pos (by omega), wrap_nat m (by omega), show wrap64 (r - 1125899906842624) = r - 1125899906842624 by unfold wrap64; omega]
        refine ih (m + 1) k kind _ (by omega) (by omega) k1 k2 (by simp; omega) ?_
        rw [List.any_append, ho]
        simp [Odd]
        omega
    · rw [if_neg hml]
      exact rec_end x0 x1 d i k acc (m : Int) kind nums hi hi2 (by omega) hacc hlen ⟨k1, k2, by show nums.length ≤ 20; omega, ho, Nat.zero_le _⟩ hx1 IH
theorem rec_l0 (hx1 : x1.length ≤ 9223372036854775807) : ∀ (d i k : Nat) (acc : List S24), i + d = 12 → 50 * d + 3 ≤ k → (∀ x ∈ acc, Right (toR x)) → acc.length = i →
    ∃ l, hagglerlaw04_Records.l0 k x0 x1 acc (i : Int) = some l ∧ (∀ x ∈ l, Right (toR x)) ∧ l.length ≤ 12 := by
  intro d
  induction d with
  | zero =>
    intro i k acc hi hk hacc hlen
    obtain ⟨k, rfl⟩ : ∃ q, k = q + 2 := ⟨k - 2, by omega⟩
    simp only [hagglerlaw04_Records.l0]
    have hd : decide ((i : Int) < 12) = false := decide_eq_false (by omega)
    rw [hd]
    simp only [hagglerlaw04_Records.j1]
    refine ⟨acc, ?_, hacc, by omega⟩
    split <;> rfl
  | succ d ih =>
    intro i k acc hi hk hacc hlen
    obtain ⟨k, rfl⟩ : ∃ q, k = q + 2 := ⟨k - 2, by omega⟩
    simp only [hagglerlaw04_Records.l0]
    have hd : decide ((i : Int) < 12) = true := decide_eq_true (by omega)
    rw [hd]
    by_cases h1 : (i : Int) < (x0.length : Int)
    · rw [if_pos h1]
      simp only [hagglerlaw04_Records.j1]
      rw [if_pos trivial]
      exact rec_row x0 x1 hx d i acc (by omega) (by omega) hacc hlen hx1 (fun k acc a b c => ih (i + 1) k acc (by omega) a b c) 21 0 k 1 [] (by omega) (by omega) (by omega) (by omega) (by simp) (by rfl)
    · rw [if_neg h1]
      simp only [hagglerlaw04_Records.j1]
      exact ⟨acc, rfl, hacc, by omega⟩
theorem records_ok (hx1 : x1.length ≤ 9223372036854775807) (k : Nat) (hk : 700 ≤ k) : ∃ l, hagglerlaw04_Records.f k x0 x1 = some l ∧ (∀ x ∈ l, Right (toR x)) ∧ l.length ≤ 12 :=
  rec_l0 x0 x1 hx hx1 12 0 k [] (by omega) (by omega) (fun x h => by cases h) rfl
end

/-! Texts. -/
theorem encode_right (x : S24) (h : Right (toR x)) : frame_Encode.f x.f0 x.f1 x.f2 = some (⟨(frameL (toR x)).toArray⟩, 0) := by
  unfold frame_Encode.f
  show (if RightB (toR x) = true then some ((⟨(frameL (toR x)).toArray⟩ : ByteArray), (0 : Int)) else some (⟨#[]⟩, 1)) = _
  rw [if_pos ((rightB_iff _).2 h)]
theorem rdT_get (l : List S24) (i : Nat) (h : i < l.length) : rd_T24 l (i : Int) = l[i] := by
  unfold rd_T24
  rw [Int.toNat_natCast, List.getD_eq_getElem?_getD, List.getElem?_eq_getElem h]; rfl
def fr : List UInt8 := [0, 8, 51, 32, 55, 32, 45, 49, 58, 97, 173, 100]
def rA : Rec := ⟨3, [7, -1], ⟨#[97]⟩⟩
theorem rA_right : Right rA := (rightB_iff _).1 (by decide)
theorem itoa_small (n : Nat) (h : n < 10) : Lib.itoa (n : Int) = [UInt8.ofNat (48 + n)] := by
  unfold Lib.itoa; rw [if_neg (by omega), Int.toNat_natCast, Lib.decDigits_one h]
theorem itoa_m1 : Lib.itoa (-1) = [45, 49] := by
  unfold Lib.itoa; rw [if_pos (by omega)]
  rw [show (-1 : Int).natAbs = 1 from rfl, Lib.decDigits_one (by omega)]; rfl
theorem rA_body : bodyL rA = [51, 32, 55, 32, 45, 49, 58, 97] := by
  rw [bodyL_eq]
  show Lib.itoa ((3 : Nat) : Int) ++ (tailL [((7 : Nat) : Int), -1] ++ 58 :: tl ⟨#[97]⟩) = _
  rw [tailL_cons, tailL_cons, tailL_nil, itoa_small 3 (by omega), itoa_small 7 (by omega), itoa_m1]
  rfl
theorem rA_frame : frameL rA = fr := by
  unfold frameL wrapL
  rw [rA_body]
  decide +kernel
def frB : ByteArray := ⟨fr.toArray⟩
theorem enc_rA : frame_Encode.f 3 [7, -1] ⟨#[97]⟩ = some (frB, 0) := by
  have := encode_right (ofR rA) rA_right
  rw [to_of, rA_frame] at this
  exact this
theorem enc_zero : frame_Encode.f 0 [] ⟨#[]⟩ = some (⟨#[]⟩, 1) := by
  unfold frame_Encode.f
  rw [if_neg (by decide)]
theorem scan_ok {s : ByteArray} {l n e} (h : Scan (tl s) l n e) (hs : s.size ≤ 1000000000000) : frame_Scan.f s = some (l.map ofR, (n : Int), endE e) := by
  unfold frame_Scan.f
  rw [if_pos hs, scanF_eq h]
theorem not_whole_one : ¬ Whole [0] := fun h => by have := h.1; simp at this
theorem scan_two : Scan (fr ++ fr ++ [0]) [rA, rA] 24 true := by
  have h := scan_frames (l := [rA, rA]) (fun r hr => by simp at hr; rw [hr]; exact rA_right) (.stop [0] not_whole_one)
  rw [framesL_cons, framesL_cons, framesL_nil, rA_frame] at h
  have e : (fr ++ (fr ++ [])).length + 0 = 24 := by decide
  rw [e] at h
  simpa using h
theorem scan_bad : Scan [0, 1, 120, 97, 98] [] 0 false := by
  refine .bad _ ⟨by decide, by decide⟩ ?_
  intro r hr h
  have h2 : lenOf [0, 1, 120, 97, 98] = 1 := by decide
  rw [h2] at h
  have h3 := congrArg List.length h
  rw [frame_length] at h3
  have := (body_length r hr).2
  simp at h3
  omega
theorem awake_ok : hagglerlaw04_awake.f = some true := by
  unfold hagglerlaw04_awake.f
  simp only [Option.bind_some]
  rw [enc_rA]
  simp only [Option.bind_some]
  rw [enc_zero]
  simp only [Option.bind_some]
  rw [if_pos (by decide), if_pos (by decide)]
  rw [scan_ok (s := (frB ++ frB) ++ (⟨#[0]⟩ : ByteArray)) (l := [rA, rA]) (n := 24) (e := true) (by
    have : tl ((frB ++ frB) ++ (⟨#[0]⟩ : ByteArray)) = fr ++ fr ++ [0] := by decide
    rw [this]; exact scan_two) (by decide)]
  simp only [Option.bind_some]
  rw [scan_ok (s := (⟨#[0, 1, 120, 97, 98]⟩ : ByteArray)) (l := []) (n := 0) (e := false) scan_bad (by decide)]
  simp only [Option.bind_some]
  rw [if_pos (by decide), if_pos (by decide), if_pos (by decide), if_pos (by decide +kernel), if_pos (by decide), if_pos (by decide), if_pos (by decide +kernel)]
  rw [if_pos trivial, if_pos trivial, if_pos (by decide), if_pos (by decide), if_pos (by decide), if_pos (by decide), if_pos (by decide)]
  have : frame_Right.f 3 [7, -1] ⟨#[97]⟩ = some true := by
    unfold frame_Right.f
    exact congrArg some ((rightB_iff _).2 rA_right)
  rw [this]
  simp only [Option.bind_some]
  rw [if_pos trivial, if_pos (by decide), if_pos (by decide)]
  rfl
/-! Are records the same? -/
section
variable (a b : List S24) (hl : a.length = b.length) (ha : a.length ≤ 1000000000000) (hnum : ∀ x ∈ a, x.f1.length ≤ 20)
include hl ha hnum
theorem same_row (i : Nat) (hi : i < a.length) (hn : (a[i]).f1.length = (b[i]'(by omega)).f1.length) :
    ∀ (d j k : Nat), j + d = (a[i]).f1.length → d + 1 ≤ k →
      ((a[i]).f1.drop j = (b[i]'(by omega)).f1.drop j ∧ ∃ q, k = q + d + 1 ∧ hagglerref04_Same.l1 k a b (i : Int) (j : Int) = hagglerref04_Same.l0 q a b ((i + 1 : Nat) : Int)) ∨
      ((a[i]).f1.drop j ≠ (b[i]'(by omega)).f1.drop j ∧ hagglerref04_Same.l1 k a b (i : Int) (j : Int) = some false) := by
  intro d
  have hib : i < b.length := by omega
  have ea := rdT_get a i hi
  have eb := rdT_get b i hib
  have h20 := hnum _ (List.getElem_mem hi)
  induction d with
  | zero =>
    intro j k hj hk
    obtain ⟨k, rfl⟩ : ∃ q, k = q + 1 := ⟨k - 1, by omega⟩
    left
    refine ⟨by rw [List.drop_eq_nil_of_le (by omega), List.drop_eq_nil_of_le (by omega)], k, by omega, ?_⟩
    simp only [hagglerref04_Same.l1]
    rw [if_pos (by omega), if_pos (by omega), ea, if_neg (by omega)]
    rw [show wrap64 ((i : Int) + 1) = ((i + 1 : Nat) : Int) by unfold wrap64; omega]
  | succ d ih =>
    intro j k hj hk
    obtain ⟨k, rfl⟩ : ∃ q, k = q + 1 := ⟨k - 1, by omega⟩
    simp only [hagglerref04_Same.l1]
    rw [if_pos (by omega), if_pos (by omega), ea, if_pos (by omega), if_pos (by omega), if_pos (by omega), eb, if_pos (by omega)]
    have ga : rd (a[i]).f1 (j : Int) = (a[i]).f1[j]'(by omega) := by unfold rd; rw [Int.toNat_natCast, List.getD_eq_getElem?_getD, List.getElem?_eq_getElem (by omega)]; rfl
    have gb : rd (b[i]).f1 (j : Int) = (b[i]).f1[j]'(by omega) := by unfold rd; rw [Int.toNat_natCast, List.getD_eq_getElem?_getD, List.getElem?_eq_getElem (by omega)]; rfl
    rw [ga, gb]
    have da := List.drop_eq_getElem_cons (l := (a[i]).f1) (i := j) (by omega)
    have db := List.drop_eq_getElem_cons (l := (b[i]).f1) (i := j) (by omega)
    by_cases hq : (a[i]).f1[j]'(by omega) = (b[i]).f1[j]'(by omega)
    · rw [if_pos hq, show wrap64 ((j : Int) + 1) = ((j + 1 : Nat) : Int) by unfold wrap64; omega]
      rcases ih (j + 1) k (by omega) (by omega) with ⟨h1, q, h2, h3⟩ | ⟨h1, h2⟩
      · exact .inl ⟨by rw [da, db, hq, h1], q, by omega, h3⟩
      · refine .inr ⟨?_, h2⟩
        rw [da, db]
        intro h
        simp only [List.cons.injEq] at h
        exact h1 h.2
    · rw [if_neg hq]
      refine .inr ⟨?_, rfl⟩
      rw [da, db]
      intro h
      simp only [List.cons.injEq] at h
      exact hq h.1
theorem same_l0 : ∀ (d i k : Nat), i + d = a.length → 24 * d + 2 ≤ k → ∃ t, hagglerref04_Same.l0 k a b (i : Int) = some t ∧ (t = true ↔ a.drop i = b.drop i) := by
  intro d
  induction d with
  | zero =>
    intro i k hi hk
    obtain ⟨k, rfl⟩ : ∃ q, k = q + 1 := ⟨k - 1, by omega⟩
    simp only [hagglerref04_Same.l0]
    rw [if_neg (by omega)]
    exact ⟨true, rfl, by rw [List.drop_eq_nil_of_le (by omega), List.drop_eq_nil_of_le (by omega)]; simp⟩
  | succ d ih =>
    intro i k hi hk
    obtain ⟨k, rfl⟩ : ∃ q, k = q + 2 := ⟨k - 2, by omega⟩
    have hia : i < a.length := by omega
    have hib : i < b.length := by omega
    have ea := rdT_get a i hia
    have eb := rdT_get b i hib
    have da := List.drop_eq_getElem_cons (l := a) (i := i) hia
    have db := List.drop_eq_getElem_cons (l := b) (i := i) hib
    simp only [hagglerref04_Same.l0]
    rw [if_pos (by omega), if_pos (by omega), if_pos (by omega), ea, eb]
    have hno : ∀ (h : a[i] ≠ b[i]), ¬ (a.drop i = b.drop i) := by
      intro h hh
      rw [da, db] at hh
      simp only [List.cons.injEq] at hh
      exact h hh.1
    have fin : ∀ t, hagglerref04_Same.j1 (k + 1) a b (i : Int) true = some t → t = false := by
      intro t h
      simp only [hagglerref04_Same.j1] at h
      rw [if_pos trivial] at h
      exact (Option.some.inj h).symm
    have bad : a[i] ≠ b[i] → ∃ t, hagglerref04_Same.j1 (k + 1) a b (i : Int) true = some t ∧ (t = true ↔ a.drop i = b.drop i) := by
      intro h
      refine ⟨false, ?_, ?_⟩
      · simp only [hagglerref04_Same.j1]; rw [if_pos trivial]
      · constructor
        · intro e; cases e
        · intro e; exact absurd e (hno h)
    by_cases h0 : (a[i]).f0 = (b[i]).f0
    · rw [if_pos h0]
      by_cases h2 : (a[i]).f2.toList = (b[i]).f2.toList
      · rw [if_pos h2]
        by_cases h1 : (a[i]).f1.length = (b[i]).f1.length
        · have hb : (((a[i]).f1.length : Int) != ((b[i]).f1.length : Int)) = false := by rw [h1]; simp
          rw [hb]
          simp only [hagglerref04_Same.j1]
          rw [if_neg (by decide)]
          rcases same_row a b hl ha hnum i hia h1 (a[i]).f1.length 0 k (by omega) (by have := hnum _ (List.getElem_mem hia); omega) with ⟨e1, q, e2, e3⟩ | ⟨e1, e2⟩
          · obtain ⟨t, t1, t2⟩ := ih (i + 1) q (by omega) (by have := hnum _ (List.getElem_mem hia); omega)
            refine ⟨t, ?_, ?_⟩
            · have : ((0 : Nat) : Int) = 0 := rfl
              rw [← this, e3]; exact t1
            · rw [t2, da, db]
              have hab : a[i] = b[i] := by
                have e4 : (a[i]).f1 = (b[i]).f1 := by simpa using e1
                have e5 : (a[i]).f2 = (b[i]).f2 := by
                  apply tl_inj
                  rw [toList_data, toList_data] at h2
                  exact h2
                generalize a[i] = x at *
                generalize b[i] = y at *
                cases x; cases y
                simp only at h0 e4 e5
                rw [h0, e4, e5]
              rw [hab]
              constructor
              · intro h; rw [h]
              · intro h; simp only [List.cons.injEq, true_and] at h; exact h
          · refine ⟨false, ?_, ?_⟩
            · have : ((0 : Nat) : Int) = 0 := rfl
              rw [← this]; exact e2
            · constructor
              · intro e; cases e
              · intro e
                refine absurd e (hno ?_)
                intro hh
                apply e1
                rw [hh]
        · have hb : (((a[i]).f1.length : Int) != ((b[i]).f1.length : Int)) = true := by simp; omega
          rw [hb]
          exact bad (fun h => h1 (by rw [h]))
      · rw [if_neg h2]
        exact bad (fun h => h2 (by rw [h]))
    · rw [if_neg h0]
      exact bad (fun h => h0 (by rw [h]))
end
theorem same_ok (a b : List S24) (ha : a.length ≤ 1000000000000) (hnum : ∀ x ∈ a, x.f1.length ≤ 20) (k : Nat) (hk : 24 * a.length + 2 ≤ k) :
    ∃ t, hagglerref04_Same.f k a b = some t ∧ (t = true ↔ a = b) := by
  unfold hagglerref04_Same.f
  by_cases hl : a.length = b.length
  · rw [if_pos (by omega)]
    obtain ⟨t, h1, h2⟩ := same_l0 a b hl ha hnum a.length 0 k (by omega) hk
    exact ⟨t, h1, by simpa using h2⟩
  · rw [if_neg (by omega)]
    exact ⟨false, rfl, by constructor
                          · intro e; cases e
                          · intro e; exact absurd (by rw [e]) hl⟩
theorem same_yes (a : List S24) (ha : a.length ≤ 1000000000000) (hnum : ∀ x ∈ a, x.f1.length ≤ 20) (k : Nat) (hk : 24 * a.length + 2 ≤ k) : hagglerref04_Same.f k a a = some true := by
  obtain ⟨t, h1, h2⟩ := same_ok a a ha hnum k hk
  rw [h1, h2.2 rfl]
/-! The document's answer: numerals, what may be, bodies, frames. -/
open Go.Proofs.YthidhmfejnjdhaaDoor.FrameP
def bd (l : List UInt8) : ByteArray := ⟨l.toArray⟩
theorem tl_bd (l : List UInt8) : tl (bd l) = l := by simp [tl, bd]
theorem bd_size (l : List UInt8) : (bd l).size = l.length := by show l.toArray.size = _; simp
theorem bd_append (a b : List UInt8) : bd a ++ bd b = bd (a ++ b) := by apply tl_inj; simp [tl, bd, ByteArray.data_append]
theorem bd_tl (b : ByteArray) : bd (tl b) = b := tl_inj (tl_bd _)
theorem bd_list (l : List UInt8) : (bd l).toList = l := by rw [toList_data]; exact tl_bd l
theorem dig_one (u : Nat) : strOfNums [wrap64 (48 + Int.tmod (u : Int) 10) % 256] = bd [UInt8.ofNat (48 + u % 10)] := by
  have e : Int.tmod (u : Int) 10 = ((u % 10 : Nat) : Int) := by rw [Int.tmod_eq_emod_of_nonneg (by omega)]; omega
  rw [e, show wrap64 (48 + ((u % 10 : Nat) : Int)) % 256 = ((48 + u % 10 : Nat) : Int) by unfold wrap64; omega]
  rfl
theorem digits_le (u : Nat) (h : u ≤ 9223372036854775807) : (Lib.decDigits u).length ≤ 20 := by
  rw [Lib.decDigits_length]; exact Lib.nDigits_le20 u (by omega)
theorem digits_ok : ∀ (k u : Nat), u < 10 ^ k → u ≤ 9223372036854775807 → hagglerref02_digits.f (k + 1) (u : Int) = some (bd (Lib.decDigits u)) := by
  intro k
  induction k with
  | zero =>
    intro u h _
    have h0 : u = 0 := by simpa using h
    subst h0
    simp only [hagglerref02_digits.f]
    simp only [Option.bind_some]
    rw [dig_one, if_neg (by omega), Lib.decDigits_one (by omega)]
  | succ k ih =>
    intro u h hu
    generalize hK : k + 1 = K at ih ⊢
    simp only [hagglerref02_digits.f]
    simp only [Option.bind_some]
    rw [dig_one]
    by_cases h10 : u < 10
    · rw [if_neg (by omega), Lib.decDigits_one h10, show u % 10 = u by omega]
    · have e : wrap64 (Int.tdiv (u : Int) 10) = ((u / 10 : Nat) : Int) := by
        rw [Int.tdiv_eq_ediv_of_nonneg (by omega)]; unfold wrap64; omega
      have hl := digits_le (u / 10) (by omega)
      rw [if_pos (by omega), e, ih (u / 10) (by rw [Nat.pow_succ] at h; omega) (by omega)]
      simp only [Option.bind_some]
      rw [if_pos (by rw [bd_size, bd_size]; simp; omega), bd_append]
      conv => rhs; rw [Lib.decDigits, dif_neg h10]
theorem digits_any (k u : Nat) (hk : 21 ≤ k) (h : u ≤ 9223372036854775807) : hagglerref02_digits.f k (u : Int) = some (bd (Lib.decDigits u)) := by
  obtain ⟨k, rfl⟩ : ∃ q, k = q + 1 := ⟨k - 1, by omega⟩
  refine digits_ok k u ?_ h
  have : 10 ^ 20 ≤ 10 ^ k := Nat.pow_le_pow_right (by omega) (by omega)
  have h2 : (10 : Nat) ^ 20 = 100000000000000000000 := by decide
  omega
theorem Number_ok (n : Int) (h0 : -1000000000000000000 ≤ n) (h1 : n ≤ 1000000000000000000) (k : Nat) (hk : 21 ≤ k) : hagglerref02_Number.f k n = some (bd (Lib.itoa n)) := by
  unfold hagglerref02_Number.f Lib.itoa
  by_cases h : n ≥ 0
  · obtain ⟨u, rfl⟩ := Int.eq_ofNat_of_zero_le h
    rw [if_pos h, digits_any k u hk (by omega), if_neg (by omega), Int.toNat_natCast]
    rfl
  · obtain ⟨u, hu⟩ : ∃ u : Nat, n = -(u : Int) := ⟨n.natAbs, by omega⟩
    subst hu
    have hl := digits_le u (by omega)
    rw [if_neg h, if_neg (by omega), show wrap64 (-(-(u : Int))) = (u : Int) by unfold wrap64; omega, digits_any k u hk (by omega), if_pos (by omega)]
    simp only [Option.bind_some]
    rw [if_pos (by rw [bd_size]; omega), show (-(u : Int)).natAbs = u by omega]
    exact congrArg some (bd_append [45] (Lib.decDigits u))
theorem rd_nat (l : List Int) (i : Nat) (h : i < l.length) : rd l (i : Int) = l[i] := by
  unfold rd; rw [Int.toNat_natCast, List.getD_eq_getElem?_getD, List.getElem?_eq_getElem h]; rfl
theorem right_l0 (kind : Int) (nums : List Int) (text : ByteArray) (hn : nums.length ≤ 9223372036854775807) : ∀ (d i k : Nat), i + d = nums.length → d + 1 ≤ k →
    hagglerref04_Right.l0 k (i : Int) kind nums text = some (decide (1 ≤ kind) && decide (kind ≤ 255) && decide (nums.length ≤ 20) && !(nums.drop i).any Odd && decide (text.size ≤ 2000)) := by
  intro d
  induction d with
  | zero =>
    intro i k hi hk
    obtain ⟨k, rfl⟩ : ∃ q, k = q + 1 := ⟨k - 1, by omega⟩
    simp only [hagglerref04_Right.l0]
    rw [if_neg (by omega), List.drop_eq_nil_of_le (by omega)]
    by_cases a1 : 1 ≤ kind
    · rw [if_pos a1, decide_eq_true a1]
      by_cases a2 : kind ≤ 255
      · rw [if_pos a2, decide_eq_true a2]
        by_cases a3 : nums.length ≤ 20
        · rw [if_pos (by omega), decide_eq_true a3]
          have : decide ((text.size : Int) ≤ 2000) = decide (text.size ≤ 2000) := decide_eq_decide.2 (by omega)
          rw [this]; rfl
        · rw [if_neg (by omega), decide_eq_false a3]; rfl
      · rw [if_neg a2, decide_eq_false a2]; rfl
    · rw [if_neg a1, decide_eq_false a1]; rfl
  | succ d ih =>
    intro i k hi hk
    obtain ⟨k, rfl⟩ : ∃ q, k = q + 1 := ⟨k - 1, by omega⟩
    simp only [hagglerref04_Right.l0]
    have hil : i < nums.length := by omega
    rw [if_pos (by omega), if_pos (by omega), rd_nat nums i hil, List.drop_eq_getElem_cons hil, List.any_cons]
    by_cases b1 : nums[i] < -1125899906842624
    · rw [if_pos b1]
      have : Odd nums[i] = true := by unfold Odd; rw [decide_eq_true b1]; rfl
      rw [this]; simp
    · rw [if_neg b1]
      by_cases b2 : nums[i] > 1125899906842624
      · rw [if_pos b2]
        have : Odd nums[i] = true := by unfold Odd; rw [decide_eq_true b2]; simp
        rw [this]; simp
      · rw [if_neg b2]
        have : Odd nums[i] = false := by unfold Odd; rw [decide_eq_false b1, decide_eq_false (show ¬ 1125899906842624 < nums[i] from b2)]; rfl
        rw [this, show wrap64 ((i : Int) + 1) = ((i + 1 : Nat) : Int) by unfold wrap64; omega, ih (i + 1) k (by omega) (by omega)]
        rfl
theorem Right_ok (kind : Int) (nums : List Int) (text : ByteArray) (hn : nums.length ≤ 9223372036854775807) (k : Nat) (hk : nums.length + 1 ≤ k) : hagglerref04_Right.f k kind nums text = some (RightB ⟨kind, nums, text⟩) :=
  right_l0 kind nums text hn nums.length 0 k (by omega) hk
theorem body_l0 (kind : Int) (nums : List Int) (text : ByteArray) (hlen : nums.length ≤ 20) (hn : nums.any Odd = false) (ht : text.size ≤ 2000) : ∀ (d i k : Nat) (acc : ByteArray), i + d = nums.length → d + 22 ≤ k → acc.size ≤ 40 + 40 * i →
    hagglerref04_body.l0 k acc (i : Int) kind nums text = some (acc ++ bd (tailL (nums.drop i) ++ 58 :: tl text)) := by
  intro d
  induction d with
  | zero =>
    intro i k acc hi hk ha
    obtain ⟨k, rfl⟩ : ∃ q, k = q + 1 := ⟨k - 1, by omega⟩
    simp only [hagglerref04_body.l0]
    rw [if_neg (by omega), if_pos (by omega), if_pos (by rw [ByteArray.size_append]; show acc.size + 1 + text.size ≤ _; omega), List.drop_eq_nil_of_le (by omega), tailL_nil]
    congr 1
    apply tl_inj
    simp [tl, bd, ByteArray.data_append]
  | succ d ih =>
    intro i k acc hi hk ha
    obtain ⟨k, rfl⟩ : ∃ q, k = q + 1 := ⟨k - 1, by omega⟩
    simp only [hagglerref04_body.l0]
    have hil : i < nums.length := by omega
    have ho := odd_in hn (List.getElem_mem hil)
    have hs := itoa_short nums[i] ho.1 ho.2
    have e1 : (⟨#[32]⟩ : ByteArray).size = 1 := rfl
    rw [if_pos (by omega), if_pos (by omega), if_pos (by omega), rd_nat nums i hil, Number_ok nums[i] (by omega) (by omega) k (by omega)]
    simp only [Option.bind_some]
    rw [if_pos (by rw [ByteArray.size_append, bd_size, e1]; omega), show wrap64 ((i : Int) + 1) = ((i + 1 : Nat) : Int) by unfold wrap64; omega, ih (i + 1) k _ (by omega) (by omega) (by rw [ByteArray.size_append, ByteArray.size_append, bd_size, e1]; omega)]
    rw [List.drop_eq_getElem_cons hil, tailL_cons]
    congr 1
    apply tl_inj
    simp [tl, bd, ByteArray.data_append]
theorem body_ok (r : Rec) (h : Right r) (k : Nat) (hk : 50 ≤ k) : hagglerref04_body.f k r.kind r.nums r.text = some (bd (bodyL r)) := by
  obtain ⟨h1, h2, h3, h4, h5⟩ := h
  have hs := itoa_short r.kind (by omega) (by omega)
  unfold hagglerref04_body.f
  rw [Number_ok r.kind (by omega) (by omega) k (by omega)]
  simp only [Option.bind_some]
  have h0 : ((0 : Nat) : Int) = 0 := rfl
  rw [← h0, body_l0 r.kind r.nums r.text h3 h4 h5 r.nums.length 0 k _ (by omega) (by omega) (by rw [bd_size]; omega), bd_append, List.drop_zero, bodyL_eq]
theorem two_last (n : Nat) : UInt8.ofNat (n % 256) = UInt8.ofNat n := by
  apply UInt8.toNat_inj.1; rw [UInt8.toNat_ofNat', UInt8.toNat_ofNat']; omega
theorem Bytes_ok (n : Nat) (h : n ≤ 65535) : hagglerref03_Bytes.f (n : Int) = some (bd (two n)) := by
  unfold hagglerref03_Bytes.f
  rw [if_neg (by omega), if_neg (by omega), Int.tdiv_eq_ediv_of_nonneg (by omega), Int.tmod_eq_emod_of_nonneg (by omega),
    show wrap64 ((n : Int) / 256) % 256 = ((n / 256 : Nat) : Int) by unfold wrap64; omega, show (n : Int) % 256 % 256 = ((n % 256 : Nat) : Int) by omega]
  show some (bd [UInt8.ofNat (n / 256), UInt8.ofNat (n % 256)]) = _
  rw [two_last]; rfl
open Go.Proofs.YthidhmfejnjdhaaDoor.Crc in
theorem ref_l1 (k : Nat) (a : ByteArray) (n : BitVec 16) (i j : Int) (h : j < 8) (h0 : 0 ≤ j) :
    hagglerref03_Of.l1 (k + 1) a (n.toNat : Int) i j = hagglerref03_Of.l1 k a ((stp n).toNat : Int) i (j + 1) := by
  simp only [hagglerref03_Of.l1]
  rw [if_pos h, show wrap64 (j + 1) = j + 1 by unfold wrap64; omega, dbl64]
  cases hm : n.msb with
  | false =>
    rw [if_neg (fun e => by rw [(msb64 n).1 e] at hm; exact absurd hm (by decide)), stp_lo hm]
  | true =>
    rw [if_pos ((msb64 n).2 hm)]
    rw [show (4129 : Int) = ((0x1021#16).toNat : Int) from rfl, xor64, stp_hi hm]
open Go.Proofs.YthidhmfejnjdhaaDoor.Crc in
theorem ref_l18 (k : Nat) (a : ByteArray) (n : BitVec 16) (i : Int) :
    hagglerref03_Of.l1 (k + 9) a (n.toNat : Int) i 0 = hagglerref03_Of.l0 k a ((its 8 n).toNat : Int) (wrap64 (i + 1)) := by
  rw [ref_l1 (k + 8) a n i 0 (by omega) (by omega), ref_l1 (k + 7) _ _ _ _ (by omega) (by omega), ref_l1 (k + 6) _ _ _ _ (by omega) (by omega), ref_l1 (k + 5) _ _ _ _ (by omega) (by omega), ref_l1 (k + 4) _ _ _ _ (by omega) (by omega), ref_l1 (k + 3) _ _ _ _ (by omega) (by omega), ref_l1 (k + 2) _ _ _ _ (by omega) (by omega), ref_l1 (k + 1) _ _ _ _ (by omega) (by omega)]
  simp only [hagglerref03_Of.l1]
  rw [if_neg (by omega)]
  rfl
open Go.Proofs.YthidhmfejnjdhaaDoor.Crc in
theorem ref_l0 (a : ByteArray) (hs : a.size ≤ 9223372036854775800) : ∀ (d m i : Nat) (n : BitVec 16), i + d = a.size →
    hagglerref03_Of.l0 (10 * d + 1 + m) a (n.toNat : Int) (i : Int) = some ((crc n (a.data.toList.drop i)).toNat : Int) := by
  intro d
  induction d with
  | zero =>
    intro m i n h
    rw [show 10 * 0 + 1 + m = m + 1 by omega]
    simp only [hagglerref03_Of.l0]
    rw [if_neg (by omega), List.drop_eq_nil_of_le (by simp; show a.size ≤ i; omega)]
    rfl
  | succ d ih =>
    intro m i n h
    rw [show 10 * (d + 1) + 1 + m = (10 * d + 1 + m + 9) + 1 by omega]
    simp only [hagglerref03_Of.l0]
    have hi' : i < a.size := by omega
    rw [if_pos (by omega), if_pos (by omega)]
    have hb : bt a (i : Int) = (a[i].toNat : Int) := by
      unfold bt; rw [dif_pos (by simpa using hi')]; simp
    rw [hb, byte64, xor64, ref_l18, show wrap64 ((i : Int) + 1) = ((i + 1 : Nat) : Int) by unfold wrap64; omega, ih m (i + 1) _ (by omega)]
    rw [List.drop_eq_getElem_cons (i := i) (by simpa using hi')]
    rfl
theorem Of_ok (a : ByteArray) (hs : a.size ≤ 100000) (k : Nat) (hk : 1000001 ≤ k) : hagglerref03_Of.f k a = some (((sumL (tl a)).toNat : Nat) : Int) := by
  obtain ⟨m, rfl⟩ : ∃ m, k = 10 * a.size + 1 + m := ⟨k - (10 * a.size + 1), by omega⟩
  exact ref_l0 a (by omega) a.size m 0 0xffff#16 (by omega)
theorem Encode_ok (kind : Int) (nums : List Int) (text : ByteArray) (hn : nums.length ≤ 9223372036854775807) (k : Nat) (hk : nums.length + 1000001 ≤ k) :
    hagglerref04_Encode.f k kind nums text = frame_Encode.f kind nums text := by
  unfold hagglerref04_Encode.f frame_Encode.f
  rw [Right_ok kind nums text hn k (by omega)]
  simp only [Option.bind_some]
  by_cases h : RightB ⟨kind, nums, text⟩ = true
  · have hr := (rightB_iff _).1 h
    have hb := body_length _ hr
    rw [if_pos h, if_pos h, body_ok ⟨kind, nums, text⟩ hr k (by omega)]
    simp only [Option.bind_some]
    rw [bd_size, Bytes_ok _ (by omega)]
    simp only [Option.bind_some]
    rw [if_pos (by simp only [bd_size, two_length]; omega), bd_append, Of_ok _ (by simp only [bd_size, List.length_append, two_length]; omega) k (by omega)]
    simp only [Option.bind_some]
    rw [tl_bd, Bytes_ok _ (by have := (sumL (two (bodyL ⟨kind, nums, text⟩).length ++ bodyL ⟨kind, nums, text⟩)).isLt; omega)]
    simp only [Option.bind_some]
    rw [if_pos (by simp only [bd_size, List.length_append, two_length]; omega), bd_append]
    rfl
  · rw [if_neg h, if_neg h]
end FrameTellsP
end Go.Proofs.YthidhmfejnjdhaaDoor.Pure
