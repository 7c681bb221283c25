/- For every input FrameAgain answers true, in plain Lean. -/
import Derived.Test.YthidhmfejnjdhaaDoorHFrameAgainx0
import Derived.Test.YthidhmfejnjdhaaDoorHFrameAgainx1
import Derived.Test.YthidhmfejnjdhaaDoorHFrameAgainx2
import Derived.Test.YthidhmfejnjdhaaDoorHFrameAgainx3
namespace Go.Proofs.YthidhmfejnjdhaaDoor.Pure
open Go.RowKit Go.Proofs.YthidhmfejnjdhaaDoor.HFrameAgain Go.Proofs.YthidhmfejnjdhaaDoorW.PrintWords Go.Proofs.YthidhmfejnjdhaaDoorW.PrintLast Go.Proofs.YthidhmfejnjdhaaDoorW.PrintMore
set_option linter.unusedVariables false
set_option linter.unusedSimpArgs false
open Go.Proofs.YthidhmfejnjdhaaDoor.FrameS Go.Proofs.YthidhmfejnjdhaaDoor.FrameC
namespace FrameAgainP
/-! Records by two names. -/
theorem of_to (x : S24) : ofR (toR x) = x := rfl
theorem to_of (r : Rec) : toR (ofR r) = r := rfl
theorem map_to_of (l : List Rec) : (l.map ofR).map toR = l := by
  rw [List.map_map]
  exact List.map_id' _
theorem toR_inj {x y : S24} (h : toR x = toR y) : x = y := by rw [← of_to x, h, of_to]
theorem ofR_inj {x y : Rec} (h : ofR x = ofR y) : x = y := by rw [← to_of x, h, to_of]
theorem map_toR_inj : ∀ {l m : List S24}, l.map toR = m.map toR → l = m
  | [], [], _ => rfl
  | [], y :: m, h => by simp at h
  | x :: l, [], h => by simp at h
  | x :: l, y :: m, h => by
    simp only [List.map_cons, List.cons.injEq] at h
    rw [toR_inj h.1, map_toR_inj h.2]
abbrev W64 (x : Int) : Prop := (Lit.int .i64 x).wf = true
theorem in64 {x : Int} (h : W64 x) : -9223372036854775808 ≤ x ∧ x ≤ 9223372036854775807 := by
  unfold W64 Lit.wf at h
  rw [Bool.and_eq_true, decide_eq_true_eq, decide_eq_true_eq] at h
  exact ⟨h.1, h.2⟩
theorem pick_ok (a n : Int) (ha : W64 a) (hn : 0 < n) : ∃ r, hagglerlaw04_pick.f a n = some r ∧ 0 ≤ r ∧ r < n := by
  have hw := in64 ha
  unfold hagglerlaw04_pick.f
  by_cases h : a < 0
  · rw [if_pos h, if_neg (by omega)]
    have e : wrap64 (-(wrap64 (a + 1))) = -(a + 1) := by unfold wrap64; omega
    rw [e]
    exact ⟨_, rfl, Int.tmod_nonneg _ (by omega), Int.tmod_lt_of_pos _ hn⟩
  · rw [if_neg h, if_neg (by omega)]
    exact ⟨_, rfl, Int.tmod_nonneg _ (by omega), Int.tmod_lt_of_pos _ hn⟩
theorem rd_in {l : List Int} {i : Int} (h0 : 0 ≤ i) (h : i < l.length) : rd l i ∈ l := by
  unfold rd
  rw [List.getD_eq_getElem?_getD, List.getElem?_eq_getElem (by omega)]
  exact List.getElem_mem _
theorem rdl_in {l : List (List Int)} {i : Int} (h0 : 0 ≤ i) (h : i < l.length) : rd_L1 l i ∈ l := by
  unfold rd_L1
  rw [List.getD_eq_getElem?_getD, List.getElem?_eq_getElem (by omega)]
  exact List.getElem_mem _
theorem wrap_nat (i : Nat) (h : i ≤ 1000000) : wrap64 ((i : Int) + 1) = ((i + 1 : Nat) : Int) := by unfold wrap64; omega

/-! The records of raw numbers. -/
section
variable (x0 : List (List Int)) (x1 : List ByteArray)
theorem rec_end (d i k : Nat) (acc : List S24) (m kind : Int) (nums : List Int) (hi : i < x0.length) (hi2 : i < 12) (hk : 50 * d + 4 ≤ k) (hacc : ∀ x ∈ acc, Right (toR x)) (hlen : acc.length = i)
    (hr : Right ⟨kind, nums, ⟨#[]⟩⟩) (hx1 : x1.length ≤ 9223372036854775807)
    (IH : ∀ k acc, 50 * d + 3 ≤ k → (∀ x ∈ acc, Right (toR x)) → acc.length = i + 1 → ∃ l, hagglerlaw04_Records.l0 k x0 x1 acc ((i + 1 : Nat) : Int) = some l ∧ (∀ x ∈ l, Right (toR x)) ∧ l.length ≤ 12) :
    ∃ l, hagglerlaw04_Records.j3 k x0 x1 acc (i : Int) m false kind nums (⟨#[]⟩ : ByteArray) = some l ∧ (∀ x ∈ l, Right (toR x)) ∧ l.length ≤ 12 := by
  obtain ⟨k, rfl⟩ : ∃ q, k = q + 1 := ⟨k - 1, by omega⟩
  simp only [hagglerlaw04_Records.j3]
  rw [if_neg (show ¬ (false = true) by decide)]
  have app : ∀ t : ByteArray, t.size ≤ 2000 → ∀ x ∈ acc ++ [(⟨kind, nums, t⟩ : S24)], Right (toR x) := by
    intro t ht x hx
    rcases List.mem_append.1 hx with h | h
    · exact hacc x h
    · rw [List.mem_singleton.1 h]
      exact ⟨hr.1, hr.2.1, hr.2.2.1, hr.2.2.2.1, ht⟩
  by_cases h1 : (x1.length : Int) > 0
  · rw [if_pos h1, if_neg (by omega)]
    have a1 := Int.tmod_nonneg (x1.length : Int) (show (0 : Int) ≤ (i : Int) by omega)
    have a2 := Int.tmod_lt_of_pos (i : Int) h1
    rw [if_pos a1, if_pos a2]
    generalize rdOf ByteArray.empty x1 (Int.tmod (i : Int) (x1.length : Int)) = t
    have b1 : (0 : Int) ≤ mn (t.size : Int) 200 := by unfold mn; split <;> omega
    have b2 : mn (t.size : Int) 200 ≤ (t.size : Int) := by unfold mn; split <;> omega
    have b3 : mn (t.size : Int) 200 ≤ 200 := by unfold mn; split <;> omega
    rw [if_pos b1, if_pos b2, if_pos (by omega), wrap_nat i (by omega)]
    exact IH k _ (by omega) (app _ (by rw [ByteArray.size_extract]; omega)) (by simp [hlen])
  · rw [if_neg h1, if_pos (by omega), wrap_nat i (by omega)]
    exact IH k _ (by omega) (app _ (by decide)) (by simp [hlen])
variable (hx : ∀ r ∈ x0, ∀ n ∈ r, W64 n)
include hx
theorem rec_row (d i : Nat) (acc : List S24) (hi : i < x0.length) (hi2 : i < 12) (hacc : ∀ x ∈ acc, Right (toR x)) (hlen : acc.length = i) (hx1 : x1.length ≤ 9223372036854775807)
    (IH : ∀ k acc, 50 * d + 3 ≤ k → (∀ x ∈ acc, Right (toR x)) → acc.length = i + 1 → ∃ l, hagglerlaw04_Records.l0 k x0 x1 acc ((i + 1 : Nat) : Int) = some l ∧ (∀ x ∈ l, Right (toR x)) ∧ l.length ≤ 12) :
    ∀ (e m k : Nat) (kind : Int) (nums : List Int), m + e = 21 → 2 * e + 50 * d + 5 ≤ k → 1 ≤ kind → kind ≤ 255 → nums.length ≤ m - 1 → nums.any Odd = false →
      ∃ l, hagglerlaw04_Records.l1 k x0 x1 acc (i : Int) (m : Int) kind nums (⟨#[]⟩ : ByteArray) = some l ∧ (∀ x ∈ l, Right (toR x)) ∧ l.length ≤ 12 := by
  intro e
  induction e with
  | zero =>
    intro m k kind nums hm hk k1 k2 hn ho
    obtain ⟨k, rfl⟩ : ∃ q, k = q + 1 := ⟨k - 1, by omega⟩
    simp only [hagglerlaw04_Records.l1]
    rw [if_pos (by omega), if_pos (by omega)]
    have hd : decide ((m : Int) < 21) = false := decide_eq_false (by omega)
    rw [hd]
    have := rec_end x0 x1 d i k acc (m : Int) kind nums hi hi2 (by omega) hacc hlen ⟨k1, k2, by show nums.length ≤ 20; omega, ho, Nat.zero_le _⟩ hx1 IH
    split <;> exact this
  | succ e ih =>
    intro m k kind nums hm hk k1 k2 hn ho
    obtain ⟨k, rfl⟩ : ∃ q, k = q + 1 := ⟨k - 1, by omega⟩
    simp only [hagglerlaw04_Records.l1]
    rw [if_pos (by omega), if_pos (by omega)]
    have hd : decide ((m : Int) < 21) = true := decide_eq_true (by omega)
    rw [hd]
    have hrow := rdl_in (l := x0) (i := (i : Int)) (by omega) (by omega)
    by_cases hml : (m : Int) < ((rd_L1 x0 (i : Int)).length : Int)
    · rw [if_pos hml]
      obtain ⟨k, rfl⟩ : ∃ q, k = q + 1 := ⟨k - 1, by omega⟩
      simp only [hagglerlaw04_Records.j3]
      rw [if_pos trivial]
      by_cases hm0 : (m : Int) = 0
      · rw [if_pos hm0, if_pos (by omega), if_pos (by omega), if_pos (by omega)]
        obtain ⟨r, h1, h2, h3⟩ := pick_ok (rd (rd_L1 x0 (i : Int)) 0) 255 (hx _ hrow _ (rd_in (by omega) (by omega))) (by omega)
        rw [h1]
        simp only [Option.bind_some]
        rw [wrap_nat m (by omega), show wrap64 (1 + r) = 1 + r by unfold wrap64; omega]
        exact ih (m + 1) k (1 + r) nums (by omega) (by omega) (by omega) (by omega) (by omega) ho
      · rw [if_neg hm0, if_pos (by omega), if_pos (by omega), if_pos (by omega), if_pos hml]
        obtain ⟨r, h1, h2, h3⟩ := pick_ok (rd (rd_L1 x0 (i : Int)) (m : Int)) 2251799813685249 (hx _ hrow _ (rd_in (by omega) hml)) (by omega)
        rw [h1]
        simp only [Option.bind_some]
        rw [if_pos (by omega), wrap_nat m (by omega), show wrap64 (r - 1125899906842624) = r - 1125899906842624 by unfold wrap64; omega]
        refine ih (m + 1) k kind _ (by omega) (by omega) k1 k2 (by simp; omega) ?_
        rw [List.any_append, ho]
        simp [Odd]
        omega
    · rw [if_neg hml]
      exact rec_end x0 x1 d i k acc (m : Int) kind nums hi hi2 (by omega) hacc hlen ⟨k1, k2, by show nums.length ≤ 20; omega, ho, Nat.zero_le _⟩ hx1 IH
theorem rec_l0 (hx1 : x1.length ≤ 9223372036854775807) : ∀ (d i k : Nat) (acc : List S24), i + d = 12 → 50 * d + 3 ≤ k → (∀ x ∈ acc, Right (toR x)) → acc.length = i →
    ∃ l, hagglerlaw04_Records.l0 k x0 x1 acc (i : Int) = some l ∧ (∀ x ∈ l, Right (toR x)) ∧ l.length ≤ 12 := by
  intro d
  induction d with
  | zero =>
    intro i k acc hi hk hacc hlen
    obtain ⟨k, rfl⟩ : ∃ q, k = q + 2 := ⟨k - 2, by omega⟩
    simp only [hagglerlaw04_Records.l0]
    have hd : decide ((i : Int) < 12) = false := decide_eq_false (by omega)
    rw [hd]
    simp only [hagglerlaw04_Records.j1]
    refine ⟨acc, ?_, hacc, by omega⟩
    split <;> rfl
  | succ d ih =>
    intro i k acc hi hk hacc hlen
    obtain ⟨k, rfl⟩ : ∃ q, k = q + 2 := ⟨k - 2, by omega⟩
    simp only [hagglerlaw04_Records.l0]
    have hd : decide ((i : Int) < 12) = true := decide_eq_true (by omega)
    rw [hd]
    by_cases h1 : (i : Int) < (x0.length : Int)
    · rw [if_pos h1]
      simp only [hagglerlaw04_Records.j1]
      rw [if_pos trivial]
      exact rec_row x0 x1 hx d i acc (by omega) (by omega) hacc hlen hx1 (fun k acc a b c => ih (i + 1) k acc (by omega) a b c) 21 0 k 1 [] (by omega) (by omega) (by omega) (by omega) (by simp) (by rfl)
    · rw [if_neg h1]
      simp only [hagglerlaw04_Records.j1]
      exact ⟨acc, rfl, hacc, by omega⟩
theorem records_ok (hx1 : x1.length ≤ 9223372036854775807) (k : Nat) (hk : 700 ≤ k) : ∃ l, hagglerlaw04_Records.f k x0 x1 = some l ∧ (∀ x ∈ l, Right (toR x)) ∧ l.length ≤ 12 :=
  rec_l0 x0 x1 hx hx1 12 0 k [] (by omega) (by omega) (fun x h => by cases h) rfl
end

/-! Texts. -/
theorem encode_right (x : S24) (h : Right (toR x)) : frame_Encode.f x.f0 x.f1 x.f2 = some (⟨(frameL (toR x)).toArray⟩, 0) := by
  unfold frame_Encode.f
  show (if RightB (toR x) = true then some ((⟨(frameL (toR x)).toArray⟩ : ByteArray), (0 : Int)) else some (⟨#[]⟩, 1)) = _
  rw [if_pos ((rightB_iff _).2 h)]
theorem rdT_get (l : List S24) (i : Nat) (h : i < l.length) : rd_T24 l (i : Int) = l[i] := by
  unfold rd_T24
  rw [Int.toNat_natCast, List.getD_eq_getElem?_getD, List.getElem?_eq_getElem h]; rfl
def fr : List UInt8 := [0, 8, 51, 32, 55, 32, 45, 49, 58, 97, 173, 100]
def rA : Rec := ⟨3, [7, -1], ⟨#[97]⟩⟩
theorem rA_right : Right rA := (rightB_iff _).1 (by decide)
theorem itoa_small (n : Nat) (h : n < 10) : Lib.itoa (n : Int) = [UInt8.ofNat (48 + n)] := by
  unfold Lib.itoa; rw [if_neg (by omega), Int.toNat_natCast, Lib.decDigits_one h]
theorem itoa_m1 : Lib.itoa (-1) = [45, 49] := by
  unfold Lib.itoa; rw [if_pos (by omega)]
  rw [show (-1 : Int).natAbs = 1 from rfl, Lib.decDigits_one (by omega)]; rfl
theorem rA_body : bodyL rA = [51, 32, 55, 32, 45, 49, 58, 97] := by
  rw [bodyL_eq]
  show Lib.itoa ((3 : Nat) : Int) ++ (tailL [((7 : Nat) : Int), -1] ++ 58 :: tl ⟨#[97]⟩) = _
  rw [tailL_cons, tailL_cons, tailL_nil, itoa_small 3 (by omega), itoa_small 7 (by omega), itoa_m1]
  rfl
theorem rA_frame : frameL rA = fr := by
  unfold frameL wrapL
  rw [rA_body]
  decide +kernel
def frB : ByteArray := ⟨fr.toArray⟩
theorem enc_rA : frame_Encode.f 3 [7, -1] ⟨#[97]⟩ = some (frB, 0) := by
  have := encode_right (ofR rA) rA_right
  rw [to_of, rA_frame] at this
  exact this
theorem enc_zero : frame_Encode.f 0 [] ⟨#[]⟩ = some (⟨#[]⟩, 1) := by
  unfold frame_Encode.f
  rw [if_neg (by decide)]
theorem scan_ok {s : ByteArray} {l n e} (h : Scan (tl s) l n e) (hs : s.size ≤ 1000000000000) : frame_Scan.f s = some (l.map ofR, (n : Int), endE e) := by
  unfold frame_Scan.f
  rw [if_pos hs, scanF_eq h]
theorem not_whole_one : ¬ Whole [0] := fun h => by have := h.1; simp at this
theorem scan_two : Scan (fr ++ fr ++ [0]) [rA, rA] 24 true := by
  have h := scan_frames (l := [rA, rA]) (fun r hr => by simp at hr; rw [hr]; exact rA_right) (.stop [0] not_whole_one)
  rw [framesL_cons, framesL_cons, framesL_nil, rA_frame] at h
  have e : (fr ++ (fr ++ [])).length + 0 = 24 := by decide
  rw [e] at h
  simpa using h
theorem scan_bad : Scan [0, 1, 120, 97, 98] [] 0 false := by
  refine .bad _ ⟨by decide, by decide⟩ ?_
  intro r hr h
  have h2 : lenOf [0, 1, 120, 97, 98] = 1 := by decide
  rw [h2] at h
  have h3 := congrArg List.length h
  rw [frame_length] at h3
  have := (body_length r hr).2
  simp at h3
  omega
theorem awake_ok : hagglerlaw04_awake.f = some true := by
  unfold hagglerlaw04_awake.f
  simp only [Option.bind_some]
  rw [enc_rA]
  simp only [Option.bind_some]
  rw [enc_zero]
  simp only [Option.bind_some]
  rw [if_pos (by decide), if_pos (by decide)]
  rw [scan_ok (s := (frB ++ frB) ++ (⟨#[0]⟩ : ByteArray)) (l := [rA, rA]) (n := 24) (e := true) (by
    have : tl ((frB ++ frB) ++ (⟨#[0]⟩ : ByteArray)) = fr ++ fr ++ [0] := by decide
    rw [this]; exact scan_two) (by decide)]
  simp only [Option.bind_some]
  rw [scan_ok (s := (⟨#[0, 1, 120, 97, 98]⟩ : ByteArray)) (l := []) (n := 0) (e := false) scan_bad (by decide)]
  simp only [Option.bind_some]
  rw [if_pos (by decide), if_pos (by decide), if_pos (by decide), if_pos (by decide +kernel), if_pos (by decide), if_pos (by decide), if_pos (by decide +kernel)]
  rw [if_pos trivial, if_pos trivial, if_pos (by decide), if_pos (by decide), if_pos (by decide), if_pos (by decide), if_pos (by decide)]
  have : frame_Right.f 3 [7, -1] ⟨#[97]⟩ = some true := by
    unfold frame_Right.f
    exact congrArg some ((rightB_iff _).2 rA_right)
  rw [this]
  simp only [Option.bind_some]
  rw [if_pos trivial, if_pos (by decide), if_pos (by decide)]
  rfl
/-! Frames, one behind the other. -/
def framesB (l : List Rec) : ByteArray := ⟨(framesL l).toArray⟩
theorem tl_framesB (l : List Rec) : tl (framesB l) = framesL l := by simp [tl, framesB]
theorem size_framesB (l : List Rec) : (framesB l).size = (framesL l).length := by show (framesL l).toArray.size = _; simp
theorem framesB_cons (r : Rec) (l : List Rec) : framesB (r :: l) = ⟨(frameL r).toArray⟩ ++ framesB l := by
  apply tl_inj
  rw [tl_framesB, framesL_cons]
  simp [tl, ByteArray.data_append, framesB]
theorem frames_short : ∀ (l : List Rec), (∀ r ∈ l, Right r) → (framesL l).length ≤ 2382 * l.length ∧ 4 * l.length ≤ (framesL l).length
  | [], _ => by simp [framesL_nil]
  | r :: l, h => by
    have h1 := body_length r (h r List.mem_cons_self)
    have h2 := frame_length r
    have h3 := frames_short l (fun q hq => h q (List.mem_cons_of_mem r hq))
    rw [framesL_cons, List.length_append, List.length_cons]
    omega
theorem frames_l0 (l : List S24) (hr : ∀ x ∈ l, Right (toR x)) (hlen : l.length ≤ 1000000000000) : ∀ (d i k : Nat) (acc : ByteArray), i + d = l.length → d + 1 ≤ k → acc.size ≤ 2382 * i →
    hagglerlaw04_frames.l0 k l acc (i : Int) = some (acc ++ framesB ((l.drop i).map toR), true) := by
  intro d
  induction d with
  | zero =>
    intro i k acc hi hk ha
    obtain ⟨k, rfl⟩ : ∃ q, k = q + 1 := ⟨k - 1, by omega⟩
    simp only [hagglerlaw04_frames.l0]
    rw [if_neg (by omega), List.drop_eq_nil_of_le (by omega)]
    congr 2
    apply tl_inj
    simp [tl, ByteArray.data_append, framesB, framesL_nil]
  | succ d ih =>
    intro i k acc hi hk ha
    obtain ⟨k, rfl⟩ : ∃ q, k = q + 1 := ⟨k - 1, by omega⟩
    have hil : i < l.length := by omega
    have r0 := hr _ (List.getElem_mem hil)
    simp only [hagglerlaw04_frames.l0]
    rw [if_pos (by omega), if_pos (by omega), rdT_get l i hil, encode_right _ r0]
    simp only [Option.bind_some]
    have h1 := body_length _ r0
    have h2 := frame_length (toR l[i])
    have e1 : (⟨(frameL (toR l[i])).toArray⟩ : ByteArray).size = (frameL (toR l[i])).length := by show (frameL _).toArray.size = _; simp
    rw [if_pos trivial, if_pos (by omega), show wrap64 ((i : Int) + 1) = ((i + 1 : Nat) : Int) by unfold wrap64; omega]
    rw [ih (i + 1) k _ (by omega) (by omega) (by rw [ByteArray.size_append]; omega)]
    rw [List.drop_eq_getElem_cons hil, List.map_cons, framesB_cons]
    congr 2
    apply tl_inj
    simp [tl, ByteArray.data_append]
theorem frames_ok (l : List S24) (hr : ∀ x ∈ l, Right (toR x)) (hlen : l.length ≤ 1000000000000) (k : Nat) (hk : l.length + 1 ≤ k) : hagglerlaw04_frames.f k l = some (framesB (l.map toR), true) := by
  unfold hagglerlaw04_frames.f
  have h := frames_l0 l hr hlen l.length 0 k ⟨#[]⟩ (by omega) hk (Nat.zero_le _)
  rw [List.drop_zero] at h
  have h0 : ((0 : Nat) : Int) = 0 := rfl
  have e : (⟨#[]⟩ : ByteArray) ++ framesB (l.map toR) = framesB (l.map toR) := by
    apply tl_inj
    simp [tl, ByteArray.data_append]
  rw [← h0, h, e]
theorem all_right {l : List S24} (h : ∀ x ∈ l, Right (toR x)) : ∀ r ∈ l.map toR, Right r := by
  intro r hr
  obtain ⟨x, hx, rfl⟩ := List.mem_map.1 hr
  exact h x hx
theorem map_of_to (l : List S24) : (l.map toR).map ofR = l := by
  rw [List.map_map]; exact List.map_id' _
theorem nums_of {l : List S24} (h : ∀ x ∈ l, Right (toR x)) : ∀ x ∈ l, x.f1.length ≤ 20 := fun x hx => (h x hx).2.2.1
theorem endE_inj {a b : Bool} : endE a = endE b ↔ a = b := by cases a <;> cases b <;> decide
/-! The law. -/
theorem rdB_get (l : List ByteArray) (i : Nat) (h : i < l.length) : rdOf ByteArray.empty l (i : Int) = l[i] := by
  unfold rdOf
  rw [Int.toNat_natCast, List.getD_eq_getElem?_getD, List.getElem?_eq_getElem h]; rfl
theorem law_l0 (b : ByteArray) (xs : List ByteArray) (hxs : ∀ x ∈ xs, x.size ≤ 4000000) (hlen : xs.length ≤ 10) : ∀ (d i k : Nat), i + d = xs.length → 50000000 + d ≤ k → hagglerlaw04_FrameAgain.l0 k true b xs (xs.length : Int) (i : Int) = some true := by
  intro d
  induction d with
  | zero =>
    intro i k hi hk
    obtain ⟨k, rfl⟩ : ∃ q, k = q + 1 := ⟨k - 1, by omega⟩
    simp only [hagglerlaw04_FrameAgain.l0]
    rw [if_neg (by omega), if_pos trivial]
    exact congrArg some (decide_eq_true (by omega))
  | succ d ih =>
    intro i k hi hk
    obtain ⟨k, rfl⟩ : ∃ q, k = q + 1 := ⟨k - 1, by omega⟩
    have hil : i < xs.length := by omega
    simp only [hagglerlaw04_FrameAgain.l0]
    rw [if_pos (by omega), if_pos (by omega), if_pos (by omega), rdB_get xs i hil]
    have hx := hxs _ (List.getElem_mem hil)
    obtain ⟨x, hxx⟩ : ∃ x, x = xs[i] := ⟨_, rfl⟩
    rw [← hxx] at hx ⊢
    obtain ⟨m, n, e, hm⟩ := scan_total (tl x).length (tl x) (Nat.le_refl _)
    obtain ⟨m1, m2, m3⟩ := scan_again hm
    rw [tl_length] at m3
    have ms := frames_short m m1
    have ml : m.length ≤ 4000000 := by
      have := congrArg List.length m2
      rw [List.length_take] at this
      omega
    rw [scan_ok hm (by omega)]
    simp only [Option.bind_some]
    have hr : ∀ y ∈ m.map ofR, Right (toR y) := by
      intro y hy
      obtain ⟨r, hr, rfl⟩ := List.mem_map.1 hy
      exact m1 r hr
    rw [frames_ok (m.map ofR) hr (by rw [List.length_map]; omega) k (by rw [List.length_map]; omega), map_to_of]
    simp only [Option.bind_some]
    rw [if_pos trivial, if_neg (by omega), if_neg (by omega), if_pos (by omega), if_pos (by omega), Int.toNat_natCast, if_pos (by
      rw [toList_data, toList_data]
      show tl (framesB m) = tl (x.extract 0 n)
      rw [tl_framesB, tl_ext, List.drop_zero, m2]), show wrap64 ((i : Int) + 1) = ((i + 1 : Nat) : Int) by unfold wrap64; omega]
    exact ih (i + 1) k (by omega) (by omega)
theorem law_ok (a0 : ByteArray) (x0 : List (List Int)) (x1 : List ByteArray) (a3 : Int) (a4 : ByteArray) (h0 : a0.size ≤ 1048576) (hx : ∀ r ∈ x0, ∀ n ∈ r, W64 n) (hx1 : x1.length ≤ 9223372036854775807) (ha : W64 a3) (h4 : a4.size ≤ 1048576) : ∃ k, hagglerlaw04_FrameAgain.f k a0 x0 x1 a3 a4 = some true := by
  obtain ⟨k, hk⟩ : ∃ k : Nat, 60000000 ≤ k := ⟨60000000, Nat.le_refl _⟩
  refine ⟨k, ?_⟩
  unfold hagglerlaw04_FrameAgain.f
  rw [awake_ok]
  simp only [Option.bind_some]
  obtain ⟨l, h1, h2, h3⟩ := records_ok x0 x1 hx hx1 k (by omega)
  rw [h1]
  simp only [Option.bind_some]
  rw [frames_ok l h2 (by omega) k (by omega)]
  simp only [Option.bind_some]
  have hs := frames_short _ (all_right h2)
  rw [List.length_map] at hs
  have hz := size_framesB (l.map toR)
  obtain ⟨B, hB⟩ : ∃ B, framesB (l.map toR) = B := ⟨_, rfl⟩
  rw [hB] at hz ⊢
  have hz2 : B.size ≤ 30000 := by omega
  rw [show wrap64 ((B.size : Int) + 1) = (B.size : Int) + 1 by unfold wrap64; omega]
  obtain ⟨p, p1, p2, p3⟩ := pick_ok a3 ((B.size : Int) + 1) ha (by omega)
  rw [p1]
  simp only [Option.bind_some]
  obtain ⟨q, rfl⟩ := Int.eq_ofNat_of_zero_le p2
  have hw : wrap64 ((q : Int) + (a4.size : Int)) = (q : Int) + (a4.size : Int) := by unfold wrap64; omega
  have m1 : 0 ≤ mn ((q : Int) + (a4.size : Int)) (B.size : Int) := by unfold mn; split <;> omega
  have m2 : mn ((q : Int) + (a4.size : Int)) (B.size : Int) ≤ (B.size : Int) := by unfold mn; split <;> omega
  have e0 : ∀ a b, (B.extract a b).size ≤ 30000 := fun a b => by rw [ByteArray.size_extract]; omega
  have e1 : ∀ a b c d, ((B.extract a b ++ a4) ++ B.extract c d).size ≤ 4000000 := fun a b c d => by
    have := e0 a b; have := e0 c d
    rw [ByteArray.size_append, ByteArray.size_append]; omega
  have e2 : ∀ a b c d, (B.extract a b ++ a4).size + (B.extract c d).size ≤ 9223372036854775807 := fun a b c d => by
    have := e0 a b; have := e0 c d
    rw [ByteArray.size_append]; omega
  have e3 : ∀ a b, (B.extract a b).size + a4.size ≤ 9223372036854775807 := fun a b => by have := e0 a b; omega
  rw [hw, if_pos p2, if_pos (by omega), if_pos (e3 _ _), if_pos m1, if_pos m2, if_pos (e2 _ _ _ _), if_pos (e2 _ _ _ _)]
  have hz0 : ((0 : Nat) : Int) = 0 := rfl
  rw [← hz0]
  refine law_l0 B _ ?_ (by simp) 4 0 k (by simp) (by omega)
  intro x hx
  simp only [List.mem_cons, List.not_mem_nil, or_false] at hx
  rcases hx with rfl | rfl | rfl | rfl
  · omega
  · omega
  · exact e1 _ _ _ _
  · exact e1 _ _ _ _
end FrameAgainP
end Go.Proofs.YthidhmfejnjdhaaDoor.Pure
