/- For every input FrameTells answers true, in plain Lean. -/
import Derived.Test.YthidhmfejnjdhaaDoorPureTellsB
namespace Go.Proofs.YthidhmfejnjdhaaDoor.Pure
open Go.RowKit Go.Proofs.YthidhmfejnjdhaaDoor.HFrameTells Go.Proofs.YthidhmfejnjdhaaDoorW.PrintWords Go.Proofs.YthidhmfejnjdhaaDoorW.PrintLast Go.Proofs.YthidhmfejnjdhaaDoorW.PrintMore
set_option linter.unusedVariables false
set_option linter.unusedSimpArgs false
open Go.Proofs.YthidhmfejnjdhaaDoor.FrameS Go.Proofs.YthidhmfejnjdhaaDoor.FrameC Go.Proofs.YthidhmfejnjdhaaDoor.FrameP
namespace FrameTellsP
/-! A body, read. -/
theorem bounded {q : Rec} (hq : Right q) {m : Int} (hm : m ∈ q.kind :: q.nums) : (Lib.itoa m).length < 18 := by
  obtain ⟨h1, h2, h3, h4, h5⟩ := hq
  rcases List.mem_cons.1 hm with rfl | h
  · have := itoa_short q.kind (by omega) (by omega); omega
  · have ho := odd_in h4 h
    have := itoa_short m ho.1 ho.2; omega
set_option maxHeartbeats 2000000 in
theorem record_loop (b : ByteArray) (hb : b.size ≤ 100000) : ∀ (d i k fr : Nat) (ps : List Int) (kind : Int) (nums : List Int), i + d = b.size → fr ≤ i → 2 * d + 200000 ≤ k → (tl b).take fr = Wd ps → (fr = 0 → ps = [] ∧ nums = []) → (fr ≠ 0 → ps = kind :: nums) → (∀ c ∈ ((tl b).take i).drop fr, noSep c = true) → nums.length ≤ i →
    ∃ (r : Rec) (ok : Bool), hagglerref04_record.l0 k b (fr : Int) (i : Int) kind nums (⟨#[]⟩ : ByteArray) = some (r.kind, r.nums, r.text, ok) ∧ (ok = true → Right r ∧ tl b = bodyL r) ∧ (ok = false → ∀ q, Right q → tl b ≠ bodyL q) := by
  have hlb := tl_length b
  intro d
  induction d with
  | zero =>
    intro i k fr ps kind nums hi hf hk hW h0 h1 hsep hln
    obtain ⟨k, rfl⟩ : ∃ q, k = q + 1 := ⟨k - 1, by omega⟩
    simp only [hagglerref04_record.l0]
    rw [if_neg (by omega)]
    refine ⟨⟨kind, nums, ⟨#[]⟩⟩, false, rfl, fun h => by simp at h, fun _ q hq he => ?_⟩
    have hmem : (58 : UInt8) ∈ tl b := by rw [he]; unfold bodyL; simp
    rw [← List.take_append_drop fr (tl b), List.mem_append, hW] at hmem
    rcases hmem with h | h
    · exact Wd_no58 ps _ h rfl
    · have := hsep 58 (by rw [List.take_of_length_le (by omega)]; exact h)
      exact absurd this (by decide)
  | succ d ih =>
    intro i k fr ps kind nums hi hf hk hW h0 h1 hsep hln
    obtain ⟨k, rfl⟩ : ∃ q, k = q + 2 := ⟨k - 2, by omega⟩
    have hil : i < (tl b).length := by omega
    have hbt := bt_val b i (by omega) hil
    obtain ⟨c, hc⟩ : ∃ c, (tl b)[i] = c := ⟨_, rfl⟩
    rw [hc] at hbt
    have hdrop : (tl b).drop fr = ((tl b).take i).drop fr ++ c :: (tl b).drop (i + 1) := by
      have e1 : tl b = (tl b).take i ++ c :: (tl b).drop (i + 1) := by rw [← hc, List.getElem_cons_drop, List.take_append_drop]
      conv => lhs; rw [e1]
      rw [List.drop_append_of_le_length (by rw [List.length_take]; omega)]
    have hseg : tl (b.extract fr i) = ((tl b).take i).drop fr := tl_ext b fr i
    have hall : tl b = Wd ps ++ (((tl b).take i).drop fr ++ c :: (tl b).drop (i + 1)) := by rw [← hdrop, ← hW, List.take_append_drop]
    have hsepcase : (c = 32 ∨ c = 58) → ∃ (r : Rec) (ok : Bool), hagglerref04_record.j1 (k + 1) b (fr : Int) (i : Int) false kind nums (⟨#[]⟩ : ByteArray) = some (r.kind, r.nums, r.text, ok) ∧ (ok = true → Right r ∧ tl b = bodyL r) ∧ (ok = false → ∀ q, Right q → tl b ≠ bodyL q) := by
      intro hcc
      have g0 : nums.length < 17592186044416 := Nat.lt_of_le_of_lt (show nums.length ≤ 100000 by omega) (by decide)
      have g2 : (0 : Int) ≤ (i : Int) := by omega
      have g3 : (i : Int) < (b.size : Int) := by omega
      have g4 : (0 : Int) ≤ ((i + 1 : Nat) : Int) := by omega
      have g5 : ((i + 1 : Nat) : Int) ≤ (b.size : Int) := by omega
      have g6 : i + 1 + d = b.size := by omega
      have g7 : 2 * d + 200000 ≤ k := by omega
      have g8 : nums.length + 1 ≤ i + 1 := by omega
      have g9 : fr = 0 → (fr : Int) = 0 := fun h => by omega
      have g10 : ¬ fr = 0 → ¬ (fr : Int) = 0 := fun h e => h (Int.natCast_eq_zero.1 e)
      have hcs : noSep c = false := by rcases hcc with rfl | rfl <;> decide
      obtain ⟨n, ok2, e2, s1, s2⟩ := number_ok (b.extract fr i) k (by omega)
      simp only [hagglerref04_record.j1]
      rw [if_neg (by decide), if_pos (by omega), if_pos (by omega), if_pos (by omega), Int.toNat_natCast, Int.toNat_natCast, e2]
      simp only [Option.bind_some]
      cases ok2 with
      | false =>
        rw [if_neg (by decide)]
        refine ⟨⟨kind, nums, ⟨#[]⟩⟩, false, rfl, fun h => by simp at h, fun _ q hq he => ?_⟩
        rw [hall, body_Bd] at he
        obtain ⟨m, us, e3, e4⟩ := Wd_pre ps _ _ _ (by simp) he
        obtain ⟨c', u, e5, e6, _⟩ := Bd_first m us (tl q.text)
        rw [e5] at e4
        obtain ⟨e7, _, _⟩ := upto_unique hsep (num_noSep m) hcs e6 e4
        have hm : m ∈ q.kind :: q.nums := by rw [e3]; simp
        have := s2 m (by rw [hseg, e7]) (by rw [← tl_length, hseg, e7]; exact bounded hq hm)
        simp at this
      | true =>
        obtain ⟨s3, _, _⟩ := s1 rfl
        rw [hseg] at s3
        rw [if_pos rfl]
        -- what a colon ends
        have h58 : c = 58 → ∀ (kk : Int) (nn : List Int), kk :: nn = ps ++ [n] → nn.length ≤ i + 1 → ∃ (r : Rec) (ok : Bool), ((hagglerref04_Right.f k kk nn (b.extract (i + 1) b.size)).bind fun t => some (kk, nn, b.extract (i + 1) b.size, t)) = some (r.kind, r.nums, r.text, ok) ∧ (ok = true → Right r ∧ tl b = bodyL r) ∧ (ok = false → ∀ q, Right q → tl b ≠ bodyL q) := by
          intro h58 kk nn hkn hnl
          have htx : tl (b.extract (i + 1) b.size) = (tl b).drop (i + 1) := by rw [tl_ext, List.take_of_length_le (by omega)]
          rw [Right_ok kk nn _ (by omega) k (by omega)]
          have hbody : tl b = bodyL ⟨kk, nn, b.extract (i + 1) b.size⟩ := by
            rw [body_Bd]
            show tl b = Bd (kk :: nn) (tl (b.extract (i + 1) b.size))
            rw [hkn, Bd_snoc, htx, ← s3, ← h58]; exact hall
          refine ⟨⟨kk, nn, b.extract (i + 1) b.size⟩, _, rfl, fun h => ⟨(rightB_iff _).1 h, hbody⟩, fun h q hq he => ?_⟩
          rw [hbody] at he
          rw [bodyL_inj he, (rightB_iff _).2 hq] at h
          simp at h
        have h32 : c = 32 → (tl b).take (i + 1) = Wd (ps ++ [n]) := by
          intro h32
          rw [Wd_snoc, ← s3, ← hW, ← h32, ← hc]
          have e1 : (tl b).take (i + 1) = (tl b).take i ++ [(tl b)[i]] := by rw [List.take_add_one, List.getElem?_eq_getElem hil]; rfl
          have e2 : (tl b).take fr = ((tl b).take i).take fr := by rw [List.take_take]; congr 1; omega
          rw [e1, ← List.append_assoc, e2, List.take_append_drop]
        have hnil : ∀ x ∈ ((tl b).take (i + 1)).drop (i + 1), noSep x = true := by
          intro x hx
          rw [List.drop_eq_nil_of_le (by rw [List.length_take]; omega)] at hx
          cases hx
        have hw : wrap64 ((i : Int) + 1) = ((i + 1 : Nat) : Int) := by unfold wrap64; omega
        by_cases hfr : fr = 0
        · obtain ⟨p1, p2⟩ := h0 hfr
          subst p1; subst p2
          rw [if_pos (g9 hfr), if_pos g2, if_pos g3, hbt, hw]
          by_cases hc58 : c = 58
          · rw [if_pos (by rw [hc58]; rfl), if_pos g4, if_pos g5, Int.toNat_natCast]
            exact h58 hc58 n [] rfl (Nat.zero_le _)
          · have hc32 : c = 32 := hcc.resolve_right hc58
            rw [if_neg (by rw [hc32]; decide)]
            exact ih (i + 1) k (i + 1) [n] n [] g6 (Nat.le_refl _) g7 (h32 hc32) (fun h => absurd h (Nat.succ_ne_zero i)) (fun _ => rfl) hnil (Nat.zero_le _)
        · have hps := h1 hfr
          have hln2 : (nums ++ [n]).length ≤ i + 1 := by rw [List.length_append]; exact g8
          rw [if_neg (g10 hfr), if_pos g0, if_pos g2, if_pos g3, hbt, hw]
          by_cases hc58 : c = 58
          · rw [if_pos (by rw [hc58]; rfl), if_pos g4, if_pos g5, Int.toNat_natCast]
            exact h58 hc58 kind (nums ++ [n]) (by rw [hps]; rfl) hln2
          · have hc32 : c = 32 := hcc.resolve_right hc58
            rw [if_neg (by rw [hc32]; decide)]
            exact ih (i + 1) k (i + 1) (ps ++ [n]) kind (nums ++ [n]) g6 (Nat.le_refl _) g7 (h32 hc32) (fun h => absurd h (Nat.succ_ne_zero i)) (fun _ => by rw [hps]; rfl) hnil hln2
    simp only [hagglerref04_record.l0]
    rw [if_pos (by omega), if_pos (by omega), hbt]
    by_cases hc32 : c = 32
    · rw [if_pos (by rw [hc32]; rfl)]
      exact hsepcase (.inl hc32)
    · rw [if_neg (fun h => hc32 (UInt8.toNat_inj.1 (by show c.toNat = 32; omega)))]
      by_cases hc58 : c = 58
      · rw [show ((c.toNat : Int) != 58) = false by rw [hc58]; rfl]
        exact hsepcase (.inr hc58)
      · rw [show ((c.toNat : Int) != 58) = true from bne_iff_ne.2 (fun h => hc58 (UInt8.toNat_inj.1 (by show c.toNat = 58; omega)))]
        simp only [hagglerref04_record.j1]
        rw [if_pos trivial, show wrap64 ((i : Int) + 1) = ((i + 1 : Nat) : Int) by unfold wrap64; omega]
        refine ih (i + 1) k fr ps kind nums (by omega) (by omega) (by omega) hW h0 h1 ?_ (by omega)
        intro x hx
        have e1 : (tl b).take (i + 1) = (tl b).take i ++ [c] := by rw [List.take_add_one, List.getElem?_eq_getElem hil, hc]; rfl
        rw [e1, List.drop_append_of_le_length (by rw [List.length_take]; omega), List.mem_append] at hx
        rcases hx with hx | hx
        · exact hsep x hx
        · rw [List.mem_singleton.1 hx]
          unfold noSep
          simp [hc32, hc58]
theorem record_ok (b : ByteArray) (hb : b.size ≤ 100000) (k : Nat) (hk : 500000 ≤ k) : ∃ (r : Rec) (ok : Bool), hagglerref04_record.f k b = some (r.kind, r.nums, r.text, ok) ∧ (ok = true → Right r ∧ tl b = bodyL r) ∧ (ok = false → ∀ q, Right q → tl b ≠ bodyL q) :=
  record_loop b hb b.size 0 k 0 [] 0 [] (by omega) (Nat.le_refl _) (by omega) rfl (fun _ => ⟨rfl, rfl⟩) (fun h => absurd rfl h) (fun c h => by simp at h) (Nat.le_refl _)
end FrameTellsP
end Go.Proofs.YthidhmfejnjdhaaDoor.Pure
