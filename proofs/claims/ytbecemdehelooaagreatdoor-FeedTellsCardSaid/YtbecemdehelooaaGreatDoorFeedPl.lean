/- What is told is read: plain Lean. -/
import Derived.Test.YtbecemdehelooaaGreatDoorFeedQ
import Derived.Test.YtbecemdehelooaaGreatDoorFeedEn
import Derived.Test.YtbecemdehelooaaGreatDoorFrameP
namespace Go.Proofs.YtbecemdehelooaaGreatDoor.FeedPl
open Go.Proofs.YtbecemdehelooaaGreatDoor.FrameS Go.Proofs.YtbecemdehelooaaGreatDoor.FrameP Go.Proofs.YtbecemdehelooaaGreatDoor.FeedG Go.Proofs.YtbecemdehelooaaGreatDoor.FeedD Go.Proofs.YtbecemdehelooaaGreatDoor.FeedT Go.Proofs.YtbecemdehelooaaGreatDoor.FeedP Go.Proofs.YtbecemdehelooaaGreatDoor.FeedQ Go.Proofs.YtbecemdehelooaaGreatDoor.FeedE Go.Proofs.YtbecemdehelooaaGreatDoor.FeedX Go.Proofs.YtbecemdehelooaaGreatDoor.FeedN Go.Proofs.YtbecemdehelooaaGreatDoor.FeedW Go.Lib
set_option linter.unusedVariables false
set_option linter.unusedSimpArgs false
theorem allB_digits (u : Nat) : allB (decDigits u) = true := by
  unfold allB
  have h1 : (decDigits u).all digB = true := by
    rw [List.all_eq_true]
    intro b hb
    have := digits_digit u b hb
    unfold digB
    rw [decide_eq_true this.1, decide_eq_true this.2]; rfl
  have h2 : (decDigits u).isEmpty = false := by
    cases h : decDigits u with
    | nil => exact absurd h (digits_ne u)
    | cons a l => rfl
  rw [h1, h2]; rfl
theorem itoa_nat (u : Nat) : itoa (u : Int) = decDigits u := by
  unfold itoa; rw [if_neg (by omega), Int.toNat_natCast]
theorem count_itoa (u : Nat) (most : Int) (h1 : (u : Int) ≤ most) (hm : most ≤ 1000000000000) : countL (itoa (u : Int)) most = u := by
  unfold countL
  have hs := itoa_short (u : Int) (by omega) (by omega)
  rw [atoiAll_itoa (u : Int) (by omega)]
  simp only
  rw [if_pos ⟨by rw [itoa_nat]; exact allB_digits u, h1, trivial⟩]
theorem three_at (m : Nat) (h : m < 100) : ∃ a b : UInt8, (itoa ((100 + m : Nat) : Int)).drop 1 = [a, b] ∧ digB a = true ∧ digB b = true ∧ a.toNat - 48 = m / 10 ∧ b.toNat - 48 = m % 10 := by
  have key : ∀ k : Fin 100, (decDigits (100 + k.val)).drop 1 = [UInt8.ofNat (48 + k.val / 10), UInt8.ofNat (48 + k.val % 10)] ∧ digB (UInt8.ofNat (48 + k.val / 10)) = true ∧ digB (UInt8.ofNat (48 + k.val % 10)) = true ∧ (UInt8.ofNat (48 + k.val / 10)).toNat - 48 = k.val / 10 ∧ (UInt8.ofNat (48 + k.val % 10)).toNat - 48 = k.val % 10 := by
    intro k
    refine ⟨?_, ?_⟩
    · have hk := k.isLt
      rw [decDigits, dif_neg (by omega), decDigits, dif_neg (by omega), decDigits_one (by omega)]
      simp only [List.cons_append, List.nil_append, List.drop_succ_cons, List.drop_zero, List.cons.injEq, and_true]
      constructor <;> congr 1 <;> omega
    · revert k
      decide
  obtain ⟨k1, k2, k3, k4, k5⟩ := key ⟨m, h⟩
  exact ⟨_, _, by rw [itoa_nat]; exact k1, k2, k3, k4, k5⟩
theorem rest_parts (u : Nat) (h : u ≤ 1000000000000) : wholeL (restL u) = itoa ((u / 100 : Nat) : Int) ∧ behindL (restL u) = (itoa ((100 + u % 100 : Nat) : Int)).drop 1 := by
  have ht : trimPrefix (restL u) [45] = restL u := by
    unfold trimPrefix hasPrefix restL
    obtain ⟨c, r, e, h1, _⟩ := digits_head (u / 100)
    rw [itoa_nat (u / 100), e, if_neg]
    simp [List.isPrefixOf, Ne.symm h1]
  have hc := cut_word 46 (itoa ((u / 100 : Nat) : Int)) ((itoa ((100 + u % 100 : Nat) : Int)).drop 1) (by
    intro b hb
    rw [itoa_nat] at hb
    have := digits_digit _ b hb
    rintro rfl
    simp at this)
  unfold wholeL behindL
  rw [ht]
  unfold restL
  rw [hc]
  exact ⟨rfl, rfl⟩
theorem size_rest (u : Nat) (h : u ≤ 1000000000000) : sizeL (restL u) = (u : Int) ∧ 0 ≤ countL (wholeL (restL u)) 10000000000 ∧ (behindL (restL u)).length = 2 ∧ allB (behindL (restL u)) = true := by
  obtain ⟨h1, h2⟩ := rest_parts u h
  obtain ⟨a, b, e, d1, d2, v1, v2⟩ := three_at (u % 100) (by omega)
  have hc := count_itoa (u / 100) 10000000000 (by omega) (by decide)
  refine ⟨?_, ?_, ?_, ?_⟩
  · unfold sizeL
    rw [h1, h2, hc, e]
    show ((u / 100 : Nat) : Int) * 100 + ((a.toNat - 48 : Nat) : Int) * 10 + ((b.toNat - 48 : Nat) : Int) = _
    rw [v1, v2]; omega
  · rw [h1, hc]; omega
  · rw [h2, e]; rfl
  · rw [h2, e]
    unfold allB
    simp [d1, d2]
/-- A price's text is read to the price. -/
theorem parse_text (u : Nat) (h : u ≤ 1000000000000) : parseL (textL (u : Int)) = ((u : Int), 0) := by
  have hin : InMoney (u : Int) = true := by unfold InMoney; rw [decide_eq_true (by omega), decide_eq_true (by omega)]; rfl
  have ht : textL (u : Int) = restL u := by unfold textL; rw [if_pos hin, if_neg (by omega)]; rfl
  obtain ⟨h1, h2, h3, h4⟩ := size_rest u h
  have hh : (restL u).head? ≠ some 45 := by
    unfold restL
    obtain ⟨c, r, e, n1, _⟩ := digits_head (u / 100)
    rw [itoa_nat (u / 100), e]
    simpa using n1
  have ha : amountL (restL u) = (u : Int) := by unfold amountL; rw [if_neg hh, h1]
  rw [ht, parse_yes (by unfold parseB; rw [decide_eq_true h2, decide_eq_true h3, h4, ha, ht]; simp), ha]
theorem text_not_gone (u : Nat) (h : u ≤ 1000000000000) : textL (u : Int) ≠ goneL := by
  intro e
  have := parse_text u h
  rw [e] at this
  have h2 : (parseL goneL).2 = 20 := by
    unfold parseL
    rw [if_neg]
    unfold parseB
    have : countL (wholeL goneL) 10000000000 = -1 := by decide +kernel
    rw [this]; simp
  rw [this] at h2
  simp at h2
/-- What a line's price is told as is read to it. -/
theorem price_text (u : Nat) (h : u ≤ 1000000000000) : priceL (tl (priceT (u : Int))) = (u : Int) := by
  unfold priceT
  by_cases h0 : u = 0
  · subst h0
    rw [if_neg (by omega)]
    rfl
  · rw [if_pos (by omega)]
    have e : tl (⟨(textL (u : Int)).toArray⟩ : ByteArray) = textL (u : Int) := by simp [tl]
    rw [e]
    unfold priceL
    rw [if_neg (text_not_gone u h), parse_text u h, if_pos ⟨rfl, by simp; omega⟩]
/-! No blanks. -/
theorem runL_full (some_ : List UInt8) : ∀ (l : List UInt8), runL some_ l = l.length → ∀ b ∈ l, inB some_ b = true
  | [], _ => fun b hb => by cases hb
  | a :: l, h => by
    unfold runL at h
    cases ha : inB some_ a with
    | false => simp [List.takeWhile, ha] at h
    | true =>
      simp only [List.takeWhile, ha, List.length_cons, Nat.add_right_cancel_iff] at h
      intro b hb
      rcases List.mem_cons.1 hb with rfl | hb
      · exact ha
      · exact runL_full some_ l h b hb
theorem low_blank : inB (tl lowB) 32 = false := by decide +kernel
theorem name_noblank {s : ByteArray} (h : nameB s = true) : ∀ b ∈ tl s, b ≠ 32 := by
  unfold nameB at h
  simp only [Bool.and_eq_true, decide_eq_true_eq] at h
  have hl := tl_length s
  have := runL_full (tl lowB) (tl s) (by rw [h.1.2, hl])
  rintro b hb rfl
  have h2 := this 32 hb
  rw [low_blank] at h2
  cases h2
theorem itoa_noblank (n : Int) : ∀ b ∈ itoa n, b ≠ 32 := fun b hb => (num_not (itoa_num n b hb)).1
theorem price_noblank (u : Nat) (h : u ≤ 1000000000000) : ∀ b ∈ tl (priceT (u : Int)), b ≠ 32 := by
  unfold priceT
  by_cases h0 : u = 0
  · subst h0
    rw [if_neg (by omega)]
    decide
  · rw [if_pos (by omega)]
    have e : tl (⟨(textL (u : Int)).toArray⟩ : ByteArray) = textL (u : Int) := by simp [tl]
    have hin : InMoney (u : Int) = true := by unfold InMoney; rw [decide_eq_true (by omega), decide_eq_true (by omega)]; rfl
    have ht : textL (u : Int) = restL u := by unfold textL; rw [if_pos hin, if_neg (by omega)]; rfl
    rw [e, ht]
    intro b hb
    unfold restL at hb
    rcases List.mem_append.1 hb with hb | hb
    · exact itoa_noblank _ b hb
    · rcases List.mem_cons.1 hb with rfl | hb
      · decide
      · exact itoa_noblank _ b (List.mem_of_mem_drop hb)
/-- A line's text, split at its blanks. -/
theorem line_split (so sk se : ByteArray) (n : Int) (u : Nat) (h0 : nameB so = true) (h1 : nameB sk = true) (h2 : nameB se = true) (hu : u ≤ 1000000000000) :
    splitK [32] 0 (count (lineL so sk se n (u : Int)) [32]) (lineL so sk se n (u : Int)) = [tl so, itoa n, tl sk, tl se, tl (priceT (u : Int))] := by
  have hn : tl (⟨(itoa n).toArray⟩ : ByteArray) = itoa n := by simp [tl]
  have e : lineL so sk se n (u : Int) = tl so ++ joinTail [32] [itoa n, tl sk, tl se, tl (priceT (u : Int))] := by
    unfold lineL lineT
    rw [List.map_cons, join_cons]
    simp only [List.map_cons, List.map_nil, hn]
  have hb : ∀ y ∈ [itoa n, tl sk, tl se, tl (priceT (u : Int))], ∀ b ∈ y, b ≠ 32 := by
    intro y hy
    simp only [List.mem_cons, List.not_mem_nil, or_false] at hy
    rcases hy with rfl | rfl | rfl | rfl
    · exact itoa_noblank n
    · exact name_noblank h1
    · exact name_noblank h2
    · exact price_noblank u hu
  rw [e, count_words 32 _ _ (name_noblank h0) hb]
  exact split_words 32 _ _ (name_noblank h0) hb
end Go.Proofs.YtbecemdehelooaaGreatDoor.FeedPl
