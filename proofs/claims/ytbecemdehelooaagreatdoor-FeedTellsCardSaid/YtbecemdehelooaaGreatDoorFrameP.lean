/- A body, cut and split: what comes of it. No program in sight. -/
import Derived.Test.YtbecemdehelooaaGreatDoorFrameS
import Derived.Lib.SplitLaws
namespace Go.Proofs.YtbecemdehelooaaGreatDoor.FrameP
open Go.Lib Go.Proofs.YtbecemdehelooaaGreatDoor.FrameS
set_option linter.unusedVariables false
set_option linter.unusedSimpArgs false

theorem index_word (c : UInt8) : ∀ (x : List UInt8) (t : List UInt8), (∀ b ∈ x, b ≠ c) → index (x ++ c :: t) [c] = x.length
  | [], t, _ => by simp [index, List.isPrefixOf]
  | b :: x, t, h => by
    have hb : b ≠ c := h b List.mem_cons_self
    have ih := index_word c x t (fun y hy => h y (List.mem_cons_of_mem _ hy))
    have e : ((x.length : Int) == -1) = false := by rw [beq_eq_false_iff_ne]; omega
    simp only [List.cons_append, index]
    rw [ih, e]
    have hp : List.isPrefixOf [c] (b :: (x ++ c :: t)) = false := by simp [List.isPrefixOf, Ne.symm hb]
    rw [hp]
    simp
theorem index_without (c : UInt8) : ∀ (x : List UInt8), (∀ b ∈ x, b ≠ c) → index x [c] = -1
  | [], _ => rfl
  | b :: x, h => by
    have hb : b ≠ c := h b List.mem_cons_self
    have ih := index_without c x (fun y hy => h y (List.mem_cons_of_mem _ hy))
    simp only [index]
    have hp : List.isPrefixOf [c] (b :: x) = false := by simp [List.isPrefixOf, Ne.symm hb]
    rw [hp, ih]; rfl
theorem cut_word (c : UInt8) (x t : List UInt8) (h : ∀ b ∈ x, b ≠ c) : cut (x ++ c :: t) [c] = (x, t, true) := by
  unfold cut
  rw [index_word c x t h, if_pos (by omega), Int.toNat_natCast, List.take_left]
  congr 1
  have : x.length + [c].length = x.length + 1 := rfl
  rw [this, List.drop_append]
  simp
theorem joinTail_cons' (c : UInt8) (y : List UInt8) (ys : List (List UInt8)) : joinTail [c] (y :: ys) = c :: (y ++ joinTail [c] ys) := by simp [joinTail]
theorem count_words (c : UInt8) : ∀ (ys : List (List UInt8)) (x : List UInt8), (∀ b ∈ x, b ≠ c) → (∀ y ∈ ys, ∀ b ∈ y, b ≠ c) → count (x ++ joinTail [c] ys) [c] = ys.length
  | [], x, hx, _ => by
    have : joinTail [c] [] = [] := rfl
    rw [this, List.append_nil, count_miss (index_without c x hx)]; rfl
  | y :: ys, x, hx, hy => by
    rw [joinTail_cons', count_hit (by simp) (index_word c x _ hx)]
    have : x.length + [c].length = x.length + 1 := rfl
    rw [this, List.drop_append, List.drop_eq_nil_of_le (by omega), List.nil_append, show x.length + 1 - x.length = 1 by omega]
    have ih := count_words c ys y (hy y List.mem_cons_self) (fun z hz => hy z (List.mem_cons_of_mem _ hz))
    show 1 + count (y ++ joinTail [c] ys) [c] = _
    rw [ih, List.length_cons]; omega
theorem split_words (c : UInt8) : ∀ (ys : List (List UInt8)) (x : List UInt8), (∀ b ∈ x, b ≠ c) → (∀ y ∈ ys, ∀ b ∈ y, b ≠ c) → splitK [c] 0 ys.length (x ++ joinTail [c] ys) = x :: ys
  | [], x, hx, _ => by
    have : joinTail [c] [] = [] := rfl
    rw [this, List.append_nil]; rfl
  | y :: ys, x, hx, hy => by
    rw [joinTail_cons', List.length_cons]
    unfold splitK
    have hi := index_word c x (y ++ joinTail [c] ys) hx
    have e : ((index (x ++ c :: (y ++ joinTail [c] ys)) [c]) == -1) = false := by rw [hi, beq_eq_false_iff_ne]; omega
    rw [e, hi, Int.toNat_natCast]
    have ih := split_words c ys y (hy y List.mem_cons_self) (fun z hz => hy z (List.mem_cons_of_mem _ hz))
    have : x.length + [c].length = x.length + 1 := rfl
    rw [this, List.drop_append, List.drop_eq_nil_of_le (by omega), List.nil_append, show x.length + 1 - x.length = 1 by omega]
    simp only [Bool.false_eq_true, if_false, Nat.add_zero, List.take_left]
    show x :: splitK [c] 0 ys.length (y ++ joinTail [c] ys) = _
    rw [ih]

theorem num_not {b : UInt8} (h : Num b = true) : b ≠ 32 ∧ b ≠ 58 := by
  constructor
  · rintro rfl; exact absurd h (by decide)
  · rintro rfl; exact absurd h (by decide)
theorem word_not {b : UInt8} (h : Word b = true) : b ≠ 58 := by
  rintro rfl; exact absurd h (by decide)
theorem body_cut (q : Rec) : cut (bodyL q) [58] = (headL q, tl q.text, true) :=
  cut_word 58 (headL q) (tl q.text) (fun b hb => word_not (headL_word q b hb))
theorem head_split (q : Rec) : splitK [32] 0 (count (headL q) [32]) (headL q) = (q.kind :: q.nums).map itoa := by
  have e : headL q = itoa q.kind ++ joinTail [32] (q.nums.map itoa) := headL_eq q
  have h1 : ∀ b ∈ itoa q.kind, b ≠ 32 := fun b hb => (num_not (itoa_num _ b hb)).1
  have h2 : ∀ y ∈ q.nums.map itoa, ∀ b ∈ y, b ≠ 32 := by
    intro y hy b hb
    obtain ⟨n, _, rfl⟩ := List.mem_map.1 hy
    exact (num_not (itoa_num _ b hb)).1
  rw [e, count_words 32 _ _ h1 h2, split_words 32 _ _ h1 h2]
  rfl

/-- The head of a body, its words, and what stands behind. -/
def headB (b : ByteArray) : ByteArray := ⟨(cut (tl b) [58]).1.toArray⟩
def textB (b : ByteArray) : ByteArray := ⟨(cut (tl b) [58]).2.1.toArray⟩
def sp : ByteArray := ⟨#[32]⟩
def wordsB (h : ByteArray) : List ByteArray := splitB sp 0 (countB h sp) h
theorem words_length (h : ByteArray) : (wordsB h).length = countB h sp + 1 := splitB_all sp (by decide) 0 _ h rfl
theorem words_tl (h : ByteArray) : (wordsB h).map tl = splitK [32] 0 (count (tl h) [32]) (tl h) := splitB_data sp 0 _ h
theorem tl_mk (l : List UInt8) : tl ⟨l.toArray⟩ = l := by simp [tl]
/-- A record's body is read as that record. -/
theorem body_read (b : ByteArray) (q : Rec) (h : bodyL q = tl b) : textB b = q.text ∧ (wordsB (headB b)).map tl = (q.kind :: q.nums).map itoa := by
  have hc := body_cut q
  rw [h] at hc
  constructor
  · apply tl_inj
    unfold textB
    rw [hc, tl_mk]
  · rw [words_tl]
    have : tl (headB b) = headL q := by unfold headB; rw [hc, tl_mk]
    rw [this, head_split]
theorem word_size (h w : ByteArray) (hw : w ∈ wordsB h) : w.size ≤ h.size := by
  have key : ∀ k s, ∀ x ∈ splitB sp 0 k s, x.size ≤ s.size := by
    intro k
    induction k with
    | zero =>
      intro s x hx
      rw [splitB_zero] at hx
      rw [List.mem_singleton.1 hx]; exact Nat.le_refl _
    | succ k ih =>
      intro s x hx
      unfold splitB at hx
      split at hx
      · rw [List.mem_singleton.1 hx]; exact Nat.le_refl _
      · rcases List.mem_cons.1 hx with hx | hx
        · rw [hx, ByteArray.size_extract]; omega
        · have := ih _ x hx
          rw [ByteArray.size_extract] at this; omega
  exact key _ h w hw
theorem cut_size (b : ByteArray) : (headB b).size ≤ b.size ∧ (textB b).size ≤ b.size := by
  have hl := tl_length b
  unfold headB textB cut
  split
  · show (List.take _ (tl b)).toArray.size ≤ _ ∧ (List.drop _ (tl b)).toArray.size ≤ _
    simp only [List.size_toArray, List.length_take, List.length_drop]; omega
  · show (tl b).toArray.size ≤ _ ∧ ([] : List UInt8).toArray.size ≤ _
    simp only [List.size_toArray, List.length_nil]; omega
theorem count_size (h : ByteArray) : countB h sp ≤ h.size + 1 := by
  have := count_le (tl h) [32]
  rw [tl_length] at this
  exact this
/-- How a word is read. -/
def readW (w : ByteArray) : NumEnd Int := atoiAll (tl w)
theorem read_itoa (w : ByteArray) (n : Int) (h : tl w = itoa n) (h0 : -1125899906842624 ≤ n) (h1 : n ≤ 1125899906842624) : readW w = .ok n := by
  unfold readW
  rw [h]
  exact atoiAll_itoa n (by have := itoa_short n h0 h1; omega)
theorem odd_in {l : List Int} (h : l.any Odd = false) {n : Int} (hn : n ∈ l) : -1125899906842624 ≤ n ∧ n ≤ 1125899906842624 := by
  rw [List.any_eq_false] at h
  have := h n hn
  unfold Odd at this
  simp only [Bool.or_eq_true, decide_eq_true_eq, not_or] at this
  omega
/-- Each word of a right record's body is read. -/
theorem words_read (b : ByteArray) (q : Rec) (hq : Right q) (h : bodyL q = tl b) : (wordsB (headB b)).map readW = (q.kind :: q.nums).map .ok := by
  have hw := (body_read b q h).2
  have hin : ∀ n ∈ q.kind :: q.nums, -1125899906842624 ≤ n ∧ n ≤ 1125899906842624 := by
    intro n hn
    rcases List.mem_cons.1 hn with rfl | hn
    · have := hq.1; have := hq.2.1; omega
    · exact odd_in hq.2.2.2.1 hn
  generalize wordsB (headB b) = ws at hw
  generalize q.kind :: q.nums = ns at hw hin
  induction ws generalizing ns with
  | nil =>
    cases ns with
    | nil => rfl
    | cons n ns => simp at hw
  | cons w ws ih =>
    cases ns with
    | nil => simp at hw
    | cons n ns =>
      simp only [List.map_cons, List.cons.injEq] at hw ⊢
      have := hin n List.mem_cons_self
      exact ⟨read_itoa w n hw.1 this.1 this.2, ih ns hw.2 (fun m hm => hin m (List.mem_cons_of_mem _ hm))⟩
/-- What was read of some words. -/
def Got (ws : List ByteArray) (ns : List Int) : Prop := ws.map readW = ns.map .ok
theorem got_snoc {ws : List ByteArray} {ns : List Int} {k : Nat} (hk : k < ws.length) (h : Got (ws.take k) ns) {n : Int} (hn : readW (ws[k]) = .ok n) : Got (ws.take (k + 1)) (ns ++ [n]) := by
  unfold Got at *
  rw [List.take_add_one, List.getElem?_eq_getElem hk, List.map_append, h, List.map_append]
  simp only [Option.toList_some, List.map_cons, List.map_nil, hn]
theorem got_length {ws : List ByteArray} {ns : List Int} (h : Got ws ns) : ns.length = ws.length := by
  have := congrArg List.length h
  simpa using this.symm
/-- A word that is none: the body is no record's. -/
theorem not_read {b : ByteArray} {k : Nat} (hk : k < (wordsB (headB b)).length) (hn : ∀ n, readW ((wordsB (headB b))[k]) ≠ .ok n) (q : Rec) (hq : Right q) : bodyL q ≠ tl b := by
  intro h
  have := words_read b q hq h
  have e := congrArg (fun l => l[k]?) this
  simp only [List.getElem?_map, List.getElem?_eq_getElem hk, Option.map_some] at e
  have hl : k < (q.kind :: q.nums).length := by
    have := congrArg List.length this
    simp only [List.length_map] at this
    omega
  rw [List.getElem?_eq_getElem hl] at e
  simp only [Option.map_some, Option.some.injEq] at e
  exact hn _ e
/-- All words were read: the body is that record's, or none's. -/
theorem all_read {b : ByteArray} {kind : Int} {nums : List Int} (h : Got (wordsB (headB b)) (kind :: nums)) (q : Rec) (hq : Right q) (hb : bodyL q = tl b) : q = ⟨kind, nums, textB b⟩ := by
  have h1 := words_read b q hq hb
  have h2 := (body_read b q hb).1
  unfold Got at h
  rw [h] at h1
  simp only [List.map_cons, List.cons.injEq, NumEnd.ok.injEq] at h1
  have h3 : nums = q.nums := by
    have inj : ∀ (a b : List Int), a.map (NumEnd.ok (α := Int)) = b.map .ok → a = b := by
      intro a
      induction a with
      | nil => intro b h; cases b with | nil => rfl | cons y b => simp at h
      | cons x a ih =>
        intro b h
        cases b with
        | nil => simp at h
        | cons y b =>
          simp only [List.map_cons, List.cons.injEq, NumEnd.ok.injEq] at h
          rw [h.1, ih b h.2]
    exact inj _ _ h1.2
  cases q
  simp only at h1 h2 h3
  rw [h1.1, h2, h3]

/-! The parts of a frame. -/
theorem two_lenOf (s : List UInt8) (h : 2 ≤ s.length) : two (lenOf s) = s.take 2 := by
  obtain ⟨a, b, r, rfl⟩ : ∃ a b r, s = a :: b :: r := by
    match s, h with
    | a :: b :: r, _ => exact ⟨a, b, r, rfl⟩
  unfold two lenOf
  have := a.toNat_lt
  have := b.toNat_lt
  simp only [List.getD_cons_zero, List.getD_cons_succ, List.take_succ_cons, List.take_zero, List.cons.injEq, and_true]
  constructor
  · apply UInt8.toNat_inj.1; rw [UInt8.toNat_ofNat']; omega
  · apply UInt8.toNat_inj.1; rw [UInt8.toNat_ofNat']; omega
theorem frame_parts {s : List UInt8} {q : Rec} (hw : Whole s) (hq : Right q) (h : s.take (lenOf s + 4) = frameL q) :
    (s.take (lenOf s + 2)).drop 2 = bodyL q ∧ sumB (s.take (lenOf s + 2)) = (s.take (lenOf s + 4)).drop (lenOf s + 2) := by
  have hl : (s.take (lenOf s + 4)).length = lenOf s + 4 := by rw [List.length_take]; have := hw.2; omega
  have hb : (bodyL q).length = lenOf s := by rw [h, frame_length] at hl; omega
  have e : s.take (lenOf s + 2) = two (bodyL q).length ++ bodyL q := by
    have : s.take (lenOf s + 2) = (s.take (lenOf s + 4)).take (lenOf s + 2) := by rw [List.take_take]; congr 1; omega
    rw [this, h]
    unfold frameL wrapL
    exact List.take_left' (by simp [two_length]; omega)
  constructor
  · rw [e]; rfl
  · rw [e, h]
    unfold frameL wrapL
    exact (List.drop_left' (by simp [two_length]; omega)).symm
theorem frame_of_parts {s : List UInt8} {q : Rec} (hw : Whole s) (h1 : bodyL q = (s.take (lenOf s + 2)).drop 2) (h2 : sumB (s.take (lenOf s + 2)) = (s.take (lenOf s + 4)).drop (lenOf s + 2)) :
    s.take (lenOf s + 4) = frameL q := by
  have h4 := hw.2
  have hb : (bodyL q).length = lenOf s := by rw [h1, List.length_drop, List.length_take]; omega
  have e : s.take (lenOf s + 2) = two (bodyL q).length ++ bodyL q := by
    rw [hb, two_lenOf s hw.1, h1]
    have : s.take 2 = (s.take (lenOf s + 2)).take 2 := by rw [List.take_take, show min 2 (lenOf s + 2) = 2 by omega]
    rw [this, List.take_append_drop]
  unfold frameL wrapL
  rw [← e, h2]
  have : s.take (lenOf s + 2) = (s.take (lenOf s + 4)).take (lenOf s + 2) := by rw [List.take_take]; congr 1; omega
  rw [this, List.take_append_drop]
/-- One frame more: what is scanned goes on behind it. -/
theorem scan_on {s left : List UInt8} {l : List Rec} {n : Nat} (HS : ∀ m k f, Scan left m k f → Scan s (l ++ m) (n + k) f) {q : Rec} (hq : Right q) (h : left.take (lenOf left + 4) = frameL q) :
    ∀ m k f, Scan (left.drop (lenOf left + 4)) m k f → Scan s ((l ++ [q]) ++ m) (n + (lenOf left + 4) + k) f := by
  intro m k f g
  have hl : (frameL q).length = lenOf left + 4 := by
    have e := List.take_append_drop (lenOf left + 4) left
    rw [h] at e
    have := lenOf_frame q hq (left.drop (lenOf left + 4))
    rw [e] at this
    rw [frame_length, this]
  have g2 := Scan.step q _ _ _ _ hq g
  rw [← h, List.take_append_drop, h, hl] at g2
  have := HS _ _ _ g2
  rw [List.append_assoc, Nat.add_assoc]
  exact this
end Go.Proofs.YtbecemdehelooaaGreatDoor.FrameP
