/- FeedField, without the program. -/
import Derived.Test.YtbecemdehelooaaGreatDoorFeedRe
namespace Go.Proofs.YtbecemdehelooaaGreatDoor.FeedFp
open Go.Lib (joinTail)
open Go.RowKit Go.Proofs.YtbecemdehelooaaGreatDoor.FrameS Go.Proofs.YtbecemdehelooaaGreatDoor.FrameP Go.Proofs.YtbecemdehelooaaGreatDoor.FeedG Go.Proofs.YtbecemdehelooaaGreatDoor.FeedD Go.Proofs.YtbecemdehelooaaGreatDoor.FeedT Go.Proofs.YtbecemdehelooaaGreatDoor.FeedP Go.Proofs.YtbecemdehelooaaGreatDoor.FeedQ Go.Proofs.YtbecemdehelooaaGreatDoor.FeedX Go.Proofs.YtbecemdehelooaaGreatDoor.FeedN Go.Proofs.YtbecemdehelooaaGreatDoor.FeedW Go.Proofs.YtbecemdehelooaaGreatDoor.FeedE Go.Proofs.YtbecemdehelooaaGreatDoor.FeedDe Go.Proofs.YtbecemdehelooaaGreatDoor.FeedPl Go.Proofs.YtbecemdehelooaaGreatDoor.FeedPm Go.Proofs.YtbecemdehelooaaGreatDoor.FeedR
set_option linter.unusedVariables false
set_option linter.unusedSimpArgs false
/-- Words joined, one more each time. -/
def Jn (g : List ByteArray) : Nat → ByteArray
  | 0 => ⟨#[]⟩
  | i + 1 => (if 0 < i then Jn g i ++ ⟨#[32]⟩ else Jn g i) ++ nth g i
/-- So, but for the k-th. -/
def Fn (f : List ByteArray) (k : Nat) : Nat → ByteArray
  | 0 => ⟨#[]⟩
  | i + 1 => if i = k then Fn f k i else (if tl (Fn f k i) = [] then Fn f k i else Fn f k i ++ ⟨#[32]⟩) ++ nth f i
theorem tl_app (x y : ByteArray) : tl (x ++ y) = tl x ++ tl y := by simp [tl, ByteArray.data_append]
theorem tl_sp : tl (⟨#[32]⟩ : ByteArray) = [32] := rfl
theorem tl_nil : tl (⟨#[]⟩ : ByteArray) = [] := rfl
theorem jn_tl (a b c d e : ByteArray) : tl (Jn [a, b, c, d, e] 5) = tl a ++ joinTail [32] [tl b, tl c, tl d, tl e] := by
  simp [Jn, nth, tl_app, tl_sp, tl_nil, joinTail]
theorem jn_size (g : List ByteArray) (m : Nat) (h : ∀ i, (nth g i).size ≤ m) : ∀ i, (Jn g i).size ≤ (m + 1) * i
  | 0 => by simp [Jn]; rfl
  | i + 1 => by
    have ih := jn_size g m h i
    have hi := h i
    unfold Jn
    have e : (m + 1) * (i + 1) = (m + 1) * i + m + 1 := by rw [Nat.mul_add, Nat.mul_one]; omega
    split
    · rw [ByteArray.size_append, ByteArray.size_append]
      have : (⟨#[32]⟩ : ByteArray).size = 1 := rfl
      omega
    · rw [ByteArray.size_append]; omega
theorem fn_size (f : List ByteArray) (k m : Nat) (h : ∀ i, (nth f i).size ≤ m) : ∀ i, (Fn f k i).size ≤ (m + 1) * i
  | 0 => by simp [Fn]; rfl
  | i + 1 => by
    have ih := fn_size f k m h i
    have hi := h i
    unfold Fn
    have e : (m + 1) * (i + 1) = (m + 1) * i + m + 1 := by rw [Nat.mul_add, Nat.mul_one]; omega
    split
    · omega
    · split
      · rw [ByteArray.size_append]; omega
      · rw [ByteArray.size_append, ByteArray.size_append]
        have : (⟨#[32]⟩ : ByteArray).size = 1 := rfl
        omega
theorem words_join (x : ByteArray) (ys : List ByteArray) (s : ByteArray) (hx : ∀ b ∈ tl x, b ≠ 32) (hy : ∀ y ∈ ys, ∀ b ∈ tl y, b ≠ 32) (h : tl s = tl x ++ joinTail [32] (ys.map tl)) : wordsOf s = x :: ys := by
  have hy' : ∀ y ∈ ys.map tl, ∀ b ∈ y, b ≠ 32 := by
    intro y hm b hb
    obtain ⟨z, hz, rfl⟩ := List.mem_map.1 hm
    exact hy z hz b hb
  apply map_tl_inj
  rw [FeedDe.words_tl, h, count_words 32 _ _ hx hy', split_words 32 _ _ hx hy']
  rfl
/-- What may not be, of each kind. -/
def badN (j : Nat) : ByteArray := ([⟨#[]⟩, ⟨#[65]⟩, ⟨#[57, 97]⟩, ⟨#[105, 102]⟩, ⟨#[97, 98, 99, 100, 101, 102, 103, 104, 105, 106, 107, 108, 109]⟩, ⟨#[97, 46, 98]⟩] : List ByteArray).getD j ⟨#[]⟩
def badC (j : Nat) : ByteArray := ([⟨#[48]⟩, ⟨#[]⟩, ⟨#[45, 49]⟩, ⟨#[48, 55]⟩, ⟨#[49, 48, 48, 48, 48, 48, 48, 48, 48, 48, 48, 48, 49]⟩, ⟨#[49, 46, 53]⟩] : List ByteArray).getD j ⟨#[]⟩
def badP (j : Nat) : ByteArray := ([⟨#[48, 46, 48, 48]⟩, ⟨#[]⟩, ⟨#[45, 49, 46, 48, 48]⟩, ⟨#[49]⟩, ⟨#[71, 111, 110, 101]⟩, ⟨#[49, 48, 48, 48, 48, 48, 48, 48, 48, 48, 48, 46, 48, 49]⟩] : List ByteArray).getD j ⟨#[]⟩
def bad (j : Nat) : List ByteArray := [badN j, badC j, badN j, badN j, badP j]
theorem bad_name : ∀ j : Fin 6, nameB (badN j.val) = false := by decide +kernel
theorem bad_count : ∀ j : Fin 6, badSeq (countL (tl (badC j.val)) 1000000000000) = true := by decide +kernel
theorem bad_price : ∀ j : Fin 6, badPrice (priceL (tl (badP j.val))) = true := by decide +kernel
theorem bad_blank : ∀ j : Fin 6, (bad j.val).all (fun x => (tl x).all (fun b => b != 32) && decide (x.size ≤ 14)) = true := by decide +kernel
theorem seven : badSeq (countL (tl (⟨#[55]⟩ : ByteArray)) 1000000000000) = false := by decide +kernel
/-- The fields of a line, and with one that may not be. -/
def fl (x : Ln) : List ByteArray := [x.so, ⟨#[55]⟩, x.sk, x.se, priceT x.p]
def gl (x : Ln) (k j : Nat) : List ByteArray := (fl x).set k (nth (bad j) k)
structure Wd (y : ByteArray) : Prop where
  blank : ∀ b ∈ tl y, b ≠ 32
  size : y.size ≤ 30
theorem fl_words {x : Ln} (h : x.ok = true) : Wd x.so ∧ Wd (⟨#[55]⟩ : ByteArray) ∧ Wd x.sk ∧ Wd x.se ∧ Wd (priceT x.p) := by
  obtain ⟨h0, h1, h2, h3, h4, h5, h6⟩ := ok_parts h
  have n : ∀ {y : ByteArray}, nameB y = true → Wd y := fun h => ⟨name_noblank h, Nat.le_trans (name_size h) (by decide)⟩
  refine ⟨n h0, ⟨by decide, by decide⟩, n h1, n h2, ?_, ?_⟩
  · have e : x.p = ((x.p.toNat : Nat) : Int) := by omega
    rw [e]
    exact price_noblank _ (by omega)
  · have e := text_size x.p
    unfold priceT
    split
    · show (textL x.p).toArray.size ≤ 30
      rw [List.size_toArray]; exact e
    · decide
theorem bad_word (j : Nat) (hj : j < 6) (k : Nat) (hk : k < 5) : (∀ b ∈ tl (nth (bad j) k), b ≠ 32) ∧ (nth (bad j) k).size ≤ 14 := by
  have h := List.all_eq_true.1 (bad_blank ⟨j, hj⟩) (nth (bad j) k) (by
    unfold nth
    rw [List.getD_eq_getElem?_getD, List.getElem?_eq_getElem (show k < (bad j).length from hk)]
    exact List.getElem_mem _)
  simp only [Bool.and_eq_true, decide_eq_true_eq, List.all_eq_true, bne_iff_ne] at h
  exact h
theorem len_tl (y : ByteArray) : (tl y).length = y.size := tl_length y
theorem joined_size (a b c d e : ByteArray) : (Jn [a, b, c, d, e] 5).size = a.size + b.size + c.size + d.size + e.size + 4 := by
  rw [← tl_length, jn_tl]
  simp only [joinTail, List.flatMap_cons, List.flatMap_nil, List.map_cons, List.map_nil, List.flatten_cons, List.flatten_nil, List.length_append, List.length_cons, List.length_nil, tl_length]
  omega
theorem dec_bad (a b c d e : ByteArray) (ha : Wd a) (hb : Wd b) (hc : Wd c) (hd : Wd d) (he : Wd e) (hz : a.size + b.size + c.size + d.size + e.size ≤ 94) (i : Nat) (h : firstBad (bads [a, b, c, d, e]) = some i) :
    decodeN (Jn [a, b, c, d, e] 5) = (zeroLn, 112, (i : Int)) ∧ decodeN (Jn [a, b, c, d, e] 5 ++ ⟨#[32, 120]⟩) = (zeroLn, 111, 0) := by
  have hw : wordsOf (Jn [a, b, c, d, e] 5) = [a, b, c, d, e] := words_join a [b, c, d, e] _ ha.blank (by
    intro y hy
    simp only [List.mem_cons, List.not_mem_nil, or_false] at hy
    rcases hy with rfl | rfl | rfl | rfl
    · exact hb.blank
    · exact hc.blank
    · exact hd.blank
    · exact he.blank) (jn_tl a b c d e)
  have hw6 : wordsOf (Jn [a, b, c, d, e] 5 ++ ⟨#[32, 120]⟩) = [a, b, c, d, e, ⟨#[120]⟩] := words_join a [b, c, d, e, ⟨#[120]⟩] _ ha.blank (by
    intro y hy
    simp only [List.mem_cons, List.not_mem_nil, or_false] at hy
    rcases hy with rfl | rfl | rfl | rfl | rfl
    · exact hb.blank
    · exact hc.blank
    · exact hd.blank
    · exact he.blank
    · decide) (by
    rw [tl_app, jn_tl]
    have e1 : tl (⟨#[32, 120]⟩ : ByteArray) = [32, 120] := rfl
    have e2 : tl (⟨#[120]⟩ : ByteArray) = [120] := rfl
    rw [e1]
    simp [joinTail, e2])
  have z := joined_size a b c d e
  refine ⟨?_, ?_⟩
  · unfold decodeN
    rw [if_neg (by omega), hw, if_neg (by simp), h]
  · unfold decodeN
    rw [if_neg (by rw [ByteArray.size_append, show (⟨#[32, 120]⟩ : ByteArray).size = 2 from rfl]; omega), hw6, if_pos (by simp)]
theorem dec_four (a b c d : ByteArray) (ha : Wd a) (hb : Wd b) (hc : Wd c) (hd : Wd d) (hz : a.size + b.size + c.size + d.size ≤ 94) (s : ByteArray) (h : tl s = tl a ++ joinTail [32] [tl b, tl c, tl d]) : decodeN s = (zeroLn, 111, 0) := by
  have hw : wordsOf s = [a, b, c, d] := words_join a [b, c, d] s ha.blank (by
    intro y hy
    simp only [List.mem_cons, List.not_mem_nil, or_false] at hy
    rcases hy with rfl | rfl | rfl
    · exact hb.blank
    · exact hc.blank
    · exact hd.blank) h
  have z : s.size = a.size + b.size + c.size + d.size + 3 := by
    rw [← tl_length, h]
    simp only [joinTail, List.flatMap_cons, List.flatMap_nil, List.map_cons, List.map_nil, List.flatten_cons, List.flatten_nil, List.length_append, List.length_cons, List.length_nil, tl_length]
    omega
  unfold decodeN
  rw [if_neg (by omega), hw, if_pos (by simp)]
theorem tl_ne {y : ByteArray} (h : 0 < y.size) : tl y ≠ [] := fun e => by
  have := tl_length y
  rw [e] at this
  simp at this; omega
/-- All that the law says, of what is read. -/
theorem field_law {x : Ln} (h : x.ok = true) (k j : Nat) (hk : k < 5) (hj : j < 6) :
    decodeN (Jn (gl x k j) 5) = (zeroLn, 112, (k : Int)) ∧ decodeN (Fn (fl x) k 5) = (zeroLn, 111, 0) ∧ decodeN (Jn (gl x k j) 5 ++ ⟨#[32, 120]⟩) = (zeroLn, 111, 0) := by
  obtain ⟨w0, w1, w2, w3, w4⟩ := fl_words h
  obtain ⟨h0, h1, h2, h3, h4, h5, h6⟩ := ok_parts h
  have z0 := name_size h0
  have z1 := name_size h1
  have z2 := name_size h2
  have z3 : (⟨#[55]⟩ : ByteArray).size = 1 := rfl
  have z4 := w4.size
  have hb := bad_word j hj k hk
  have wb : Wd (nth (bad j) k) := ⟨hb.1, Nat.le_trans hb.2 (by decide)⟩
  have hp : badPrice (priceL (tl (priceT x.p))) = false := by
    have e : x.p = ((x.p.toNat : Nat) : Int) := by omega
    rw [e, price_text _ (by omega)]
    unfold badPrice
    rw [decide_eq_false (by omega), decide_eq_false (by omega)]; rfl
  have bn := bad_name ⟨j, hj⟩
  have bc := bad_count ⟨j, hj⟩
  have bp := bad_price ⟨j, hj⟩
  have n0 : tl x.so ≠ [] := by
    have := h0
    unfold nameB at this
    intro e
    rw [e] at this
    cases this
  have n1 : tl x.sk ≠ [] := by
    have := h1
    unfold nameB at this
    intro e
    rw [e] at this
    cases this
  have n2 : tl x.se ≠ [] := by
    have := h2
    unfold nameB at this
    intro e
    rw [e] at this
    cases this
  have n3 : tl (⟨#[55]⟩ : ByteArray) ≠ [] := by decide
  match k, hk with
  | 0, _ =>
    have hB := dec_bad (nth (bad j) 0) ⟨#[55]⟩ x.sk x.se (priceT x.p) wb w1 w2 w3 w4 (by have := hb.2; omega) 0 (by
      show firstBad [!nameB (badN j), badSeq (countL (tl (⟨#[55]⟩ : ByteArray)) 1000000000000), !nameB x.sk, !nameB x.se, badPrice (priceL (tl (priceT x.p)))] = some 0
      rw [bn, seven, h1, h2, hp]; rfl)
    refine ⟨hB.1, dec_four ⟨#[55]⟩ x.sk x.se (priceT x.p) w1 w2 w3 w4 (by omega) _ ?_, hB.2⟩
    simp [Fn, fl, nth, tl_app, tl_sp, tl_nil, joinTail, n0, n1, n2, n3]
  | 1, _ =>
    have hB := dec_bad x.so (nth (bad j) 1) x.sk x.se (priceT x.p) w0 wb w2 w3 w4 (by have := hb.2; omega) 1 (by
      show firstBad [!nameB x.so, badSeq (countL (tl (badC j)) 1000000000000), !nameB x.sk, !nameB x.se, badPrice (priceL (tl (priceT x.p)))] = some 1
      rw [bc, h0, h1, h2, hp]; rfl)
    refine ⟨hB.1, dec_four x.so x.sk x.se (priceT x.p) w0 w2 w3 w4 (by omega) _ ?_, hB.2⟩
    simp [Fn, fl, nth, tl_app, tl_sp, tl_nil, joinTail, n0, n1, n2, n3]
  | 2, _ =>
    have hB := dec_bad x.so ⟨#[55]⟩ (nth (bad j) 2) x.se (priceT x.p) w0 w1 wb w3 w4 (by have := hb.2; omega) 2 (by
      show firstBad [!nameB x.so, badSeq (countL (tl (⟨#[55]⟩ : ByteArray)) 1000000000000), !nameB (badN j), !nameB x.se, badPrice (priceL (tl (priceT x.p)))] = some 2
      rw [bn, seven, h0, h2, hp]; rfl)
    refine ⟨hB.1, dec_four x.so ⟨#[55]⟩ x.se (priceT x.p) w0 w1 w3 w4 (by omega) _ ?_, hB.2⟩
    simp [Fn, fl, nth, tl_app, tl_sp, tl_nil, joinTail, n0, n1, n2, n3]
  | 3, _ =>
    have hB := dec_bad x.so ⟨#[55]⟩ x.sk (nth (bad j) 3) (priceT x.p) w0 w1 w2 wb w4 (by have := hb.2; omega) 3 (by
      show firstBad [!nameB x.so, badSeq (countL (tl (⟨#[55]⟩ : ByteArray)) 1000000000000), !nameB x.sk, !nameB (badN j), badPrice (priceL (tl (priceT x.p)))] = some 3
      rw [bn, seven, h0, h1, hp]; rfl)
    refine ⟨hB.1, dec_four x.so ⟨#[55]⟩ x.sk (priceT x.p) w0 w1 w2 w4 (by omega) _ ?_, hB.2⟩
    simp [Fn, fl, nth, tl_app, tl_sp, tl_nil, joinTail, n0, n1, n2, n3]
  | 4, _ =>
    have hB := dec_bad x.so ⟨#[55]⟩ x.sk x.se (nth (bad j) 4) w0 w1 w2 w3 wb (by have := hb.2; omega) 4 (by
      show firstBad [!nameB x.so, badSeq (countL (tl (⟨#[55]⟩ : ByteArray)) 1000000000000), !nameB x.sk, !nameB x.se, badPrice (priceL (tl (badP j)))] = some 4
      rw [bp, seven, h0, h1, h2]; rfl)
    refine ⟨hB.1, dec_four x.so ⟨#[55]⟩ x.sk x.se w0 w1 w2 w3 (by omega) _ ?_, hB.2⟩
    simp [Fn, fl, nth, tl_app, tl_sp, tl_nil, joinTail, n0, n1, n2, n3]
/-- A text whose last word is P; M bytes stand ahead of its last one, A ahead of the blank. -/
structure Last (T P : ByteArray) (M A : Nat) : Prop where
  size : T.size = M + 1
  len : M = A + P.size
  pos : 0 < P.size
  few : M ≤ 99
  word : ∀ q, A < q → ∀ hq : q < T.size, T[q] ≠ 32
  blank : ∀ hq : A < T.size, T[A] = 32
  cut : T.extract (A + 1) (M + 1) = P
theorem get_tl (T : ByteArray) (q : Nat) (hq : q < T.size) : T[q] = (tl T)[q]'(by rw [tl_length]; exact hq) := rfl
theorem price_pos {p : Int} (h0 : 0 < p) (h1 : p ≤ 1000000000000) : 0 < (priceT p).size := by
  have e : p = ((p.toNat : Nat) : Int) := by omega
  have h := price_text p.toNat (by omega)
  rw [← e] at h
  rcases Nat.eq_zero_or_pos (priceT p).size with z | z
  · exfalso
    have : tl (priceT p) = [] := List.length_eq_zero_iff.1 (by rw [tl_length]; exact z)
    rw [this] at h
    have : priceL [] = -1 := by decide +kernel
    omega
  · exact z
theorem line_last {x : Ln} (h : x.ok = true) (hp : 0 < x.p) : ∃ M A, Last ⟨x.line.toArray⟩ (priceT x.p) M A := by
  obtain ⟨w0, w1, w2, w3, w4⟩ := fl_words h
  obtain ⟨h0, h1, h2, h3, h4, h5, h6⟩ := ok_parts h
  have hl := line_short h
  have hpos := price_pos hp h6
  obtain ⟨A, hA⟩ : ∃ A : ByteArray, x.so ++ (⟨#[32]⟩ : ByteArray) ++ bd (Lib.itoa x.n) ++ (⟨#[32]⟩ : ByteArray) ++ x.sk ++ (⟨#[32]⟩ : ByteArray) ++ x.se = A := ⟨_, rfl⟩
  have hT : (⟨x.line.toArray⟩ : ByteArray) = A ++ (⟨#[32]⟩ : ByteArray) ++ priceT x.p := by rw [← hA]; exact FeedRe.line_bd x.so x.sk x.se x.n x.p
  have hz : (⟨x.line.toArray⟩ : ByteArray).size = x.line.length := by show x.line.toArray.size = _; rw [List.size_toArray]
  obtain ⟨T, hTT⟩ : ∃ T : ByteArray, (⟨x.line.toArray⟩ : ByteArray) = T := ⟨_, rfl⟩
  obtain ⟨P, hP⟩ : ∃ P, priceT x.p = P := ⟨_, rfl⟩
  rw [hTT] at hT hz ⊢
  rw [hP] at hT hpos w4 ⊢
  have hs : T.size = A.size + 1 + P.size := by rw [hT, ByteArray.size_append, ByteArray.size_append]; rfl
  have ht : tl T = tl A ++ 32 :: tl P := by rw [hT, tl_app, tl_app, tl_sp]; simp
  refine ⟨A.size + P.size, A.size, ⟨by omega, rfl, hpos, by omega, fun q hq hlt => ?_, fun hq => ?_, ?_⟩⟩
  · have hi : q - A.size - 1 < (tl P).length := by rw [tl_length]; omega
    have e1 : (tl T)[q]? = some (T[q]'hlt) := List.getElem?_eq_getElem (by rw [tl_length]; exact hlt)
    rw [ht, List.getElem?_append_right (by rw [tl_length]; omega), tl_length, show q - A.size = (q - A.size - 1) + 1 by omega, List.getElem?_cons_succ, List.getElem?_eq_getElem hi] at e1
    rw [← Option.some.inj e1]
    exact w4.blank _ (List.getElem_mem hi)
  · have e1 : (tl T)[A.size]? = some (T[A.size]'hq) := List.getElem?_eq_getElem (by rw [tl_length]; exact hq)
    rw [ht, List.getElem?_append_right (by rw [tl_length]; exact Nat.le_refl _), tl_length, Nat.sub_self, List.getElem?_cons_zero] at e1
    exact (Option.some.inj e1).symm
  · apply tl_inj
    rw [FeedT.tl_ext, List.take_of_length_le (by rw [tl_length]; omega), ht, show tl A ++ 32 :: tl P = (tl A ++ [32]) ++ tl P by simp]
    exact List.drop_left' (by rw [List.length_append, tl_length]; rfl)
end Go.Proofs.YtbecemdehelooaaGreatDoor.FeedFp
