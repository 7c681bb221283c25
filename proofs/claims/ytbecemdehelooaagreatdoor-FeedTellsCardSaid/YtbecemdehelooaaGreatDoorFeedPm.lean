/- Decode undoes Encode, Encode undoes Decode: plain Lean. -/
import Derived.Test.YtbecemdehelooaaGreatDoorFeedDe
namespace Go.Proofs.YtbecemdehelooaaGreatDoor.FeedPm
open Go.Proofs.YtbecemdehelooaaGreatDoor.FrameS Go.Proofs.YtbecemdehelooaaGreatDoor.FrameP Go.Proofs.YtbecemdehelooaaGreatDoor.FeedG Go.Proofs.YtbecemdehelooaaGreatDoor.FeedD Go.Proofs.YtbecemdehelooaaGreatDoor.FeedT Go.Proofs.YtbecemdehelooaaGreatDoor.FeedP Go.Proofs.YtbecemdehelooaaGreatDoor.FeedQ Go.Proofs.YtbecemdehelooaaGreatDoor.FeedE Go.Proofs.YtbecemdehelooaaGreatDoor.FeedX Go.Proofs.YtbecemdehelooaaGreatDoor.FeedN Go.Proofs.YtbecemdehelooaaGreatDoor.FeedW Go.Proofs.YtbecemdehelooaaGreatDoor.FeedPl Go.Proofs.YtbecemdehelooaaGreatDoor.FeedDe Go.Lib
set_option linter.unusedVariables false
set_option linter.unusedSimpArgs false
/-- What is read, as a line: its five fields. -/
structure Ln where
  so : ByteArray
  n : Int
  sk : ByteArray
  se : ByteArray
  p : Int
def Ln.val (x : Ln) : Value := feedV x.so x.n x.sk x.se x.p
def Ln.ok (x : Ln) : Bool := rightF x.so x.sk x.se x.n x.p
def Ln.line (x : Ln) : List UInt8 := lineL x.so x.sk x.se x.n x.p
def zeroLn : Ln := ⟨⟨#[]⟩, 0, ⟨#[]⟩, ⟨#[]⟩, 0⟩
theorem zero_val : zeroV = zeroLn.val := rfl
/-- The line of five words. -/
def lnOf (ws : List ByteArray) : Ln := ⟨nth ws 0, countL (tl (nth ws 1)) 1000000000000, nth ws 2, nth ws 3, priceL (tl (nth ws 4))⟩
def decodeN (s : ByteArray) : Ln × Int × Int :=
  if 100 < s.size then (zeroLn, 60, 0)
  else if (wordsOf s).length ≠ 5 then (zeroLn, 111, 0)
  else match firstBad (bads (wordsOf s)) with
    | some i => (zeroLn, 112, (i : Int))
    | none => (lnOf (wordsOf s), 0, 0)
theorem decode_N (s : ByteArray) : decodeV s = ((decodeN s).1.val, (decodeN s).2.1, (decodeN s).2.2) := by
  unfold decodeV decodeN
  by_cases h1 : 100 < s.size
  · rw [if_pos h1, if_pos h1]; rfl
  · rw [if_neg h1, if_neg h1]
    by_cases h2 : (wordsOf s).length ≠ 5
    · rw [if_pos h2, if_pos h2]; rfl
    · rw [if_neg h2, if_neg h2]
      cases firstBad (bads (wordsOf s)) <;> rfl
theorem bads_ok (ws : List ByteArray) : (bads ws).any id = !(lnOf ws).ok := by
  unfold bads lnOf Ln.ok rightF
  simp only [List.any_cons, List.any_nil, id_eq, Bool.or_false]
  cases nameB (nth ws 0) <;> cases nameB (nth ws 2) <;> cases nameB (nth ws 3) <;> simp
theorem firstBad_none {l : List Bool} : firstBad l = none ↔ l.any id = false := by
  unfold firstBad
  split <;> simp_all
theorem ok_parts {x : Ln} (h : x.ok = true) : nameB x.so = true ∧ nameB x.sk = true ∧ nameB x.se = true ∧ 1 ≤ x.n ∧ x.n ≤ 1000000000000 ∧ 0 ≤ x.p ∧ x.p ≤ 1000000000000 := by
  unfold Ln.ok rightF badSeq badPrice at h
  simp at h
  obtain ⟨⟨⟨⟨h0, h1⟩, h2⟩, h3⟩, h4⟩ := h
  exact ⟨h0, h2, h3, by omega, by omega, by omega, by omega⟩
theorem map_tl_inj {a b : List ByteArray} (h : a.map tl = b.map tl) : a = b := by
  induction a generalizing b with
  | nil => cases b with
    | nil => rfl
    | cons y b => cases h
  | cons x a ih => cases b with
    | nil => cases h
    | cons y b =>
      simp only [List.map_cons, List.cons.injEq] at h
      rw [tl_inj h.1, ih h.2]
/-- The text of a line that may be, split. -/
theorem line_words {x : Ln} (h : x.ok = true) : wordsOf ⟨x.line.toArray⟩ = [x.so, ⟨(itoa x.n).toArray⟩, x.sk, x.se, priceT x.p] := by
  obtain ⟨h0, h1, h2, h3, h4, h5, h6⟩ := ok_parts h
  apply map_tl_inj
  rw [FeedDe.words_tl]
  have e : tl (⟨x.line.toArray⟩ : ByteArray) = x.line := by simp [tl]
  rw [e]
  have hu : x.p = ((x.p.toNat : Nat) : Int) := by omega
  have := line_split x.so x.sk x.se x.n x.p.toNat h0 h1 h2 (by omega)
  rw [← hu] at this
  unfold Ln.line
  rw [this]
  simp [tl]
theorem line_short {x : Ln} (h : x.ok = true) : x.line.length ≤ 100 := by
  obtain ⟨h0, h1, h2, h3, h4, h5, h6⟩ := ok_parts h
  have z0 := name_size h0; have z1 := name_size h1; have z2 := name_size h2
  have a := tl_length x.so; have b := tl_length x.sk; have c := tl_length x.se
  have d := Lib.itoa_length_le x.n (by omega) (by omega)
  have e := text_size x.p
  have f : (tl (priceT x.p)).length ≤ 30 := by
    unfold priceT
    split
    · simpa [tl] using e
    · decide
  have g : (tl (⟨(Lib.itoa x.n).toArray⟩ : ByteArray)).length ≤ 21 := by simpa [tl] using d
  unfold Ln.line lineL lineT
  rw [List.map_cons, Lib.join_cons]
  simp only [List.map_cons, List.map_nil, Lib.joinTail, List.length_append, List.length_cons, List.length_nil, List.flatten_cons, List.flatten_nil]
  omega
/-- Decode undoes Encode. -/
theorem back {x : Ln} (h : x.ok = true) : decodeN ⟨x.line.toArray⟩ = (x, 0, 0) := by
  obtain ⟨h0, h1, h2, h3, h4, h5, h6⟩ := ok_parts h
  have hw := line_words h
  have hs := line_short h
  have hl : lnOf (wordsOf ⟨x.line.toArray⟩) = x := by
    rw [hw]
    unfold lnOf nth
    simp only [List.getD_cons_zero, List.getD_cons_succ]
    have e1 : tl (⟨(itoa x.n).toArray⟩ : ByteArray) = itoa x.n := by simp [tl]
    have e2 : x.n = ((x.n.toNat : Nat) : Int) := by omega
    have e3 : x.p = ((x.p.toNat : Nat) : Int) := by omega
    have c1 : countL (tl (⟨(itoa x.n).toArray⟩ : ByteArray)) 1000000000000 = x.n := by
      rw [e1, e2]
      exact count_itoa _ _ (by omega) (by decide)
    have c2 : priceL (tl (priceT x.p)) = x.p := by
      rw [e3]
      exact price_text _ (by omega)
    rw [c1, c2]
  have hb : firstBad (bads (wordsOf ⟨x.line.toArray⟩)) = none := by
    rw [firstBad_none, bads_ok, hl, h]; rfl
  unfold decodeN
  rw [if_neg, if_neg (by rw [hw]; simp), hb, hl]
  show ¬ 100 < x.line.toArray.size
  simpa using hs
/-! Joined, split. -/
theorem join_split (c : UInt8) : ∀ (k : Nat) (s : List UInt8), join (splitK [c] 0 k s) [c] = s := by
  intro k
  induction k with
  | zero => intro s; unfold splitK; rw [join_cons]; simp [joinTail]
  | succ k ih =>
    intro s
    rcases index_spec s [c] with ⟨h, -⟩ | ⟨i, h, hi, ho, -⟩
    · unfold splitK
      rw [if_pos (beq_iff_eq.2 h), join_cons]; simp [joinTail]
    · have hne : ¬ (index s [c] == -1) = true := fun e => by have := beq_iff_eq.1 e; omega
      have hs : s[i]? = some c := occAt_head rfl ho
      have hlt : i < s.length := by
        rcases Nat.lt_or_ge i s.length with g | g
        · exact g
        · rw [List.getElem?_eq_none g] at hs; cases hs
      have hc : s[i] = c := by rw [List.getElem?_eq_getElem hlt] at hs; exact Option.some.inj hs
      have e : s = s.take i ++ c :: s.drop (i + 1) := by
        rw [← hc, ← List.drop_eq_getElem_cons hlt, List.take_append_drop]
      have h2 := ih (s.drop (i + 1))
      have ht : (index s [c]).toNat = i := by omega
      rw [splitK, if_neg hne, ht]
      simp only [Nat.add_zero, List.length_cons, List.length_nil, Nat.zero_add]
      rw [join_cons]
      cases hq : splitK [c] 0 k (s.drop (i + 1)) with
      | nil =>
        exfalso
        cases k with
        | zero => cases hq
        | succ k => unfold splitK at hq; split at hq <;> cases hq
      | cons y ys =>
        rw [hq, join_cons] at h2
        rw [joinTail_cons', h2]
        exact e.symm
theorem count_itoa_eq {l : List UInt8} {most : Int} (h : 0 ≤ countL l most) : itoa (countL l most) = l := by
  unfold countL at h ⊢
  split at h
  · rename_i n hn
    split at h
    · rename_i h2
      rw [if_pos h2]; exact h2.2.2
    · omega
  · omega
theorem price_eq {l : List UInt8} (h0 : 0 ≤ priceL l) : tl (priceT (priceL l)) = l := by
  unfold priceL at h0 ⊢
  split at h0
  · rename_i h
    rw [if_pos h, h]
    unfold priceT
    rw [if_neg (by omega)]
    rfl
  · rename_i h
    split at h0
    · rename_i h2
      rw [if_neg h, if_pos h2]
      have hp : parseB l = true := by
        cases hb : parseB l with
        | true => rfl
        | false =>
          have := h2.1
          rw [parse_no hb] at this
          exact absurd this (by decide)
      rw [parse_yes hp] at h2 h0 ⊢
      simp only at h2 h0 ⊢
      unfold priceT
      rw [if_pos (by have := h2.2; omega)]
      unfold parseB at hp
      simp only [Bool.and_eq_true, beq_iff_eq] at hp
      have e := hp.2
      rw [e]
      simp [tl]
    · omega
theorem decodeN_cases (s : ByteArray) : (decodeN s = (zeroLn, 60, 0)) ∨ (decodeN s = (zeroLn, 111, 0)) ∨ (∃ i : Nat, i ≤ 4 ∧ firstBad (bads (wordsOf s)) = some i ∧ (wordsOf s).length = 5 ∧ decodeN s = (zeroLn, 112, (i : Int))) ∨ ((wordsOf s).length = 5 ∧ (lnOf (wordsOf s)).ok = true ∧ decodeN s = (lnOf (wordsOf s), 0, 0)) := by
  unfold decodeN
  by_cases h1 : 100 < s.size
  · rw [if_pos h1]; exact .inl rfl
  · rw [if_neg h1]
    by_cases h2 : (wordsOf s).length ≠ 5
    · rw [if_pos h2]; exact .inr (.inl rfl)
    · rw [if_neg h2]
      cases h3 : firstBad (bads (wordsOf s)) with
      | some i =>
        refine .inr (.inr (.inl ⟨i, ?_, rfl, by omega, rfl⟩))
        unfold firstBad at h3
        split at h3
        · rename_i ha
          have := List.findIdx_lt_length_of_exists (p := id) (xs := bads (wordsOf s)) (by simpa using ha)
          have hl : (bads (wordsOf s)).length = 5 := rfl
          have := Option.some.inj h3
          omega
        · cases h3
      | none =>
        refine .inr (.inr (.inr ⟨by omega, ?_, rfl⟩))
        have := firstBad_none.1 h3
        rw [bads_ok] at this
        simpa using this
/-- Encode undoes Decode; what is read is right. -/
theorem forth {s : ByteArray} (h : (decodeN s).2.1 = 0) : (decodeN s).1.ok = true ∧ (decodeN s).2.2 = 0 ∧ (⟨(decodeN s).1.line.toArray⟩ : ByteArray) = s := by
  rcases decodeN_cases s with e | e | ⟨i, _, _, _, e⟩ | ⟨h2, hok, e⟩
  · rw [e] at h; exact absurd h (by simp)
  · rw [e] at h; exact absurd h (by simp)
  · rw [e] at h; exact absurd h (by simp)
  rw [e]
  refine ⟨hok, rfl, ?_⟩
  obtain ⟨_, _, _, g3, _, g5, _⟩ := ok_parts hok
  apply tl_inj
  have hj := join_split 32 (count (tl s) [32]) (tl s)
  rw [← FeedDe.words_tl] at hj
  rw [← hj]
  show (List.toArray _).toList = _
  rw [List.toList_toArray]
  unfold Ln.line lineL lineT
  congr 1
  generalize hW : wordsOf s = W at h2 g3 g5 ⊢
  match W, h2 with
  | [w0, w1, w2, w3, w4], _ =>
    unfold lnOf nth at g3 g5 ⊢
    simp only [List.getD_cons_zero, List.getD_cons_succ] at g3 g5 ⊢
    simp only [List.map_cons, List.map_nil]
    have z : tl (⟨(itoa (countL (tl w1) 1000000000000)).toArray⟩ : ByteArray) = itoa (countL (tl w1) 1000000000000) := by simp [tl]
    rw [z, count_itoa_eq (by omega), price_eq g5]
/-- What is not read. -/
theorem refused {s : ByteArray} (h : (decodeN s).2.1 ≠ 0) : (decodeN s).1 = zeroLn ∧ 0 ≤ (decodeN s).2.2 ∧ (decodeN s).2.2 ≤ 4 ∧ ((decodeN s).2.1 = 112 ∨ (decodeN s).2.2 = 0) := by
  rcases decodeN_cases s with e | e | ⟨i, hi, _, _, e⟩ | ⟨h2, hok, e⟩
  · rw [e]; exact ⟨rfl, by simp, by simp, .inr rfl⟩
  · rw [e]; exact ⟨rfl, by simp, by simp, .inr rfl⟩
  · rw [e]; exact ⟨rfl, by simp, by simp; omega, .inl rfl⟩
  · rw [e] at h; exact absurd rfl h
end Go.Proofs.YtbecemdehelooaaGreatDoor.FeedPm
