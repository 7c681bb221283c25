/- For every input FrameTells answers true, in plain Lean. -/
import Derived.Test.YthidhmfejnjdhaaDoorPureTellsA
namespace Go.Proofs.YthidhmfejnjdhaaDoor.Pure
open Go.RowKit Go.Proofs.YthidhmfejnjdhaaDoor.HFrameTells Go.Proofs.YthidhmfejnjdhaaDoorW.PrintWords Go.Proofs.YthidhmfejnjdhaaDoorW.PrintLast Go.Proofs.YthidhmfejnjdhaaDoorW.PrintMore
set_option linter.unusedVariables false
set_option linter.unusedSimpArgs false
open Go.Proofs.YthidhmfejnjdhaaDoor.FrameS Go.Proofs.YthidhmfejnjdhaaDoor.FrameC Go.Proofs.YthidhmfejnjdhaaDoor.FrameP
namespace FrameTellsP
/-! Numbers, as the document reads them. -/
theorem bt_val (s : ByteArray) (i : Nat) (h : i < s.size) (hl : i < (tl s).length) : bt s (i : Int) = ((tl s)[i].toNat : Int) := by
  unfold bt
  rw [dif_pos (by simpa using h)]
  simp [tl]
  rfl
/-- What is told at the end: of the number, and of the text. -/
def fin (L : List UInt8) (v : Nat) : Int × Bool := if L.head? = some 45 then (-(v : Int), Lib.itoa (-(v : Int)) == L) else ((v : Int), Lib.itoa (v : Int) == L)
def told (L : List UInt8) : Option Nat → Int × Bool
  | none => (0, false)
  | some v => fin L v
theorem number_end (s : ByteArray) (v i k : Nat) (hv : v ≤ 1000000000000000000) (hk : 22 ≤ k) : hagglerref04_number.j1 k s (v : Int) (i : Int) false = some (fin (tl s) v) := by
  obtain ⟨k, rfl⟩ : ∃ q, k = q + 1 := ⟨k - 1, by omega⟩
  simp only [hagglerref04_number.j1]
  rw [if_neg (by decide), toList_data]
  have e : s.data.toList = tl s := rfl
  rw [e]
  by_cases h0 : tl s = []
  · rw [if_pos h0, Number_ok _ (by omega) (by omega) k (by omega), h0]
    simp only [Option.bind_some]
    rw [bd_list]; rfl
  · rw [if_neg h0]
    have hl := tl_length s
    have hp : 0 < (tl s).length := List.length_pos_iff.2 h0
    obtain ⟨c, t, hc⟩ : ∃ c t, tl s = c :: t := by
      cases h : tl s with
      | nil => exact absurd h h0
      | cons c t => exact ⟨c, t, rfl⟩
    have hb : bt s 0 = (c.toNat : Int) := by
      have := bt_val s 0 (by omega) hp
      simpa [hc] using this
    rw [if_pos (by omega), hb]
    unfold fin
    by_cases h1 : c = 45
    · subst h1
      rw [if_pos (by decide), show wrap64 (-(v : Int)) = -(v : Int) by unfold wrap64; omega, Number_ok _ (by omega) (by omega) k (by omega), if_pos (by rw [hc]; rfl)]
      simp only [Option.bind_some]
      rw [bd_list]
    · rw [if_neg (fun h => h1 (UInt8.toNat_inj.1 (by show c.toNat = 45; omega))), Number_ok _ (by omega) (by omega) k (by omega), if_neg (by rw [hc]; simpa using h1)]
      simp only [Option.bind_some]
      rw [bd_list]
theorem step_val (v d : Nat) (hv : v ≤ 10000000000000000) (h1 : 48 ≤ d) (h2 : d ≤ 57) : wrap64 (wrap64 (10 * (v : Int)) + ((d : Int) - 48) % 256) = ((v * 10 + (d - 48) : Nat) : Int) := by
  rw [show wrap64 (10 * (v : Int)) = 10 * v by unfold wrap64; omega, show ((d : Int) - 48) % 256 = d - 48 by omega]
  unfold wrap64; omega
theorem pow_step (v d i : Nat) (hv : v < 10 ^ i) (h2 : d ≤ 57) : v * 10 + (d - 48) < 10 ^ (i + 1) := by
  rw [Nat.pow_succ]; omega
set_option maxHeartbeats 1000000 in
theorem number_loop (s : ByteArray) (hs : s.size < 18) : ∀ (d i k v : Nat), i + d = s.size → 3 * d + 30 ≤ k → v < 10 ^ i → (i = 0 → (tl s).head? ≠ some 45) →
    hagglerref04_number.l0 k s (v : Int) (i : Int) = some (told (tl s) (Lib.decFrom v ((tl s).drop i))) := by
  intro d
  induction d with
  | zero =>
    intro i k v hi hk hv _
    obtain ⟨k, rfl⟩ : ∃ q, k = q + 1 := ⟨k - 1, by omega⟩
    simp only [hagglerref04_number.l0]
    have : 10 ^ i ≤ 10 ^ 17 := Nat.pow_le_pow_right (by omega) (by omega)
    have e17 : (10 : Nat) ^ 17 = 100000000000000000 := by decide
    rw [if_neg (by omega), number_end s v i k (by omega) (by omega), List.drop_eq_nil_of_le (by rw [tl_length]; omega)]
    rfl
  | succ d ih =>
    intro i k v hi hk hv h45
    obtain ⟨k, rfl⟩ : ∃ q, k = q + 3 := ⟨k - 3, by omega⟩
    have hpow : 10 ^ i ≤ 10 ^ 16 := Nat.pow_le_pow_right (by omega) (by omega)
    have e16 : (10 : Nat) ^ 16 = 10000000000000000 := by decide
    have hil : i < (tl s).length := by rw [tl_length]; omega
    have hb := bt_val s i (by omega) hil
    have hj2 : hagglerref04_number.j2 (k + 1) s (v : Int) (i : Int) false = some (told (tl s) (Lib.decFrom v ((tl s).drop i))) := by
      simp only [hagglerref04_number.j2]
      rw [if_neg (by decide), if_pos (by omega), if_pos (by omega), hb, List.drop_eq_getElem_cons hil]
      simp only [Lib.decFrom, Lib.digitVal]
      by_cases c1 : (tl s)[i].toNat < 48
      · rw [if_pos (by omega), if_neg (by omega)]; rfl
      · rw [if_neg (by omega)]
        by_cases c2 : (tl s)[i].toNat > 57
        · rw [if_pos (by omega), if_neg (by omega)]; rfl
        · rw [if_neg (by omega), if_pos (by omega)]
          simp only
          rw [step_val v (tl s)[i].toNat (Nat.le_of_lt (Nat.lt_of_lt_of_le hv (Nat.le_trans hpow (Nat.le_of_eq e16)))) (Nat.le_of_not_lt c1) (Nat.le_of_not_lt c2),
            show wrap64 ((i : Int) + 1) = ((i + 1 : Nat) : Int) by unfold wrap64; omega]
          exact ih (i + 1) k _ (by clear hv hpow e16 hb; omega) (by clear hv hpow e16 hb; omega) (pow_step v _ i hv (Nat.le_of_not_lt c2)) (fun h => absurd h (Nat.succ_ne_zero i))
    simp only [hagglerref04_number.l0]
    rw [if_pos (by omega), decide_eq_true (by omega)]
    simp only [hagglerref04_number.j1]
    rw [if_pos trivial]
    by_cases h0 : i = 0
    · subst h0
      have hne := h45 rfl
      rw [if_pos (by omega), if_pos (by omega), if_pos (by omega)]
      have : (bt s ((0 : Nat) : Int) == 45) = false := by
        rw [hb]
        refine beq_eq_false_iff_ne.2 fun h => hne ?_
        have h2 : (tl s)[0] = 45 := UInt8.toNat_inj.1 (by show (tl s)[0].toNat = 45; omega)
        rw [← h2, List.head?_eq_getElem?, List.getElem?_eq_getElem]
      rw [this]
      exact hj2
    · rw [if_neg (by omega)]
      exact hj2
theorem decFrom_lt : ∀ (l : List UInt8) (a v i : Nat), Lib.decFrom a l = some v → a < 10 ^ i → v < 10 ^ (i + l.length)
  | [], a, v, i, h, ha => by
    simp only [Lib.decFrom, Option.some.injEq] at h
    subst h; simpa using ha
  | b :: l, a, v, i, h, ha => by
    simp only [Lib.decFrom] at h
    cases hd : Lib.digitVal b with
    | none => simp [hd] at h
    | some e =>
      simp only [hd] at h
      have he : e < 10 := by unfold Lib.digitVal at hd; split at hd <;> simp at hd; omega
      have := decFrom_lt l _ v (i + 1) h (by rw [Nat.pow_succ]; omega)
      rw [List.length_cons, show i + (l.length + 1) = i + 1 + l.length by omega]
      exact this
theorem number_ok (s : ByteArray) (k : Nat) (hk : 200 ≤ k) : ∃ n b, hagglerref04_number.f k s = some (n, b) ∧ (b = true → tl s = Lib.itoa n ∧ -1000000000000000000 ≤ n ∧ n ≤ 1000000000000000000) ∧ (∀ m, tl s = Lib.itoa m → s.size < 18 → b = true) := by
  have hfin : ∀ v : Nat, v ≤ 1000000000000000000 → ((fin (tl s) v).2 = true → tl s = Lib.itoa (fin (tl s) v).1 ∧ -1000000000000000000 ≤ (fin (tl s) v).1 ∧ (fin (tl s) v).1 ≤ 1000000000000000000) := by
    intro v hv
    unfold fin
    split <;> simp only [beq_iff_eq] <;> intro h <;> exact ⟨h.symm, by omega, by omega⟩
  unfold hagglerref04_number.f
  by_cases h18 : s.size < 18
  · have hloop : ∀ (i : Nat) (hi : i ≤ s.size) (hi1 : i ≤ 1) (h : i = 0 → (tl s).head? ≠ some 45) (kk : Nat) (hkk : 100 ≤ kk), ∃ n b, hagglerref04_number.l0 kk s 0 (i : Int) = some (n, b) ∧ (b = true → tl s = Lib.itoa n ∧ -1000000000000000000 ≤ n ∧ n ≤ 1000000000000000000) ∧
        (∀ v, Lib.decFrom 0 ((tl s).drop i) = some v → (n, b) = fin (tl s) v) := by
      intro i hi hi1 h kk hkk
      have e := number_loop s h18 (s.size - i) i kk 0 (by omega) (by omega) (Nat.pow_pos (by omega)) h
      have h0 : ((0 : Nat) : Int) = 0 := rfl
      rw [h0] at e
      cases hd : Lib.decFrom 0 ((tl s).drop i) with
      | none =>
        rw [hd] at e
        exact ⟨0, false, e, fun h => by simp at h, fun v h => by simp at h⟩
      | some v =>
        rw [hd] at e
        have hv := decFrom_lt _ 0 v 0 hd (by simp)
        have : 10 ^ (0 + ((tl s).drop i).length) ≤ 10 ^ 17 := Nat.pow_le_pow_right (by omega) (by rw [List.length_drop, tl_length]; omega)
        have e17 : (10 : Nat) ^ 17 = 100000000000000000 := by decide
        exact ⟨_, _, e, hfin v (by omega), fun u h => by simp at h; subst h; rfl⟩
    by_cases h45 : (tl s).head? = some 45
    · obtain ⟨t, ht⟩ : ∃ t, tl s = 45 :: t := by
        cases h : tl s with
        | nil => rw [h] at h45; simp at h45
        | cons c t => rw [h] at h45; simp at h45; exact ⟨t, by rw [h45]⟩
      have hl := tl_length s
      have hp : 0 < s.size := by rw [← hl, ht]; simp
      obtain ⟨k, rfl⟩ : ∃ q, k = q + 3 := ⟨k - 3, by omega⟩
      have hb : bt s 0 = 45 := by
        have := bt_val s 0 hp (by omega)
        simpa [ht] using this
      obtain ⟨n, b, e, h1, h2⟩ := hloop 1 (by omega) (Nat.le_refl _) (by omega) k (by omega)
      refine ⟨n, b, ?_, h1, ?_⟩
      · simp only [hagglerref04_number.l0]
        rw [if_pos (by omega), decide_eq_true (by omega)]
        simp only [hagglerref04_number.j1]
        rw [if_pos trivial, if_pos trivial, if_pos (by omega), if_pos (by omega), hb]
        simp only [hagglerref04_number.j2]
        rw [if_pos (by decide), show wrap64 (0 + 1) = ((1 : Nat) : Int) by unfold wrap64; omega]
        exact e
      · intro m hm _
        have hneg : m < 0 := by
          refine Decidable.byContradiction fun hc => ?_
          rw [ht] at hm
          unfold Lib.itoa at hm
          rw [if_neg hc] at hm
          obtain ⟨c, r, e2, e3, _⟩ := digits_head m.toNat
          rw [e2] at hm
          simp at hm
          exact e3 hm.1.symm
        have hm2 : t = Lib.decDigits m.natAbs := by
          rw [ht] at hm
          unfold Lib.itoa at hm
          rw [if_pos hneg] at hm
          simpa using hm
        have hd := h2 m.natAbs (by rw [ht, List.drop_succ_cons, List.drop_zero, hm2, decFrom_digits])
        unfold fin at hd
        rw [if_pos h45, show -((m.natAbs : Nat) : Int) = m by omega, hm] at hd
        simp only [Prod.mk.injEq] at hd
        rw [hd.2]; simp
    · obtain ⟨n, b, e, h1, h2⟩ := hloop 0 (by omega) (by omega) (fun _ => h45) k (by omega)
      refine ⟨n, b, e, h1, ?_⟩
      intro m hm _
      have hpos : ¬ m < 0 := by
        intro hc
        rw [hm] at h45
        unfold Lib.itoa at h45
        rw [if_pos hc] at h45
        simp at h45
      have hm2 : tl s = Lib.decDigits m.toNat := by
        rw [hm]; unfold Lib.itoa; rw [if_neg hpos]
      have hd := h2 m.toNat (by rw [List.drop_zero, hm2, decFrom_digits])
      unfold fin at hd
      rw [if_neg h45, show ((m.toNat : Nat) : Int) = m by omega, hm] at hd
      simp only [Prod.mk.injEq] at hd
      rw [hd.2]; simp
  · obtain ⟨k, rfl⟩ : ∃ q, k = q + 1 := ⟨k - 1, by omega⟩
    have e := number_end s 0 0 k (by omega) (by omega)
    have h0 : ((0 : Nat) : Int) = 0 := rfl
    rw [h0] at e
    refine ⟨_, _, ?_, hfin 0 (by omega), fun m _ h => absurd h h18⟩
    simp only [hagglerref04_number.l0]
    rw [if_pos (by omega), decide_eq_false (by omega)]
    exact e
/-! Words behind one another. -/
def Wd : List Int → List UInt8
  | [] => []
  | n :: ns => Lib.itoa n ++ 32 :: Wd ns
def Bd : List Int → List UInt8 → List UInt8
  | [], t => t
  | [n], t => Lib.itoa n ++ 58 :: t
  | n :: m :: ns, t => Lib.itoa n ++ 32 :: Bd (m :: ns) t
theorem Wd_snoc : ∀ (ns : List Int) (n : Int), Wd (ns ++ [n]) = Wd ns ++ (Lib.itoa n ++ [32])
  | [], n => by simp [Wd]
  | m :: ns, n => by
    show Lib.itoa m ++ 32 :: Wd (ns ++ [n]) = _
    rw [Wd_snoc ns n]; simp [Wd]
theorem Bd_snoc : ∀ (ns : List Int) (n : Int) (t : List UInt8), Bd (ns ++ [n]) t = Wd ns ++ (Lib.itoa n ++ 58 :: t)
  | [], n, t => by simp [Wd, Bd]
  | [m], n, t => by simp [Wd, Bd]
  | m :: q :: ns, n, t => by
    show Lib.itoa m ++ 32 :: Bd (q :: (ns ++ [n])) t = _
    have := Bd_snoc (q :: ns) n t
    rw [List.cons_append] at this
    rw [this]; simp [Wd]
theorem Bd_body : ∀ (n : Int) (ns : List Int) (t : List UInt8), Bd (n :: ns) t = Lib.itoa n ++ (tailL ns ++ 58 :: t)
  | n, [], t => by simp [Bd, tailL_nil]
  | n, m :: ns, t => by
    show Lib.itoa n ++ 32 :: Bd (m :: ns) t = _
    rw [Bd_body m ns t, tailL_cons]; simp
theorem body_Bd (r : Rec) : bodyL r = Bd (r.kind :: r.nums) (tl r.text) := by rw [bodyL_eq, Bd_body]
def noSep (c : UInt8) : Bool := !(c == 32) && !(c == 58)
theorem num_noSep (n : Int) : ∀ c ∈ Lib.itoa n, noSep c = true := by
  intro c hc
  have := num_not (itoa_num n c hc)
  unfold noSep
  simp [this.1, this.2]
theorem Wd_pre : ∀ (ps qs : List Int) (rest t : List UInt8), qs ≠ [] → Wd ps ++ rest = Bd qs t → ∃ m us, qs = ps ++ m :: us ∧ rest = Bd (m :: us) t
  | [], [], _, _, h, _ => absurd rfl h
  | [], m :: us, rest, t, _, h => ⟨m, us, rfl, h⟩
  | p :: ps, [], _, _, h, _ => absurd rfl h
  | p :: ps, [n], rest, t, _, h => by
    have h2 : Lib.itoa p ++ 32 :: (Wd ps ++ rest) = Lib.itoa n ++ 58 :: t := by simpa [Wd, Bd] using h
    obtain ⟨_, h3, _⟩ := upto_unique (num_noSep p) (num_noSep n) (by decide) (by decide) h2
    exact absurd h3 (by decide)
  | p :: ps, n :: m :: us, rest, t, _, h => by
    have h2 : Lib.itoa p ++ 32 :: (Wd ps ++ rest) = Lib.itoa n ++ 32 :: Bd (m :: us) t := by simpa [Wd, Bd] using h
    obtain ⟨h3, _, h4⟩ := upto_unique (num_noSep p) (num_noSep n) (by decide) (by decide) h2
    obtain ⟨v, vs, h5, h6⟩ := Wd_pre ps (m :: us) rest t (by simp) h4
    exact ⟨v, vs, by rw [itoa_inj h3, h5]; rfl, h6⟩
theorem Bd_first (m : Int) (us : List Int) (t : List UInt8) : ∃ c u, Bd (m :: us) t = Lib.itoa m ++ c :: u ∧ noSep c = false ∧ (c = 58 ∨ c = 32) := by
  cases us with
  | nil => exact ⟨58, t, rfl, by decide, .inl rfl⟩
  | cons v vs => exact ⟨32, _, rfl, by decide, .inr rfl⟩
theorem Wd_no58 : ∀ (ps : List Int), ∀ c ∈ Wd ps, c ≠ 58
  | [], c, h => by cases h
  | p :: ps, c, h => by
    simp only [Wd, List.mem_append, List.mem_cons] at h
    rcases h with h | rfl | h
    · have := num_noSep p c h
      unfold noSep at this
      intro e; subst e; simp at this
    · decide
    · exact Wd_no58 ps c h
end FrameTellsP
end Go.Proofs.YthidhmfejnjdhaaDoor.Pure
