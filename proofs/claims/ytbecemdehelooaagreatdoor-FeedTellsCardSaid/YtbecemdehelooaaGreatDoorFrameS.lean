/- Frames in plain Lean: what a record's frame is, what is scanned, and what follows of it. No program in sight. -/
import Derived.Test.YtbecemdehelooaaGreatDoorCrc
import Derived.Lib.ItoaLen
import Derived.Lib.AtoiTie
import Derived.Lib.Join
import Derived.Lib.Split
namespace Go.Proofs.YtbecemdehelooaaGreatDoor.FrameS
open Go.Proofs.YtbecemdehelooaaGreatDoor.Crc
set_option linter.unusedVariables false
set_option linter.unusedSimpArgs false

/-! ### Numerals -/
open Go.Lib
theorem decFrom_snoc : ∀ (l : List UInt8) (acc n d : Nat) (b : UInt8), decFrom acc l = some n → digitVal b = some d → decFrom acc (l ++ [b]) = some (n * 10 + d)
  | [], acc, n, d, b, h, hd => by
    simp only [decFrom, Option.some.injEq] at h
    subst h
    simp [decFrom, hd]
  | a :: t, acc, n, d, b, h, hd => by
    simp only [List.cons_append, decFrom] at h ⊢
    cases ha : digitVal a with
    | none => simp [ha] at h
    | some e => simp only [ha] at h ⊢; exact decFrom_snoc t _ n d b h hd
theorem digitVal_of (d : Nat) (h : d < 10) : digitVal (UInt8.ofNat (48 + d)) = some d := by
  have : ∀ k : Fin 10, digitVal (UInt8.ofNat (48 + k.val)) = some k.val := by decide
  exact this ⟨d, h⟩
theorem decFrom_digits (u : Nat) : decFrom 0 (decDigits u) = some u := by
  induction u using Nat.strongRecOn with
  | _ u ih =>
    by_cases h : u < 10
    · rw [decDigits_one h]
      simp only [decFrom]
      rw [digitVal_of u h]
      simp
    · rw [decDigits, dif_neg h, decFrom_snoc _ 0 (u / 10) (u % 10) _ (ih (u / 10) (by omega)) (digitVal_of _ (by omega))]
      congr 1; omega
theorem digits_ne (u : Nat) : decDigits u ≠ [] := by
  intro h
  have := decDigits_length u
  have := nDigits_pos u
  rw [h] at *
  simp at *
  omega
/-- A byte that may stand in a numeral. -/
def Num (b : UInt8) : Bool := b == 45 || (48 ≤ b.toNat && b.toNat ≤ 57)
theorem digits_digit (u : Nat) : ∀ b ∈ decDigits u, 48 ≤ b.toNat ∧ b.toNat ≤ 57 := by
  induction u using Nat.strongRecOn with
  | _ u ih =>
    have key : ∀ k : Fin 10, 48 ≤ (UInt8.ofNat (48 + k.val)).toNat ∧ (UInt8.ofNat (48 + k.val)).toNat ≤ 57 := by decide
    intro b hb
    by_cases h : u < 10
    · rw [decDigits_one h] at hb
      simp only [List.mem_singleton] at hb
      subst hb; exact key ⟨u, h⟩
    · rw [decDigits, dif_neg h] at hb
      rcases List.mem_append.1 hb with hb | hb
      · exact ih (u / 10) (by omega) b hb
      · simp only [List.mem_singleton] at hb
        subst hb; exact key ⟨u % 10, by omega⟩
theorem itoa_num (n : Int) : ∀ b ∈ itoa n, Num b = true := by
  intro b hb
  unfold itoa at hb
  unfold Num
  split at hb
  · rcases List.mem_cons.1 hb with hb | hb
    · subst hb; rfl
    · have := digits_digit _ b hb; simp [this]
  · have := digits_digit _ b hb; simp [this]
theorem itoa_ne (n : Int) : itoa n ≠ [] := by
  unfold itoa
  split
  · simp
  · exact digits_ne _
theorem digits_head (u : Nat) : ∃ b r, decDigits u = b :: r ∧ b ≠ 45 ∧ b ≠ 43 := by
  cases h : decDigits u with
  | nil => exact absurd h (digits_ne u)
  | cons b r =>
    have := digits_digit u b (by rw [h]; exact List.mem_cons_self)
    refine ⟨b, r, rfl, ?_, ?_⟩
    · rintro rfl; simp at this
    · rintro rfl; simp at this
theorem decNat_digits (u : Nat) : decNat (decDigits u) = some u := by
  unfold decNat
  rw [if_neg, decFrom_digits]
  intro h
  exact digits_ne u (List.isEmpty_iff.1 h)
theorem atoi_itoa (n : Int) : atoi (itoa n) = some n := by
  unfold itoa
  split
  · have e : atoi (45 :: decDigits n.natAbs) = (decNat (decDigits n.natAbs)).map fun (m : Nat) => -(m : Int) := by simp [atoi]
    rw [e, decNat_digits]
    simp; omega
  · obtain ⟨b, r, e, h1, h2⟩ := digits_head n.toNat
    have hd := decNat_digits n.toNat
    rw [e] at hd ⊢
    have e2 : atoi (b :: r) = (decNat (b :: r)).map fun (m : Nat) => (m : Int) := by simp [atoi, h1, h2]
    rw [e2, hd]
    simp; omega
theorem itoa_inj {n m : Int} (h : itoa n = itoa m) : n = m := by
  have := atoi_itoa n
  rw [h, atoi_itoa] at this
  exact (Option.some.inj this).symm
/-- A numeral of a number of at most 2^50 is of at most 17 bytes. -/
theorem itoa_short (n : Int) (h0 : -1125899906842624 ≤ n) (h1 : n ≤ 1125899906842624) : (itoa n).length ≤ 17 := by
  have key : ∀ u : Nat, u ≤ 1125899906842624 → nDigits u ≤ 16 := by
    intro u hu
    have aux : ∀ k u, u < 10 ^ (k + 1) → nDigits u ≤ k + 1 := by
      intro k
      induction k with
      | zero => intro u h; rw [nDigits_small (by simpa using h)]; omega
      | succ k ih =>
        intro u h
        by_cases h2 : u < 10
        · rw [nDigits_small h2]; omega
        · rw [nDigits_big h2]
          have := ih (u / 10) (by rw [Nat.pow_succ] at h; omega)
          omega
    exact aux 15 u (by omega)
  unfold itoa
  split
  · rw [List.length_cons, decDigits_length]; have := key n.natAbs (by omega); omega
  · rw [decDigits_length]; have := key n.toNat (by omega); omega
theorem atoiAll_itoa (n : Int) (h : (itoa n).length ≤ 18) : atoiAll (itoa n) = .ok n := by
  rw [atoiAll_short _ h, atoi_itoa]; rfl

/-- What all satisfy, up to one that does not, is had of the whole. -/
theorem upto_unique {p : UInt8 → Bool} : ∀ {a b : List UInt8} {c d : UInt8} {s t : List UInt8}, (∀ x ∈ a, p x = true) → (∀ x ∈ b, p x = true) → p c = false → p d = false → a ++ c :: s = b ++ d :: t → a = b ∧ c = d ∧ s = t
  | [], [], c, d, s, t, _, _, _, _, h => by
    simp only [List.nil_append, List.cons.injEq] at h
    exact ⟨rfl, h.1, h.2⟩
  | [], y :: b, c, d, s, t, _, hb, hc, _, h => by
    simp only [List.nil_append, List.cons_append, List.cons.injEq] at h
    have := hb y List.mem_cons_self
    rw [← h.1, hc] at this; cases this
  | x :: a, [], c, d, s, t, ha, _, _, hd, h => by
    simp only [List.nil_append, List.cons_append, List.cons.injEq] at h
    have := ha x List.mem_cons_self
    rw [h.1, hd] at this; cases this
  | x :: a, y :: b, c, d, s, t, ha, hb, hc, hd, h => by
    simp only [List.cons_append, List.cons.injEq] at h
    obtain ⟨e1, e2, e3⟩ := upto_unique (fun z hz => ha z (List.mem_cons_of_mem _ hz)) (fun z hz => hb z (List.mem_cons_of_mem _ hz)) hc hd h.2
    exact ⟨by rw [h.1, e1], e2, e3⟩

/-! ### Texts -/
theorem toList_loop (s : ByteArray) : ∀ (d i : Nat) (r : List UInt8), i + d = s.size → ByteArray.toList.loop s i r = r.reverse ++ s.data.toList.drop i := by
  intro d
  induction d with
  | zero =>
    intro i r h
    unfold ByteArray.toList.loop
    rw [if_neg (by omega), List.drop_eq_nil_of_le (by rw [Array.length_toList]; show s.size ≤ i; omega), List.append_nil]
  | succ d ih =>
    intro i r h
    unfold ByteArray.toList.loop
    rw [if_pos (by omega), ih (i + 1) _ (by omega)]
    have hi : i < s.data.toList.length := by rw [Array.length_toList]; show i < s.size; omega
    rw [List.drop_eq_getElem_cons hi]
    have : s.get! i = s.data.toList[i] := by
      have hi2 : i < s.data.size := by simpa using hi
      show s.data[i]! = _
      rw [getElem!_pos s.data i hi2]; simp
    simp [this]
theorem toList_data (s : ByteArray) : s.toList = s.data.toList := by
  unfold ByteArray.toList
  rw [toList_loop s s.size 0 [] (by omega)]
  rfl

/-! ### Records -/
structure Rec where
  kind : Int
  nums : List Int
  text : ByteArray
def tl (s : ByteArray) : List UInt8 := s.data.toList
theorem tl_inj {a b : ByteArray} (h : tl a = tl b) : a = b := by
  apply ByteArray.ext
  exact Array.toList_inj.1 h
theorem tl_length (a : ByteArray) : (tl a).length = a.size := by unfold tl; rw [Array.length_toList]; rfl
def Odd (n : Int) : Bool := decide (n < -1125899906842624) || decide (1125899906842624 < n)
def Right (r : Rec) : Prop := 1 ≤ r.kind ∧ r.kind ≤ 255 ∧ r.nums.length ≤ 20 ∧ r.nums.any Odd = false ∧ r.text.size ≤ 2000
def RightB (r : Rec) : Bool := decide (1 ≤ r.kind) && decide (r.kind ≤ 255) && decide (r.nums.length ≤ 20) && !r.nums.any Odd && decide (r.text.size ≤ 2000)
theorem rightB_iff (r : Rec) : RightB r = true ↔ Right r := by
  unfold RightB Right
  simp only [Bool.and_eq_true, decide_eq_true_eq, Bool.not_eq_true', and_assoc]
/-- What stands ahead of the text. -/
def headL (r : Rec) : List UInt8 := join ((r.kind :: r.nums).map itoa) [32]
def bodyL (r : Rec) : List UInt8 := headL r ++ 58 :: tl r.text
def tailL (ns : List Int) : List UInt8 := joinTail [32] (ns.map itoa)
theorem headL_eq (r : Rec) : headL r = itoa r.kind ++ tailL r.nums := by unfold headL tailL; rw [List.map_cons, join_cons]
theorem tailL_nil : tailL [] = [] := rfl
theorem tailL_cons (n : Int) (ns : List Int) : tailL (n :: ns) = 32 :: (itoa n ++ tailL ns) := by
  simp [tailL, joinTail]
theorem tailL_snoc (ns : List Int) (n : Int) : tailL (ns ++ [n]) = tailL ns ++ 32 :: itoa n := by
  simp [tailL, joinTail]
/-- Words' bytes. -/
def Word (b : UInt8) : Bool := Num b || b == 32
theorem tailL_word (ns : List Int) : ∀ b ∈ tailL ns, Word b = true := by
  induction ns with
  | nil => intro b hb; cases hb
  | cons n ns ih =>
    intro b hb
    rw [tailL_cons] at hb
    rcases List.mem_cons.1 hb with hb | hb
    · subst hb; rfl
    · rcases List.mem_append.1 hb with hb | hb
      · unfold Word; rw [itoa_num n b hb]; rfl
      · exact ih b hb
theorem headL_word (r : Rec) : ∀ b ∈ headL r, Word b = true := by
  intro b hb
  rw [headL_eq] at hb
  rcases List.mem_append.1 hb with hb | hb
  · unfold Word; rw [itoa_num _ b hb]; rfl
  · exact tailL_word _ b hb
theorem tail_inj : ∀ {a b : List Int} {s t : List UInt8}, tailL a ++ 58 :: s = tailL b ++ 58 :: t → a = b ∧ s = t
  | [], [], s, t, h => by simpa [tailL_nil] using h
  | [], y :: b, s, t, h => by rw [tailL_nil, tailL_cons] at h; simp at h
  | x :: a, [], s, t, h => by rw [tailL_nil, tailL_cons] at h; simp at h
  | x :: a, y :: b, s, t, h => by
    rw [tailL_cons, tailL_cons] at h
    simp only [List.cons_append, List.cons.injEq, true_and, List.append_assoc] at h
    have key : ∀ (l : List Int) (u : List UInt8), ∃ c v, tailL l ++ 58 :: u = c :: v ∧ Num c = false := by
      intro l u
      cases l with
      | nil => exact ⟨58, u, rfl, rfl⟩
      | cons n l => rw [tailL_cons]; exact ⟨32, _, rfl, rfl⟩
    obtain ⟨c, v, e1, hc⟩ := key a s
    obtain ⟨d, u, e2, hd⟩ := key b t
    rw [e1, e2] at h
    obtain ⟨f1, f2, f3⟩ := upto_unique (itoa_num x) (itoa_num y) hc hd h
    obtain ⟨g1, g2⟩ := tail_inj (a := a) (b := b) (s := s) (t := t) (by rw [e1, e2, f2, f3])
    exact ⟨by rw [itoa_inj f1, g1], g2⟩
theorem bodyL_eq (r : Rec) : bodyL r = itoa r.kind ++ (tailL r.nums ++ 58 :: tl r.text) := by unfold bodyL; rw [headL_eq, List.append_assoc]
theorem bodyL_inj {a b : Rec} (h : bodyL a = bodyL b) : a = b := by
  have h2 := (tail_inj (a := a.kind :: a.nums) (b := b.kind :: b.nums) (s := tl a.text) (t := tl b.text) (by
    rw [tailL_cons, tailL_cons]
    simp only [List.cons_append, List.append_assoc]
    rw [← bodyL_eq, ← bodyL_eq, h]))
  obtain ⟨h3, h4⟩ := h2
  simp only [List.cons.injEq] at h3
  cases a; cases b
  simp only at h3 h4
  obtain ⟨rfl, rfl⟩ := h3
  rw [tl_inj h4]

/-! ### Frames -/
def sumL (l : List UInt8) : BitVec 16 := crc 0xffff#16 l
def two (n : Nat) : List UInt8 := [UInt8.ofNat (n / 256), UInt8.ofNat n]
def sumB (l : List UInt8) : List UInt8 := two (sumL l).toNat
/-- A text, with its length ahead and its sum behind. -/
def wrapL (b : List UInt8) : List UInt8 := two b.length ++ b ++ sumB (two b.length ++ b)
def frameL (r : Rec) : List UInt8 := wrapL (bodyL r)
theorem two_length (n : Nat) : (two n).length = 2 := rfl
theorem sumB_length (l : List UInt8) : (sumB l).length = 2 := rfl
theorem wrapL_length (b : List UInt8) : (wrapL b).length = b.length + 4 := by
  unfold wrapL; simp [two_length, sumB_length]; omega
theorem two_inj {n m : Nat} (hn : n < 65536) (hm : m < 65536) (h : two n = two m) : n = m := by
  unfold two at h
  simp only [List.cons.injEq, and_true] at h
  have h1 := congrArg UInt8.toNat h.1
  have h2 := congrArg UInt8.toNat h.2
  simp only [UInt8.toNat_ofNat'] at h1 h2
  omega
theorem sumB_inj {a b : List UInt8} (h : sumB a = sumB b) : sumL a = sumL b := by
  apply BitVec.eq_of_toNat_eq
  exact two_inj (sumL a).isLt (sumL b).isLt h
theorem lens_le : ∀ (ns : List Int), ns.any Odd = false → (tailL ns).length ≤ 18 * ns.length
  | [], _ => by simp [tailL_nil]
  | n :: ns, h => by
    rw [List.any_cons, Bool.or_eq_false_iff] at h
    have := lens_le ns h.2
    have ho := h.1
    unfold Odd at ho
    rw [Bool.or_eq_false_iff, decide_eq_false_iff_not, decide_eq_false_iff_not] at ho
    have := itoa_short n (by omega) (by omega)
    rw [tailL_cons]; simp only [List.length_cons, List.length_append]; omega
theorem body_length (r : Rec) (h : Right r) : (bodyL r).length ≤ 2378 ∧ 2 ≤ (bodyL r).length := by
  obtain ⟨h1, h2, h3, h4, h5⟩ := h
  have e1 := itoa_short r.kind (by omega) (by omega)
  have e2 := lens_le r.nums h4
  have e3 := tl_length r.text
  have e4 : 0 < (itoa r.kind).length := List.length_pos_iff.2 (itoa_ne _)
  rw [bodyL_eq]; simp only [List.length_append, List.length_cons]
  omega
theorem frame_length (r : Rec) : (frameL r).length = (bodyL r).length + 4 := wrapL_length _
theorem frameL_unlike {r q : Rec} (hr : Right r) (hq : Right q) {s t : List UInt8} (h : frameL r ++ s = frameL q ++ t) : r = q ∧ s = t := by
  have hb := body_length r hr
  have hc := body_length q hq
  have h0 : two (bodyL r).length = two (bodyL q).length := by
    have := congrArg (List.take 2) h
    unfold frameL wrapL at this
    simpa [two] using this
  have hl := two_inj (by omega) (by omega) h0
  have hw : frameL r = frameL q ∧ s = t := List.append_inj h (by rw [frame_length, frame_length, hl])
  refine ⟨?_, hw.2⟩
  have h1 := hw.1
  unfold frameL wrapL at h1
  have h2 := (List.append_inj h1 (by simp [two_length, hl])).1
  exact bodyL_inj (List.append_inj h2 (by simp [two_length])).2

/-- How many bytes the length ahead tells. -/
def lenOf (s : List UInt8) : Nat := (s.getD 0 0).toNat * 256 + (s.getD 1 0).toNat
def Whole (s : List UInt8) : Prop := 2 ≤ s.length ∧ lenOf s + 4 ≤ s.length
theorem lenOf_two (n : Nat) (h : n < 65536) (t : List UInt8) : lenOf (two n ++ t) = n := by
  unfold lenOf two
  simp [UInt8.toNat_ofNat']; omega
theorem lenOf_frame (r : Rec) (h : Right r) (t : List UInt8) : lenOf (frameL r ++ t) = (bodyL r).length := by
  have := body_length r h
  unfold frameL wrapL
  rw [List.append_assoc, List.append_assoc]
  exact lenOf_two _ (by omega) _
theorem whole_frame (r : Rec) (h : Right r) (t : List UInt8) : Whole (frameL r ++ t) := by
  refine ⟨by rw [List.length_append, frame_length]; omega, ?_⟩
  rw [lenOf_frame r h, List.length_append, frame_length]; omega

/-- What is scanned of a text: records, how many bytes they are, and whether it ends without an error. -/
inductive Scan : List UInt8 → List Rec → Nat → Bool → Prop
  | stop (s) (h : ¬ Whole s) : Scan s [] 0 true
  | bad (s) (h : Whole s) (n : ∀ r, Right r → s.take (lenOf s + 4) ≠ frameL r) : Scan s [] 0 false
  | step (r : Rec) (t) (l n e) (h : Right r) (g : Scan t l n e) : Scan (frameL r ++ t) (r :: l) ((frameL r).length + n) e

def framesL (l : List Rec) : List UInt8 := (l.map frameL).flatten
theorem framesL_nil : framesL [] = [] := rfl
theorem framesL_cons (r : Rec) (l : List Rec) : framesL (r :: l) = frameL r ++ framesL l := by simp [framesL]
theorem framesL_append (l m : List Rec) : framesL (l ++ m) = framesL l ++ framesL m := by simp [framesL]

theorem take_frame (r : Rec) (h : Right r) (t : List UInt8) : (frameL r ++ t).take (lenOf (frameL r ++ t) + 4) = frameL r := by
  rw [lenOf_frame r h, ← frame_length]; simp

theorem scan_det : ∀ {s : List UInt8} {l n e}, Scan s l n e → ∀ {m k f}, Scan s m k f → l = m ∧ n = k ∧ e = f := by
  intro s l n e h
  induction h with
  | stop s h =>
    intro m k f g
    cases g with
    | stop => exact ⟨rfl, rfl, rfl⟩
    | bad _ h2 => exact absurd h2 h
    | step r t l n e h2 g => exact absurd (whole_frame r h2 t) h
  | bad s h hn =>
    intro m k f g
    cases g with
    | stop _ h2 => exact absurd h h2
    | bad => exact ⟨rfl, rfl, rfl⟩
    | step r t l n e h2 g => exact absurd (take_frame r h2 t) (hn r h2)
  | step r t l n e h g ih =>
    intro m k f g2
    generalize hs : frameL r ++ t = s at g2
    cases g2 with
    | stop _ h2 => exact absurd (hs ▸ whole_frame r h t) h2
    | bad _ h2 hn => exact absurd (hs ▸ take_frame r h t) (hn r h)
    | step r2 t2 l2 n2 e2 h2 g2 =>
      obtain ⟨rfl, rfl⟩ := frameL_unlike h h2 hs
      obtain ⟨rfl, rfl, rfl⟩ := ih g2
      exact ⟨rfl, rfl, rfl⟩

theorem scan_total : ∀ (k : Nat) (s : List UInt8), s.length ≤ k → ∃ l n e, Scan s l n e := by
  intro k
  induction k with
  | zero =>
    intro s hs
    exact ⟨[], 0, true, .stop s (fun h => by have := h.1; omega)⟩
  | succ k ih =>
    intro s hs
    by_cases hw : Whole s
    · by_cases hr : ∃ r, Right r ∧ s.take (lenOf s + 4) = frameL r
      · obtain ⟨r, h1, h2⟩ := hr
        have e : s = frameL r ++ s.drop (lenOf s + 4) := by rw [← h2, List.take_append_drop]
        obtain ⟨l, n, f, g⟩ := ih (s.drop (lenOf s + 4)) (by rw [List.length_drop]; omega)
        have := Scan.step r _ l n f h1 g
        rw [← e] at this
        exact ⟨r :: l, _, f, this⟩
      · exact ⟨[], 0, false, .bad s hw (fun r h1 h2 => hr ⟨r, h1, h2⟩)⟩
    · exact ⟨[], 0, true, .stop s hw⟩

theorem scan_frames {l : List Rec} (hl : ∀ r ∈ l, Right r) {t : List UInt8} {m n e} (h : Scan t m n e) : Scan (framesL l ++ t) (l ++ m) ((framesL l).length + n) e := by
  induction l with
  | nil => simpa [framesL_nil] using h
  | cons r l ih =>
    have := Scan.step r _ _ _ _ (hl r List.mem_cons_self) (ih (fun q hq => hl q (List.mem_cons_of_mem _ hq)))
    rw [framesL_cons, List.append_assoc, List.length_append, Nat.add_assoc]
    exact this
theorem scan_nil : Scan [] [] 0 true := .stop [] (fun h => by have := h.1; simp at this)
theorem scan_back {l : List Rec} (hl : ∀ r ∈ l, Right r) : Scan (framesL l) l (framesL l).length true := by
  have := scan_frames hl scan_nil
  simpa using this
/-- What was scanned is right, and its frames are what was scanned from. -/
theorem scan_again {s : List UInt8} {l n e} (h : Scan s l n e) : (∀ r ∈ l, Right r) ∧ framesL l = s.take n ∧ n ≤ s.length := by
  induction h with
  | stop s h => exact ⟨fun r hr => (by cases hr), by simp [framesL_nil], Nat.zero_le _⟩
  | bad s h hn => exact ⟨fun r hr => (by cases hr), by simp [framesL_nil], Nat.zero_le _⟩
  | step r t l n e h g ih =>
    obtain ⟨h1, h2, h3⟩ := ih
    refine ⟨fun q hq => ?_, ?_, ?_⟩
    · rcases List.mem_cons.1 hq with rfl | hq
      · exact h
      · exact h1 q hq
    · rw [framesL_cons, h2, List.take_length_add_append]
    · rw [List.length_append]; omega

/-- A frame of which something is cut off is not whole. -/
theorem torn_one (r : Rec) (h : Right r) (k : Nat) (hk : k < (frameL r).length) : ¬ Whole ((frameL r).take k) := by
  rintro ⟨h1, h2⟩
  have hl : (List.take k (frameL r)).length = k := by rw [List.length_take]; omega
  rw [hl] at h1 h2
  have h3 := lenOf_frame r h []
  rw [List.append_nil] at h3
  have h4 : lenOf ((frameL r).take k) = lenOf (frameL r) := by
    unfold lenOf
    simp [List.getD, List.getElem?_take, show 0 < k by omega, show 1 < k by omega]
  rw [h4, h3] at h2
  rw [frame_length] at hk
  omega
/-- Whatever is cut off at the end. -/
theorem scan_torn : ∀ {l : List Rec}, (∀ r ∈ l, Right r) → ∀ k, k ≤ (framesL l).length → ∃ j, j ≤ l.length ∧ Scan ((framesL l).take k) (l.take j) (framesL (l.take j)).length true ∧ (framesL (l.take j)).length ≤ k ∧ (j < l.length → k < (framesL (l.take (j + 1))).length) := by
  intro l
  induction l with
  | nil =>
    intro _ k hk
    refine ⟨0, Nat.le_refl _, ?_, ?_, fun h => by simp at h⟩
    · simpa [framesL_nil] using scan_nil
    · simp [framesL_nil]
  | cons r l ih =>
    intro hl k hk
    have hr := hl r List.mem_cons_self
    have hl' := fun q hq => hl q (List.mem_cons_of_mem r hq)
    rw [framesL_cons] at hk ⊢
    rw [List.length_append] at hk
    by_cases hc : k < (frameL r).length
    · refine ⟨0, Nat.zero_le _, ?_, ?_, fun _ => ?_⟩
      · rw [List.take_append, show k - (frameL r).length = 0 by omega, List.take_zero, List.append_nil]
        exact .stop _ (torn_one r hr k hc)
      · simp [framesL_nil]
      · simp [framesL_cons, framesL_nil]; exact hc
    · obtain ⟨j, h1, h2, h3, h4⟩ := ih hl' (k - (frameL r).length) (by omega)
      refine ⟨j + 1, by simp; omega, ?_, ?_, fun h => ?_⟩
      · rw [List.take_append, List.take_of_length_le (by omega), List.take_succ_cons, framesL_cons, List.length_append]
        exact .step r _ _ _ _ hr h2
      · rw [List.take_succ_cons, framesL_cons, List.length_append]; omega
      · rw [List.take_succ_cons, framesL_cons, List.length_append]
        have := h4 (by simp at h; omega)
        omega

/-! One byte that is another one. -/
theorem crc_set (l : List UInt8) : ∀ (k : Nat) (x : UInt8) (n : BitVec 16) (hk : k < l.length), crc n (l.set k x) = crc n l ↔ x = l[k] := by
  intro k x n hk
  have e0 : l = l.take k ++ l[k] :: l.drop (k + 1) := by rw [List.getElem_cons_drop, List.take_append_drop]
  have e1 : l.set k x = l.take k ++ x :: l.drop (k + 1) := by
    rw [List.set_eq_take_append_cons_drop, if_pos hk]
  rw [e1]
  conv => lhs; rhs; rw [e0]
  rw [crc_append, crc_append]
  show crc (upd _ x) _ = crc (upd _ l[k]) _ ↔ _
  rw [crc_inj, upd_inj_byte]
theorem get_left (a b c : List UInt8) (hc : c = a ++ b) (k : Nat) (h : k < a.length) (h2 : k < c.length) : c[k] = a[k] := by subst hc; exact List.getElem_append_left h
theorem get_right (a b c : List UInt8) (hc : c = a ++ b) (k : Nat) (h : a.length ≤ k) (h1 : k - a.length < b.length) (h2 : k < c.length) : c[k] = b[k - a.length] := by subst hc; exact List.getElem_append_right h
/-- A frame of which one byte is another one (but of the two that tell its length) is none. -/
theorem wrong_none (r : Rec) (h : Right r) (k : Nat) (hk : 2 ≤ k) (hk2 : k < (frameL r).length) (x : UInt8) (hx : x ≠ (frameL r)[k]) (q : Rec) (hq : Right q) : (frameL r).set k x ≠ frameL q := by
  intro he
  have hb := body_length r h
  have hc := body_length q hq
  have h0 : two (bodyL r).length = two (bodyL q).length := by
    have := congrArg (List.take 2) he
    rw [List.take_set_of_le (by omega)] at this
    unfold frameL wrapL at this
    simpa [two] using this
  have hl := two_inj (by omega) (by omega) h0
  have hfl := frame_length r
  unfold frameL wrapL at he
  by_cases hin : k < (bodyL r).length + 2
  · rw [List.set_append_left _ _ (by simp [two_length]; omega)] at he
    obtain ⟨e1, e2⟩ := List.append_inj he (by simp [two_length, hl])
    have hs := sumB_inj e2
    unfold sumL at hs
    rw [← e1] at hs
    have := (crc_set _ k x _ (by simp [two_length]; omega)).1 hs.symm
    apply hx
    rw [this]
    exact (get_left (two (bodyL r).length ++ bodyL r) (sumB (two (bodyL r).length ++ bodyL r)) (frameL r) rfl k _ _).symm
  · have hlen : (two (bodyL r).length ++ bodyL r).length = (bodyL r).length + 2 := by simp [two_length]; omega
    rw [List.set_append_right _ _ (by omega)] at he
    obtain ⟨e1, e2⟩ := List.append_inj he (by simp [two_length, hl])
    rw [← e1] at e2
    apply hx
    have hlt : k - (two (bodyL r).length ++ bodyL r).length < (sumB (two (bodyL r).length ++ bodyL r)).length := by
      rw [sumB_length]; rw [hfl] at hk2; omega
    have hg := congrArg (fun l => l[k - (two (bodyL r).length ++ bodyL r).length]?) e2
    simp only [List.getElem?_set_self hlt, List.getElem?_eq_getElem hlt, Option.some.injEq] at hg
    rw [hg]
    exact (get_right (two (bodyL r).length ++ bodyL r) (sumB (two (bodyL r).length ++ bodyL r)) (frameL r) rfl k (by omega) _ _).symm
theorem scan_wrong (r : Rec) (h : Right r) (k : Nat) (hk : 2 ≤ k) (hk2 : k < (frameL r).length) (x : UInt8) (hx : x ≠ (frameL r)[k]) (t : List UInt8) : Scan ((frameL r).set k x ++ t) [] 0 false := by
  have h4 : lenOf ((frameL r).set k x ++ t) = (bodyL r).length := by
    rw [← lenOf_frame r h t]
    unfold lenOf
    have hl : 2 < (frameL r).length := by omega
    have key : ∀ j, j < 2 → ((frameL r).set k x ++ t)[j]? = (frameL r ++ t)[j]? := by
      intro j hj
      rw [List.getElem?_append_left (by simp; omega), List.getElem?_append_left (by omega), List.getElem?_set_ne (by omega)]
    simp only [List.getD, key 0 (by omega), key 1 (by omega)]
  have hfl := frame_length r
  have hset : ((frameL r).set k x).length = (frameL r).length := by simp
  refine .bad _ ⟨by rw [List.length_append]; omega, by rw [h4, List.length_append]; omega⟩ ?_
  intro q hq
  rw [h4, ← hfl, ← hset, List.take_left]
  exact wrong_none r h k hk hk2 x hx q hq
end Go.Proofs.YtbecemdehelooaaGreatDoor.FrameS
