/- The document's numbers and amounts that are read, without the program. -/
import Derived.Test.YtbecemdehelooaaGreatDoorFeedRe
namespace Go.Proofs.YtbecemdehelooaaGreatDoor.FeedRp
open Go.Lib (joinTail)
open Go.RowKit Go.Proofs.YtbecemdehelooaaGreatDoor.FrameS Go.Proofs.YtbecemdehelooaaGreatDoor.FrameP Go.Proofs.YtbecemdehelooaaGreatDoor.FeedG Go.Proofs.YtbecemdehelooaaGreatDoor.FeedD Go.Proofs.YtbecemdehelooaaGreatDoor.FeedT Go.Proofs.YtbecemdehelooaaGreatDoor.FeedP Go.Proofs.YtbecemdehelooaaGreatDoor.FeedQ Go.Proofs.YtbecemdehelooaaGreatDoor.FeedE Go.Proofs.YtbecemdehelooaaGreatDoor.FeedPl Go.Proofs.YtbecemdehelooaaGreatDoor.FeedPm Go.Proofs.YtbecemdehelooaaGreatDoor.FeedR
set_option linter.unusedVariables false
set_option linter.unusedSimpArgs false
theorem snocInd {P : List UInt8 → Prop} (base : P []) (step : ∀ ys y, P ys → P (ys ++ [y])) (ys : List UInt8) : P ys := by
  rw [← List.reverse_reverse ys]
  induction ys.reverse with
  | nil => exact base
  | cons y l ih => rw [List.reverse_cons]; exact step _ _ ih
/-- What digits tell. -/
def val (l : List UInt8) : Nat := l.foldl (fun n c => 10 * n + (c.toNat - 48)) 0
theorem val_snoc (l : List UInt8) (c : UInt8) : val (l ++ [c]) = 10 * val l + (c.toNat - 48) := by unfold val; rw [List.foldl_append]; rfl
theorem dig_range {c : UInt8} (h : digB c = true) : 48 ≤ c.toNat ∧ c.toNat ≤ 57 := by
  unfold digB at h
  simpa using h
theorem val_lt (l : List UInt8) : (∀ c ∈ l, digB c = true) → val l < 10 ^ l.length := by
  induction l using snocInd with
  | base => intro _; decide
  | step l c ih =>
    intro h
    have h1 := ih (fun x hx => h x (by simp [hx]))
    have h2 := dig_range (h c (by simp))
    rw [val_snoc, List.length_append, List.length_singleton, Nat.pow_succ]
    omega
theorem back_byte (c : UInt8) (h : 48 ≤ c.toNat) : UInt8.ofNat (48 + (c.toNat - 48)) = c := by
  rw [show 48 + (c.toNat - 48) = c.toNat by omega]; simp
theorem canon (l : List UInt8) : l ≠ [] → (∀ c ∈ l, digB c = true) → (l.length = 1 ∨ l.head? ≠ some 48) → Lib.decDigits (val l) = l ∧ (l.head? ≠ some 48 → 1 ≤ val l) := by
  induction l using snocInd with
  | base => intro h; exact absurd rfl h
  | step l c ih =>
    intro _ hd hh
    have hc := dig_range (hd c (by simp))
    rw [val_snoc]
    by_cases hl : l = []
    · subst hl
      have e : val [] = 0 := rfl
      rw [e, Nat.mul_zero, Nat.zero_add]
      refine ⟨?_, fun h => ?_⟩
      · rw [Lib.decDigits_one (by omega), back_byte c hc.1]; rfl
      · have : c ≠ 48 := fun e => h (by rw [e]; rfl)
        have : c.toNat ≠ 48 := fun e => this (UInt8.toNat_inj.1 e)
        omega
    · have hlen : 1 ≤ l.length := List.length_pos_iff.2 hl
      have hh1 : l.head? ≠ some 48 := by
        rcases hh with h | h
        · rw [List.length_append, List.length_singleton] at h; omega
        · intro e
          apply h
          rw [List.head?_append, e]; rfl
      obtain ⟨i1, i2⟩ := ih hl (fun x hx => hd x (by simp [hx])) (.inr hh1)
      have i3 := i2 hh1
      refine ⟨?_, fun _ => by omega⟩
      rw [Lib.decDigits, dif_neg (by omega), show (10 * val l + (c.toNat - 48)) / 10 = val l by omega, show (10 * val l + (c.toNat - 48)) % 10 = c.toNat - 48 by omega, i1, back_byte c hc.1]
theorem ofNat_dig (d : Nat) (h : d < 10) : (UInt8.ofNat (48 + d)).toNat = 48 + d := by rw [UInt8.toNat_ofNat']; omega
theorem val_digits : ∀ u : Nat, val (Lib.decDigits u) = u := by
  intro u
  induction u using Nat.strongRecOn with
  | ind u ih =>
    by_cases h : u < 10
    · rw [Lib.decDigits_one h, show [UInt8.ofNat (48 + u)] = [] ++ [UInt8.ofNat (48 + u)] from rfl, val_snoc, ofNat_dig u h]
      have e : val [] = 0 := rfl
      omega
    · rw [Lib.decDigits, dif_neg h, val_snoc, ih (u / 10) (by omega), ofNat_dig _ (by omega)]
      omega
theorem digits_ne (u : Nat) : Lib.decDigits u ≠ [] := by
  rw [Lib.decDigits]
  split <;> simp
theorem digits_head : ∀ u : Nat, 1 ≤ u → (Lib.decDigits u).head? ≠ some 48 := by
  intro u
  induction u using Nat.strongRecOn with
  | ind u ih =>
    intro h1
    by_cases h : u < 10
    · rw [Lib.decDigits_one h]
      intro e
      have := congrArg UInt8.toNat (Option.some.inj e)
      rw [ofNat_dig u h] at this
      have : (48 : UInt8).toNat = 48 := rfl
      omega
    · rw [Lib.decDigits, dif_neg h, List.head?_append]
      have := ih (u / 10) (by omega) (by omega)
      cases hd : (Lib.decDigits (u / 10)).head? with
      | none => exact absurd (List.head?_eq_none_iff.1 hd) (digits_ne _)
      | some c => rw [hd] at this; exact this
theorem digits_length : ∀ (k u : Nat), 1 ≤ k → u < 10 ^ k → (Lib.decDigits u).length ≤ k
  | 0, u, h, _ => absurd h (by omega)
  | 1, u, _, h => by rw [Lib.decDigits_one (by omega)]; simp
  | k + 2, u, _, h => by
    by_cases h1 : u < 10
    · rw [Lib.decDigits_one h1]; simp
    · rw [Lib.decDigits, dif_neg h1, List.length_append, List.length_singleton]
      have := digits_length (k + 1) (u / 10) (by omega) (by rw [Nat.pow_succ] at h; omega)
      omega
theorem count_neg (l : List UInt8) (most : Int) (h : ¬ 0 ≤ countL l most) : countL l most = -1 := by
  unfold countL at h ⊢
  split
  · rename_i n hn
    split
    · rename_i hc
      rw [hn] at h
      simp only [if_pos hc] at h
      exfalso
      have e : Lib.itoa n = 45 :: Lib.decDigits n.natAbs := by unfold Lib.itoa; rw [if_pos (by omega)]
      have := hc.1
      rw [← hc.2.2, e] at this
      unfold allB at this
      simp at this
      exact absurd this.1 (by decide)
    · rfl
  · rfl
/-- May digits be read: some, at most thirteen, no nought ahead. -/
structure Plain (l : List UInt8) : Prop where
  ne : l ≠ []
  few : l.length ≤ 13
  head : l.length = 1 ∨ l.head? ≠ some 48
  dig : ∀ c ∈ l, digB c = true
theorem plain_digits (u : Nat) (h : u ≤ 1000000000000) : Plain (Lib.decDigits u) := by
  refine ⟨digits_ne u, digits_length 13 u (by omega) (by omega), ?_, ?_⟩
  · rcases Nat.eq_zero_or_pos u with e | e
    · subst e; left; rw [Lib.decDigits_one (by omega)]; rfl
    · right; exact digits_head u e
  · have := allB_digits u
    unfold allB at this
    rw [Bool.and_eq_true, List.all_eq_true] at this
    exact this.1
theorem count_yes {l : List UInt8} (h : Plain l) (most : Int) (h1 : (val l : Int) ≤ most) (hm : most ≤ 1000000000000) : countL l most = val l := by
  have e := (canon l h.ne h.dig h.head).1
  have := count_itoa (val l) most h1 hm
  rw [itoa_nat, e] at this
  exact this
theorem count_no {l : List UInt8} (most : Int) (hm0 : 0 ≤ most) (hm : most ≤ 1000000000000) (h : ¬ (Plain l ∧ (val l : Int) ≤ most)) : countL l most = -1 := by
  apply count_neg
  intro hn
  apply h
  have e1 := count_itoa_eq hn
  have e2 := (count_le l most hm0).1
  obtain ⟨u, hu⟩ : ∃ u : Nat, countL l most = (u : Int) := ⟨(countL l most).toNat, by omega⟩
  rw [hu] at e1 e2
  rw [itoa_nat] at e1
  rw [← e1]
  exact ⟨plain_digits u (by omega), by rw [val_digits]; exact e2⟩
/-- The amount that a text of parts tells. -/
def amt (l w : List UInt8) (d1 d2 : UInt8) : Int := (if l.head? = some 45 then -1 else 1) * (100 * countL w 10000000000 + ((10 * (d1.toNat - 48) + (d2.toNat - 48) : Nat) : Int))
theorem count_digits {w : List UInt8} {most : Int} (h : 0 ≤ countL w most) : w ≠ [] ∧ ∀ c ∈ w, digB c = true := by
  have e := count_itoa_eq h
  obtain ⟨u, hu⟩ : ∃ u : Nat, countL w most = (u : Int) := ⟨(countL w most).toNat, by omega⟩
  rw [hu, itoa_nat] at e
  rw [← e]
  refine ⟨digits_ne u, ?_⟩
  have := allB_digits u
  unfold allB at this
  rw [Bool.and_eq_true, List.all_eq_true] at this
  exact this.1
theorem trim_minus (l : List UInt8) : Lib.trimPrefix (45 :: l) [45] = l := by simp [Lib.trimPrefix, Lib.hasPrefix, List.isPrefixOf]
theorem trim_other (l : List UInt8) (h : l.head? ≠ some 45) : Lib.trimPrefix l [45] = l := by
  cases l with
  | nil => rfl
  | cons c l =>
    have : ¬ (45 : UInt8) = c := fun e => h (by rw [← e]; rfl)
    simp [Lib.trimPrefix, Lib.hasPrefix, List.isPrefixOf, this]
theorem digits_not_minus (u : Nat) (r : List UInt8) : (Lib.decDigits u ++ r).head? ≠ some 45 := by
  rw [List.head?_append]
  cases hd : (Lib.decDigits u).head? with
  | none => exact absurd (List.head?_eq_none_iff.1 hd) (digits_ne _)
  | some c =>
    intro e
    have hc : c = 45 := by simpa using e
    have hm : c ∈ Lib.decDigits u := List.mem_of_mem_head? hd
    have := allB_digits u
    unfold allB at this
    rw [Bool.and_eq_true, List.all_eq_true] at this
    have := this.1 c hm
    rw [hc] at this
    exact absurd this (by decide)
theorem parts_of {l : List UInt8} (h : parseB l = true) : ∃ (u : Nat) (a b : UInt8), Lib.trimPrefix l [45] = Lib.itoa ((u / 100 : Nat) : Int) ++ [46, a, b] ∧ u ≤ 1000000000000 ∧ digB a = true ∧ digB b = true := by
  unfold parseB at h
  simp only [Bool.and_eq_true, beq_iff_eq, decide_eq_true_eq] at h
  obtain ⟨⟨⟨h1, h2⟩, h3⟩, h4⟩ := h
  have hne := whole_ne h1
  have hin : InMoney (amountL l) = true := by
    cases hi : InMoney (amountL l) with
    | true => rfl
    | false =>
      unfold textL at h4
      rw [hi] at h4
      exact absurd h4.symm hne
  obtain ⟨u, hu⟩ : ∃ u : Nat, (amountL l).natAbs = u := ⟨_, rfl⟩
  have hb : u ≤ 1000000000000 := by
    unfold InMoney at hin
    simp at hin
    omega
  obtain ⟨a, b, e, da, db, -, -⟩ := three_at (u % 100) (by omega)
  refine ⟨u, a, b, ?_, hb, da, db⟩
  unfold textL at h4
  rw [if_pos hin, hu] at h4
  unfold restL at h4
  rw [e] at h4
  rw [← h4]
  by_cases hs : amountL l < 0
  · rw [if_pos hs]
    exact trim_minus _
  · rw [if_neg hs, List.nil_append, itoa_nat]
    exact trim_other _ (digits_not_minus _ _)
theorem cut_parts {l w : List UInt8} {d1 d2 : UInt8} (ht : Lib.trimPrefix l [45] = w ++ [46, d1, d2]) (hw : ∀ c ∈ w, digB c = true) : wholeL l = w ∧ behindL l = [d1, d2] ∧ amountL l = amt l w d1 d2 := by
  have hc := cut_word 46 w [d1, d2] (fun b hb e => by have := hw b hb; rw [e] at this; exact absurd this (by decide))
  have h1 : wholeL l = w := by unfold wholeL; rw [ht]; exact congrArg Prod.fst hc
  have h2 : behindL l = [d1, d2] := by unfold behindL; rw [ht]; exact congrArg (fun x => x.2.1) hc
  refine ⟨h1, h2, ?_⟩
  unfold amountL sizeL amt
  rw [h1, h2]
  simp only [List.getD_cons_zero, List.getD_cons_succ]
  generalize countL w 10000000000 = n
  push_cast
  split <;> omega
theorem parse_split (l w : List UInt8) (c d1 d2 : UInt8) (ht : Lib.trimPrefix l [45] = w ++ [c, d1, d2]) : parseL l = if c = 46 ∧ digB d1 = true ∧ digB d2 = true ∧ 0 ≤ countL w 10000000000 ∧ textL (amt l w d1 d2) = l then (amt l w d1 d2, 0) else (0, 20) := by
  by_cases H : c = 46 ∧ digB d1 = true ∧ digB d2 = true ∧ 0 ≤ countL w 10000000000 ∧ textL (amt l w d1 d2) = l
  · rw [if_pos H]
    obtain ⟨rfl, h1, h2, h3, h4⟩ := H
    obtain ⟨e1, e2, e3⟩ := cut_parts ht (count_digits h3).2
    have hb : parseB l = true := by
      unfold parseB
      rw [e1, e2, e3, decide_eq_true h3, h4]
      unfold allB
      simp [h1, h2]
    rw [parse_yes hb, e3]
  · rw [if_neg H]
    apply parse_no
    cases hb : parseB l with
    | false => rfl
    | true =>
      exfalso
      apply H
      obtain ⟨u, a, b, e, hu, da, db⟩ := parts_of hb
      rw [ht] at e
      obtain ⟨rfl, e2⟩ := List.append_inj' e rfl
      simp only [List.cons.injEq, and_true] at e2
      obtain ⟨rfl, rfl, rfl⟩ := e2
      have hc : 0 ≤ countL (Lib.itoa ((u / 100 : Nat) : Int)) 10000000000 := by rw [count_itoa _ _ (by omega) (by decide)]; omega
      obtain ⟨e1, e2, e3⟩ := cut_parts ht (count_digits hc).2
      refine ⟨rfl, da, db, hc, ?_⟩
      unfold parseB at hb
      simp only [Bool.and_eq_true, beq_iff_eq] at hb
      rw [← e3]
      exact hb.2
theorem parse_short (l : List UInt8) (h : (Lib.trimPrefix l [45]).length < 4) : parseL l = (0, 20) := by
  apply parse_no
  cases hb : parseB l with
  | false => rfl
  | true =>
    obtain ⟨u, a, b, e, hu, da, db⟩ := parts_of hb
    rw [e, itoa_nat, List.length_append] at h
    have := List.length_pos_iff.2 (digits_ne (u / 100))
    simp at h
    omega
end Go.Proofs.YtbecemdehelooaaGreatDoor.FeedRp
/- The document's numbers that are read. -/
namespace Go.Proofs.YtbecemdehelooaaGreatDoor.FeedRc
open Go.RowKit Go.Proofs.YtbecemdehelooaaGreatDoor.FrameS Go.Proofs.YtbecemdehelooaaGreatDoor.FrameP Go.Proofs.YtbecemdehelooaaGreatDoor.FeedG Go.Proofs.YtbecemdehelooaaGreatDoor.FeedD Go.Proofs.YtbecemdehelooaaGreatDoor.FeedT Go.Proofs.YtbecemdehelooaaGreatDoor.FeedP Go.Proofs.YtbecemdehelooaaGreatDoor.FeedQ Go.Proofs.YtbecemdehelooaaGreatDoor.FeedX Go.Proofs.YtbecemdehelooaaGreatDoor.FeedN Go.Proofs.YtbecemdehelooaaGreatDoor.FeedE Go.Proofs.YtbecemdehelooaaGreatDoor.FeedPl Go.Proofs.YtbecemdehelooaaGreatDoor.FeedPm Go.Proofs.YtbecemdehelooaaGreatDoor.FeedR Go.Proofs.YtbecemdehelooaaGreatDoor.FeedRp Go.Proofs.YtbecemdehelooaaGreatDoorW.PrintWords Go.Proofs.YtbecemdehelooaaGreatDoorW.PrintLast Go.Proofs.YtbecemdehelooaaGreatDoorW.PrintMore
set_option linter.unusedVariables false
set_option linter.unusedSimpArgs false
theorem take_snoc (l : List UInt8) (k : Nat) (h : k < l.length) : l.take (k + 1) = l.take k ++ [l[k]] := by
  rw [List.take_add_one, List.getElem?_eq_getElem h]; rfl
set_option maxHeartbeats 4000000 in
set_option maxRecDepth 20000 in
theorem refcount_calls (s : ByteArray) (most : Int) (h0 : 0 ≤ most) (hm : most ≤ 1000000000000) (w : World) : Calls Tryz.prog 43 #[.string s, .int .i64 most] w fun e w' => e = .returned (.int .i64 (countL (tl s) most)) ∧ w = w' := by
  have HM0 := Aside0.mk h0
  have HM1 := Aside0.mk hm
  have hl := tl_length s
  by_cases hz : tl s = []
  · have hs : s = ⟨#[]⟩ := tl_inj hz
    have HR := Aside0.mk (show countL (tl s) most = -1 from count_no most h0 hm (fun h => h.1.ne hz))
    subst hs
    clear hl hz
    go_enter Tryz.func43, Tryz.ntmps43
    go_wp2_with fail
    go_ret
    exact ⟨by rw [HR.out]; rfl, rfl⟩
  obtain ⟨c0, l, hc0⟩ : ∃ c l, tl s = c :: l := by
    cases h : tl s with
    | nil => exact absurd h hz
    | cons c l => exact ⟨c, l, rfl⟩
  have hp : 0 < s.size := by rw [← hl, hc0]; simp
  have dne : s.toList.isEmpty = false := by rw [toList_data]; show (tl s).isEmpty = false; rw [hc0]; rfl
  by_cases h13 : 13 < s.size
  · have HR := Aside0.mk (show countL (tl s) most = -1 from count_no most h0 hm (fun h => by have := h.1.few; omega))
    have d13 : decide ((13 : Int) < (s.size : Int)) = true := decide_eq_true (by omega)
    clear hl hz hc0
    go_enter Tryz.func43, Tryz.ntmps43
    go_wp2_with fail
    go_ret
    exact ⟨by rw [HR.out]; rfl, rfl⟩
  have d13 : decide ((13 : Int) < (s.size : Int)) = false := decide_eq_false (by omega)
  have hsc0 : ∀ h : 0 < s.size, s[0]'h = c0 := fun h => by
    have : (tl s)[0]'(by rw [hc0]; simp) = c0 := by simp [hc0]
    exact this
  have HL := Aside0.mk hl
  by_cases h1 : 1 < s.size
  · have d1 : decide ((1 : Int) < (s.size : Int)) = true := decide_eq_true (by omega)
    by_cases h48 : c0.toNat = 48
    · have b48 : ((c0.toNat : Int) == 48) = true := beq_iff_eq.2 (by omega)
      have HR := Aside0.mk (show countL (tl s) most = -1 from count_no most h0 hm (fun h => by
        rcases h.1.head with e | e
        · omega
        · apply e; rw [hc0, List.head?_cons]; exact congrArg some (UInt8.toNat_inj.1 h48)))
      clear hl hz hc0 h48
      go_enter Tryz.func43, Tryz.ntmps43
      go_wp2_with fail
      go_ret
      exact ⟨by rw [HR.out]; rfl, rfl⟩
    · have b48 : ((c0.toNat : Int) == 48) = false := beq_eq_false_iff_ne.2 (by omega)
      have HH := Aside0.mk (show (tl s).length = 1 ∨ (tl s).head? ≠ some 48 by
        right; rw [hc0, List.head?_cons]; intro e; apply h48; rw [Option.some.inj e]; rfl)
      have HZ := Aside0.mk hz
      clear hl hz hc0 h48
      go_enter Tryz.func43, Tryz.ntmps43
      go_wp2_with fail
      clear b48 d1 d13 dne hsc0
      go_loopw [5, 6] (fun vn vi wx => ∃ (k : Nat), vi = .int .i64 (k : Int) ∧ k ≤ s.size ∧ vn = .int .i64 (val ((tl s).take k) : Nat) ∧ Aside0 (∀ c ∈ (tl s).take k, digB c = true) ∧ w = wx) (fun _ vi _ => s.size - (intOf vi).toNat)
      case atStart => exact ⟨0, rfl, by omega, rfl, ⟨by simp⟩, rfl⟩
      case round =>
        obtain ⟨k, rfl, hk, rfl, HA, rfl⟩ := hrel
        by_cases hlt : k < s.size
        · have hkl : k < (tl s).length := by have := HL.out; omega
          have HT := Aside0.mk (take_snoc (tl s) k hkl)
          obtain ⟨c, hc⟩ : ∃ c, (tl s)[k] = c := ⟨_, rfl⟩
          have hsc : ∀ h : k < s.size, s[k]'h = c := fun h => by rw [← hc]; rfl
          have HM := Aside0.mk (show c ∈ tl s by rw [← hc]; exact List.getElem_mem hkl)
          rw [hc] at HT
          have hv : val ((tl s).take k) < 10 ^ 12 := Nat.lt_of_lt_of_le (val_lt _ HA.out) (Nat.pow_le_pow_right (by decide) (by rw [List.length_take]; omega))
          have hv2 : val ((tl s).take k) < 1000000000000 := hv
          obtain ⟨n, hn⟩ : ∃ n, val ((tl s).take k) = n := ⟨_, rfl⟩
          have HN := Aside0.mk hn
          rw [hn] at hv2 ⊢
          clear hc hv hn
          by_cases c1 : c.toNat < 48
          · have d1 : decide ((c.toNat : Int) < 48) = true := decide_eq_true (by omega)
            have HR := Aside0.mk (show countL (tl s) most = -1 from count_no most HM0.out HM1.out (fun h => by
              have := dig_range (h.1.dig c HM.out)
              omega))
            clear c1
            go_wp2_with fail
            go_ret
            exact ⟨by rw [HR.out]; rfl, rfl⟩
          · have d1 : decide ((c.toNat : Int) < 48) = false := decide_eq_false (by omega)
            by_cases c2 : 57 < c.toNat
            · have d2 : decide ((57 : Int) < (c.toNat : Int)) = true := decide_eq_true (by omega)
              have HR := Aside0.mk (show countL (tl s) most = -1 from count_no most HM0.out HM1.out (fun h => by
                have := dig_range (h.1.dig c HM.out)
                omega))
              clear c1 c2
              go_wp2_with fail
              go_ret
              exact ⟨by rw [HR.out]; rfl, rfl⟩
            · have d2 : decide ((57 : Int) < (c.toNat : Int)) = false := decide_eq_false (by omega)
              have hcd : digB c = true := by unfold digB; rw [decide_eq_true (by omega : 48 ≤ c.toNat), decide_eq_true (by omega : c.toNat ≤ 57)]; rfl
              have HV := Aside0.mk (show ((val ((tl s).take (k + 1)) : Nat) : Int) = 10 * (n : Int) + ((c.toNat : Int) - 48) by
                rw [HT.out, val_snoc, HN.out]; push_cast; omega)
              have HA2 := Aside0.mk (show ∀ x ∈ (tl s).take (k + 1), digB x = true by
                rw [HT.out]
                intro x hx
                rcases List.mem_append.1 hx with h | h
                · exact HA.out x h
                · rw [List.mem_singleton.1 h]; exact hcd)
              have hcr : 48 ≤ c.toNat ∧ c.toNat ≤ 57 := by omega
              clear hcd hkl
              go_wp2_with fail
              go_roundw
              case rel => exact ⟨k + 1, by first | rfl | (push_cast; rfl), by omega, by rw [HV.out], HA2, by first | rfl | trivial⟩
              case measure => simp [intOf]; omega
        · obtain rfl : k = s.size := by omega
          have eT : (tl s).take s.size = tl s := List.take_of_length_le (by have := HL.out; omega)
          rw [eT] at HA ⊢
          have hpl : Plain (tl s) := ⟨HZ.out, by have := HL.out; omega, HH.out, HA.out⟩
          obtain ⟨N, hN⟩ : ∃ N, val (tl s) = N := ⟨_, rfl⟩
          have HPL := Aside0.mk hpl
          have HN := Aside0.mk hN
          rw [hN]
          clear eT hpl hN
          by_cases hm1 : most < (N : Int)
          · have d1 : decide (most < (N : Int)) = true := decide_eq_true hm1
            have HR := Aside0.mk (show countL (tl s) most = -1 from count_no most HM0.out HM1.out (fun h => by have := h.2; rw [HN.out] at this; omega))
            go_wp2_with fail
            go_ret
            exact ⟨by rw [HR.out]; rfl, rfl⟩
          · have d1 : decide (most < (N : Int)) = false := decide_eq_false hm1
            have d2 : decide ((1000000000000 : Int) < (N : Int)) = false := decide_eq_false (by have := HM1.out; omega)
            have HR := Aside0.mk (show countL (tl s) most = (N : Int) by rw [count_yes HPL.out most (by rw [HN.out]; omega) HM1.out, HN.out])
            go_wp2_with fail
            go_ret
            exact ⟨by rw [HR.out]; rfl, rfl⟩
  · have d1 : decide ((1 : Int) < (s.size : Int)) = false := decide_eq_false (by omega)
    have HH := Aside0.mk (show (tl s).length = 1 ∨ (tl s).head? ≠ some 48 by left; omega)
    have HZ := Aside0.mk hz
    clear hl hz hc0
    go_enter Tryz.func43, Tryz.ntmps43
    go_wp2_with fail
    clear d1 d13 dne hsc0
    go_loopw [5, 6] (fun vn vi wx => ∃ (k : Nat), vi = .int .i64 (k : Int) ∧ k ≤ s.size ∧ vn = .int .i64 (val ((tl s).take k) : Nat) ∧ Aside0 (∀ c ∈ (tl s).take k, digB c = true) ∧ w = wx) (fun _ vi _ => s.size - (intOf vi).toNat)
    case atStart => exact ⟨0, rfl, by omega, rfl, ⟨by simp⟩, rfl⟩
    case round =>
      obtain ⟨k, rfl, hk, rfl, HA, rfl⟩ := hrel
      by_cases hlt : k < s.size
      · have hkl : k < (tl s).length := by have := HL.out; omega
        have HT := Aside0.mk (take_snoc (tl s) k hkl)
        obtain ⟨c, hc⟩ : ∃ c, (tl s)[k] = c := ⟨_, rfl⟩
        have hsc : ∀ h : k < s.size, s[k]'h = c := fun h => by rw [← hc]; rfl
        have HM := Aside0.mk (show c ∈ tl s by rw [← hc]; exact List.getElem_mem hkl)
        rw [hc] at HT
        have hv : val ((tl s).take k) < 10 ^ 12 := Nat.lt_of_lt_of_le (val_lt _ HA.out) (Nat.pow_le_pow_right (by decide) (by rw [List.length_take]; omega))
        have hv2 : val ((tl s).take k) < 1000000000000 := hv
        obtain ⟨n, hn⟩ : ∃ n, val ((tl s).take k) = n := ⟨_, rfl⟩
        have HN := Aside0.mk hn
        rw [hn] at hv2 ⊢
        clear hc hv hn
        by_cases c1 : c.toNat < 48
        · have d1 : decide ((c.toNat : Int) < 48) = true := decide_eq_true (by omega)
          have HR := Aside0.mk (show countL (tl s) most = -1 from count_no most HM0.out HM1.out (fun h => by
            have := dig_range (h.1.dig c HM.out)
            omega))
          clear c1
          go_wp2_with fail
          go_ret
          exact ⟨by rw [HR.out]; rfl, rfl⟩
        · have d1 : decide ((c.toNat : Int) < 48) = false := decide_eq_false (by omega)
          by_cases c2 : 57 < c.toNat
          · have d2 : decide ((57 : Int) < (c.toNat : Int)) = true := decide_eq_true (by omega)
            have HR := Aside0.mk (show countL (tl s) most = -1 from count_no most HM0.out HM1.out (fun h => by
              have := dig_range (h.1.dig c HM.out)
              omega))
            clear c1 c2
            go_wp2_with fail
            go_ret
            exact ⟨by rw [HR.out]; rfl, rfl⟩
          · have d2 : decide ((57 : Int) < (c.toNat : Int)) = false := decide_eq_false (by omega)
            have hcd : digB c = true := by unfold digB; rw [decide_eq_true (by omega : 48 ≤ c.toNat), decide_eq_true (by omega : c.toNat ≤ 57)]; rfl
            have HV := Aside0.mk (show ((val ((tl s).take (k + 1)) : Nat) : Int) = 10 * (n : Int) + ((c.toNat : Int) - 48) by
              rw [HT.out, val_snoc, HN.out]; push_cast; omega)
            have HA2 := Aside0.mk (show ∀ x ∈ (tl s).take (k + 1), digB x = true by
              rw [HT.out]
              intro x hx
              rcases List.mem_append.1 hx with h | h
              · exact HA.out x h
              · rw [List.mem_singleton.1 h]; exact hcd)
            have hcr : 48 ≤ c.toNat ∧ c.toNat ≤ 57 := by omega
            clear hcd hkl
            go_wp2_with fail
            go_roundw
            case rel => exact ⟨k + 1, by first | rfl | (push_cast; rfl), by omega, by rw [HV.out], HA2, by first | rfl | trivial⟩
            case measure => simp [intOf]; omega
      · obtain rfl : k = s.size := by omega
        have eT : (tl s).take s.size = tl s := List.take_of_length_le (by have := HL.out; omega)
        rw [eT] at HA ⊢
        have hpl : Plain (tl s) := ⟨HZ.out, by have := HL.out; omega, HH.out, HA.out⟩
        obtain ⟨N, hN⟩ : ∃ N, val (tl s) = N := ⟨_, rfl⟩
        have HPL := Aside0.mk hpl
        have HN := Aside0.mk hN
        rw [hN]
        clear eT hpl hN
        by_cases hm1 : most < (N : Int)
        · have d1 : decide (most < (N : Int)) = true := decide_eq_true hm1
          have HR := Aside0.mk (show countL (tl s) most = -1 from count_no most HM0.out HM1.out (fun h => by have := h.2; rw [HN.out] at this; omega))
          go_wp2_with fail
          go_ret
          exact ⟨by rw [HR.out]; rfl, rfl⟩
        · have d1 : decide (most < (N : Int)) = false := decide_eq_false hm1
          have d2 : decide ((1000000000000 : Int) < (N : Int)) = false := decide_eq_false (by have := HM1.out; omega)
          have HR := Aside0.mk (show countL (tl s) most = (N : Int) by rw [count_yes HPL.out most (by rw [HN.out]; omega) HM1.out, HN.out])
          go_wp2_with fail
          go_ret
          exact ⟨by rw [HR.out]; rfl, rfl⟩
theorem tl_extract (s : ByteArray) (m : Nat) : tl (s.extract 0 m) = (tl s).take m := by
  rw [FeedT.tl_ext, List.drop_zero]
theorem three_end (T : List UInt8) (m : Nat) (h : T.length = m + 3) : ∃ c d1 d2, T = T.take m ++ [c, d1, d2] ∧ T[m]? = some c ∧ T.drop (m + 1) = [d1, d2] := by
  have h1 : (T.drop m).length = 3 := by rw [List.length_drop]; omega
  match hd : T.drop m, h1 with
  | [c, d1, d2], _ =>
    refine ⟨c, d1, d2, ?_, ?_, ?_⟩
    · rw [← hd, List.take_append_drop]
    · have := congrArg (fun l => l[0]?) hd
      simpa using this
    · have := congrArg (List.drop 1) hd
      rw [List.drop_drop] at this
      exact this
set_option maxHeartbeats 4000000 in
set_option maxRecDepth 20000 in
theorem refparse_calls (s : ByteArray) (hs : s.size ≤ 100000) (w : World) : Calls Tryz.prog 44 #[.string s] w fun e w' => e = .returned (.tuple #[.int .i64 (parseL (tl s)).1, .int .i64 (parseL (tl s)).2]) ∧ Below w.heap.size w w' := by
  have hl := tl_length s
  have HB := Aside0.mk (Below.refl w.heap.size w)
  by_cases hz : tl s = []
  · have hs0 : s = ⟨#[]⟩ := tl_inj hz
    have HR := Aside0.mk (show parseL (tl s) = (0, 20) from parse_short _ (by rw [hz]; decide))
    subst hs0
    clear hl hz
    go_enter Tryz.func44, Tryz.ntmps44
    go_wp2_with fail
    go_ret2
    exact ⟨by rw [HR.out]; rfl, HB.out⟩
  obtain ⟨c0, l, hc0⟩ : ∃ c l, tl s = c :: l := by
    cases h : tl s with
    | nil => exact absurd h hz
    | cons c l => exact ⟨c, l, rfl⟩
  have hp : 0 < s.size := by rw [← hl, hc0]; simp
  have dne : s.toList.isEmpty = false := by rw [toList_data]; show (tl s).isEmpty = false; rw [hc0]; rfl
  have hsc0 : ∀ h : 0 < s.size, s[0]'h = c0 := fun h => by
    have : (tl s)[0]'(by rw [hc0]; simp) = c0 := by simp [hc0]
    exact this
  by_cases h45 : c0.toNat = 45
  · have b45 : ((c0.toNat : Int) == 45) = true := beq_iff_eq.2 (by omega)
    have hc45 : c0 = 45 := UInt8.toNat_inj.1 h45
    have HSG := Aside0.mk (show (if (tl s).head? = some 45 then (-1 : Int) else 1) = -1 by rw [hc0, hc45]; rfl)
    obtain ⟨T, hT⟩ : ∃ T, s.extract 1 s.size = T := ⟨_, rfl⟩
    have HT := Aside0.mk (show tl T = Lib.trimPrefix (tl s) [45] by
      rw [← hT, FeedT.tl_ext, List.take_of_length_le (by omega), hc0, hc45, trim_minus]; rfl)
    have hTs : T.size ≤ 100000 := by rw [← hT, ByteArray.size_extract]; omega
    have hp1 : (1 : Int) ≤ (s.size : Int) := by omega
    clear hl hz hc0 hc45 h45
    go_enter Tryz.func44, Tryz.ntmps44
    go_upto_region 6 with (fail)
    (try rw [hT])
    clear b45 hsc0 dne hT hp hp1
    have hTl := tl_length T
    by_cases h4 : T.size < 4
    · have d4 : decide ((T.size : Int) < 4) = true := decide_eq_true (by omega)
      have HR := Aside0.mk (show parseL (tl s) = (0, 20) from parse_short _ (by rw [← HT.out]; omega))
      clear h4 hTl
      go_wp2_with fail
      go_ret2
      exact ⟨by rw [HR.out]; rfl, HB.out⟩
    · obtain ⟨m, hm⟩ : ∃ m, T.size = m + 3 := ⟨T.size - 3, by omega⟩
      have hm1 : 1 ≤ m := by omega
      have d4 : decide ((T.size : Int) < 4) = false := decide_eq_false (by omega)
      obtain ⟨c, d1, d2, hsp, hgc, hR⟩ := three_end (tl T) m (by omega)
      obtain ⟨Wd, hWd⟩ : ∃ W, (tl T).take m = W := ⟨_, rfl⟩
      rw [hWd] at hsp
      have HPS := Aside0.mk (parse_split (tl s) Wd c d1 d2 (by rw [← HT.out]; exact hsp))
      have HR := Aside0.mk hR
      have hmT : m < T.size := by omega
      have hsc : ∀ h : m < T.size, T[m]'h = c := fun h => by
        have e1 : (tl T)[m]? = some (T[m]'h) := List.getElem?_eq_getElem (by rw [hTl]; exact h)
        rw [hgc] at e1
        exact (Option.some.inj e1).symm
      have HTL := Aside0.mk hTl
      have HM := Aside0.mk hm
      have hTi : (T.size : Int) = (m : Int) + 3 := by omega
      by_cases c46 : c.toNat = 46
      · have b46 : ((c.toNat : Int) != 46) = false := bne_eq_false_iff_eq.2 (by omega)
        have hc46 : c = 46 := UInt8.toNat_inj.1 c46
        have HCO := Aside0.mk (refcount_calls (T.extract 0 m) 10000000000 (by decide) (by decide) w)
        rw [tl_extract, hWd] at HCO
        have hn1 := count_le Wd 10000000000 (by decide)
        have hn2 : countL Wd 10000000000 = -1 ∨ 0 ≤ countL Wd 10000000000 := by
          by_cases h : 0 ≤ countL Wd 10000000000
          · exact .inr h
          · exact .inl (count_neg _ _ h)
        have HPS2 := Aside0.mk (show parseL (tl s) = if digB d1 = true ∧ digB d2 = true ∧ 0 ≤ countL Wd 10000000000 ∧ textL (amt (tl s) Wd d1 d2) = tl s then (amt (tl s) Wd d1 d2, 0) else (0, 20) by
          rw [HPS.out]
          simp only [hc46, true_and])
        have HAM := Aside0.mk (show amt (tl s) Wd d1 d2 = (-1) * (100 * countL Wd 10000000000 + ((10 * (d1.toNat - 48) + (d2.toNat - 48) : Nat) : Int)) by
          unfold amt; rw [HSG.out])
        obtain ⟨n, hn⟩ : ∃ n, countL Wd 10000000000 = n := ⟨_, rfl⟩
        rw [hn] at HCO hn1 hn2 HPS2 HAM
        have hnb : -1 ≤ n ∧ n ≤ 10000000000 := by omega
        clear hn1 hn2 hn hWd hsp hR hgc HPS c46 hc46 h4 hTl
        go_wp2_with fail
        refine HCO.out.mono ?_
        rintro e w1 ⟨rfl, rfl⟩
        go_wp2_with fail
        have HHR := Aside0.mk (show ∀ k, ∀ h : T.size > m + 1 + k, k < 2 → [d1, d2][k]? = some (T[m + 1 + k]'h) from fun k h hk => by
          rw [← HR.out, List.getElem?_drop]
          exact List.getElem?_eq_getElem (by rw [HTL.out]; exact h))
        clear hsc b46 HCO d4
        go_loopw [7, 8] (fun vr vi wx => ∃ k : Nat, vi = .int .i64 ((m : Int) + 1 + (k : Int)) ∧ k ≤ 2 ∧ vr = .int .i64 (val ([d1, d2].take k) : Nat) ∧ Aside0 (∀ c ∈ [d1, d2].take k, digB c = true) ∧ w = wx) (fun _ vi _ => (m + 3) - (intOf vi).toNat)
        case atStart => exact ⟨0, by simp; omega, by omega, rfl, ⟨by simp⟩, rfl⟩
        case round =>
          obtain ⟨k, rfl, hk, rfl, HA, rfl⟩ := hrel
          by_cases hlt : k < 2
          · have hkT : m + 1 + k < T.size := by omega
            obtain ⟨e, he⟩ : ∃ e, T[m + 1 + k]'hkT = e := ⟨_, rfl⟩
            have hse : ∀ h : m + 1 + k < T.size, T[m + 1 + k]'h = e := fun h => he
            have hge := HHR.out k hkT hlt
            rw [he] at hge
            have HE := Aside0.mk (show e = d1 ∨ e = d2 by
              have : k = 0 ∨ k = 1 := by omega
              rcases this with rfl | rfl
              · left; exact (Option.some.inj hge).symm
              · right; exact (Option.some.inj hge).symm)
            have HT2 := Aside0.mk (show [d1, d2].take (k + 1) = [d1, d2].take k ++ [e] by rw [List.take_add_one, hge]; rfl)
            have hv : val ([d1, d2].take k) < 10 ^ 2 := Nat.lt_of_lt_of_le (val_lt _ HA.out) (Nat.pow_le_pow_right (by decide) (by rw [List.length_take]; omega))
            have hv2 : val ([d1, d2].take k) < 100 := hv
            obtain ⟨r, hr⟩ : ∃ n, val ([d1, d2].take k) = n := ⟨_, rfl⟩
            have HRR := Aside0.mk hr
            rw [hr] at hv2 ⊢
            have HNO := Aside0.mk (show digB e = false → parseL (tl s) = (0, 20) from fun hd => by
              rw [HPS2.out, if_neg]
              rintro ⟨h1, h2, -⟩
              rcases HE.out with rfl | rfl
              · rw [hd] at h1; cases h1
              · rw [hd] at h2; cases h2)
            have HLT := Aside0.mk hlt
            clear he hv hr hge
            by_cases c1 : e.toNat < 48
            · have g1 : decide ((e.toNat : Int) < 48) = true := decide_eq_true (by omega)
              have HF := Aside0.mk (HNO.out (by unfold digB; rw [decide_eq_false (by omega : ¬ 48 ≤ e.toNat)]; rfl))
              clear c1
              go_wp2_with fail
              go_ret2
              exact ⟨by rw [HF.out]; rfl, HB.out⟩
            · have g1 : decide ((e.toNat : Int) < 48) = false := decide_eq_false (by omega)
              by_cases c2 : 57 < e.toNat
              · have g2 : decide ((57 : Int) < (e.toNat : Int)) = true := decide_eq_true (by omega)
                have HF := Aside0.mk (HNO.out (by unfold digB; rw [decide_eq_false (by omega : ¬ e.toNat ≤ 57), Bool.and_false]))
                clear c1 c2
                go_wp2_with fail
                go_ret2
                exact ⟨by rw [HF.out]; rfl, HB.out⟩
              · have g2 : decide ((57 : Int) < (e.toNat : Int)) = false := decide_eq_false (by omega)
                have hcd : digB e = true := by unfold digB; rw [decide_eq_true (by omega : 48 ≤ e.toNat), decide_eq_true (by omega : e.toNat ≤ 57)]; rfl
                have HV := Aside0.mk (show ((val ([d1, d2].take (k + 1)) : Nat) : Int) = 10 * (r : Int) + ((e.toNat : Int) - 48) by
                  rw [HT2.out, val_snoc, HRR.out]; push_cast; omega)
                have HA2 := Aside0.mk (show ∀ x ∈ [d1, d2].take (k + 1), digB x = true by
                  rw [HT2.out]
                  intro x hx
                  rcases List.mem_append.1 hx with h | h
                  · exact HA.out x h
                  · rw [List.mem_singleton.1 h]; exact hcd)
                have hcr : 48 ≤ e.toNat ∧ e.toNat ≤ 57 := by omega
                clear hcd
                go_wp2_with fail
                go_roundw
                case rel => exact ⟨k + 1, by first | rfl | (push_cast; rfl) | (congr 1; push_cast; omega), by omega, by rw [HV.out], HA2, by first | rfl | trivial⟩
                case measure => simp [intOf]; omega
          · obtain rfl : k = 2 := by omega
            have hdd : digB d1 = true ∧ digB d2 = true := ⟨HA.out d1 (by simp), HA.out d2 (by simp)⟩
            have hd1 := dig_range hdd.1
            have hd2 := dig_range hdd.2
            have hvR : val ([d1, d2].take 2) = 10 * (d1.toNat - 48) + (d2.toNat - 48) := by
              show val ([d1] ++ [d2]) = _
              rw [val_snoc, show [d1] = [] ++ [d1] from rfl, val_snoc]
              have e : val [] = 0 := rfl
              omega
            obtain ⟨r, hr⟩ : ∃ n, val ([d1, d2].take 2) = n := ⟨_, rfl⟩
            have hAM := HAM.out
            rw [← hvR, hr] at hAM
            have hA : amt (tl s) Wd d1 d2 = (-(100 * n + (r : Int))) := by rw [hAM]; omega
            have HPF := Aside0.mk (show parseL (tl s) = if 0 ≤ n ∧ textL (-(100 * n + (r : Int))) = tl s then ((-(100 * n + (r : Int))), 0) else (0, 20) by
              rw [HPS2.out, hA, hdd.1, hdd.2]
              simp only [true_and])
            have hr100 : r < 100 := by rw [← hr, hvR]; omega
            rw [hr]
            clear hdd hd1 hd2 hvR hr hA hlt hAM
            by_cases hn0 : n < 0
            · have dn : decide (n < 0) = true := decide_eq_true hn0
              have HF := Aside0.mk (show parseL (tl s) = (0, 20) by rw [HPF.out, if_neg]; rintro ⟨h, -⟩; omega)
              go_wp2_with fail
              go_ret2
              exact ⟨by rw [HF.out]; rfl, HB.out⟩
            · have dn : decide (n < 0) = false := decide_eq_false hn0
              go_wp2_with fail
              refine (reftext_calls (-(100 * n + (r : Int))) w).mono ?_
              rintro e w1 ⟨rfl, b⟩
              have B1 := Aside0.mk b
              clear b
              have hUt : tl (bd (textL (-(100 * n + (r : Int))))) = textL (-(100 * n + (r : Int))) := tl_bd _
              obtain ⟨U, hU⟩ : ∃ U, bd (textL (-(100 * n + (r : Int)))) = U := ⟨_, rfl⟩
              rw [hU] at hUt ⊢
              by_cases he : textL (-(100 * n + (r : Int))) = tl s
              · have HF := Aside0.mk (show parseL (tl s) = ((-(100 * n + (r : Int))), 0) by rw [HPF.out, if_pos ⟨by omega, he⟩])
                have bu : (U.toList == s.toList) = true := beq_iff_eq.2 (by rw [toList_data, toList_data]; exact hUt.trans he)
                clear hUt he hU hn0
                go_wp2_with fail
                go_ret2
                exact ⟨by rw [HF.out]; rfl, B1.out⟩
              · have HF := Aside0.mk (show parseL (tl s) = (0, 20) by rw [HPF.out, if_neg]; rintro ⟨-, h⟩; exact he h)
                have bu : (U.toList == s.toList) = false := beq_eq_false_iff_ne.2 (by rw [toList_data, toList_data]; intro h; exact he (hUt.symm.trans h))
                clear hUt he hU hn0
                go_wp2_with fail
                go_ret2
                exact ⟨by rw [HF.out]; rfl, B1.out⟩
      · have b46 : ((c.toNat : Int) != 46) = true := bne_iff_ne.2 (by omega)
        have HF := Aside0.mk (show parseL (tl s) = (0, 20) by rw [HPS.out, if_neg]; rintro ⟨e, -⟩; apply c46; rw [e]; rfl)
        clear hsp hR hgc c46 HPS h4 hTl hWd
        go_wp2_with fail
        go_ret2
        exact ⟨by rw [HF.out]; rfl, HB.out⟩
  · have b45 : ((c0.toNat : Int) == 45) = false := beq_eq_false_iff_ne.2 (by omega)
    have HSG := Aside0.mk (show (if (tl s).head? = some 45 then (-1 : Int) else 1) = 1 by
      rw [if_neg]; rw [hc0, List.head?_cons]; intro e; apply h45; rw [Option.some.inj e]; rfl)
    have HT := Aside0.mk (show tl s = Lib.trimPrefix (tl s) [45] from
      (trim_other _ (by rw [hc0, List.head?_cons]; intro e; apply h45; rw [Option.some.inj e]; rfl)).symm)
    clear hl hz hc0 h45
    go_enter Tryz.func44, Tryz.ntmps44
    go_upto_region 6 with (fail)
    clear b45 hsc0 dne hp
    have hTl := tl_length s
    by_cases h4 : s.size < 4
    · have d4 : decide ((s.size : Int) < 4) = true := decide_eq_true (by omega)
      have HR := Aside0.mk (show parseL (tl s) = (0, 20) from parse_short _ (by rw [← HT.out]; omega))
      clear h4 hTl
      go_wp2_with fail
      go_ret2
      exact ⟨by rw [HR.out]; rfl, HB.out⟩
    · obtain ⟨m, hm⟩ : ∃ m, s.size = m + 3 := ⟨s.size - 3, by omega⟩
      have hm1 : 1 ≤ m := by omega
      have d4 : decide ((s.size : Int) < 4) = false := decide_eq_false (by omega)
      obtain ⟨c, d1, d2, hsp, hgc, hR⟩ := three_end (tl s) m (by omega)
      obtain ⟨Wd, hWd⟩ : ∃ W, (tl s).take m = W := ⟨_, rfl⟩
      rw [hWd] at hsp
      have HPS := Aside0.mk (parse_split (tl s) Wd c d1 d2 (by rw [← HT.out]; exact hsp))
      have HR := Aside0.mk hR
      have hmT : m < s.size := by omega
      have hsc : ∀ h : m < s.size, s[m]'h = c := fun h => by
        have e1 : (tl s)[m]? = some (s[m]'h) := List.getElem?_eq_getElem (by rw [hTl]; exact h)
        rw [hgc] at e1
        exact (Option.some.inj e1).symm
      have HTL := Aside0.mk hTl
      have HM := Aside0.mk hm
      have hTi : (s.size : Int) = (m : Int) + 3 := by omega
      by_cases c46 : c.toNat = 46
      · have b46 : ((c.toNat : Int) != 46) = false := bne_eq_false_iff_eq.2 (by omega)
        have hc46 : c = 46 := UInt8.toNat_inj.1 c46
        have HCO := Aside0.mk (refcount_calls (s.extract 0 m) 10000000000 (by decide) (by decide) w)
        rw [tl_extract, hWd] at HCO
        have hn1 := count_le Wd 10000000000 (by decide)
        have hn2 : countL Wd 10000000000 = -1 ∨ 0 ≤ countL Wd 10000000000 := by
          by_cases h : 0 ≤ countL Wd 10000000000
          · exact .inr h
          · exact .inl (count_neg _ _ h)
        have HPS2 := Aside0.mk (show parseL (tl s) = if digB d1 = true ∧ digB d2 = true ∧ 0 ≤ countL Wd 10000000000 ∧ textL (amt (tl s) Wd d1 d2) = tl s then (amt (tl s) Wd d1 d2, 0) else (0, 20) by
          rw [HPS.out]
          simp only [hc46, true_and])
        have HAM := Aside0.mk (show amt (tl s) Wd d1 d2 = 1 * (100 * countL Wd 10000000000 + ((10 * (d1.toNat - 48) + (d2.toNat - 48) : Nat) : Int)) by
          unfold amt; rw [HSG.out])
        obtain ⟨n, hn⟩ : ∃ n, countL Wd 10000000000 = n := ⟨_, rfl⟩
        rw [hn] at HCO hn1 hn2 HPS2 HAM
        have hnb : -1 ≤ n ∧ n ≤ 10000000000 := by omega
        clear hn1 hn2 hn hWd hsp hR hgc HPS c46 hc46 h4 hTl
        go_wp2_with fail
        refine HCO.out.mono ?_
        rintro e w1 ⟨rfl, rfl⟩
        go_wp2_with fail
        have HHR := Aside0.mk (show ∀ k, ∀ h : s.size > m + 1 + k, k < 2 → [d1, d2][k]? = some (s[m + 1 + k]'h) from fun k h hk => by
          rw [← HR.out, List.getElem?_drop]
          exact List.getElem?_eq_getElem (by rw [HTL.out]; exact h))
        clear hsc b46 HCO d4
        go_loopw [7, 8] (fun vr vi wx => ∃ k : Nat, vi = .int .i64 ((m : Int) + 1 + (k : Int)) ∧ k ≤ 2 ∧ vr = .int .i64 (val ([d1, d2].take k) : Nat) ∧ Aside0 (∀ c ∈ [d1, d2].take k, digB c = true) ∧ w = wx) (fun _ vi _ => (m + 3) - (intOf vi).toNat)
        case atStart => exact ⟨0, by simp; omega, by omega, rfl, ⟨by simp⟩, rfl⟩
        case round =>
          obtain ⟨k, rfl, hk, rfl, HA, rfl⟩ := hrel
          by_cases hlt : k < 2
          · have hkT : m + 1 + k < s.size := by omega
            obtain ⟨e, he⟩ : ∃ e, s[m + 1 + k]'hkT = e := ⟨_, rfl⟩
            have hse : ∀ h : m + 1 + k < s.size, s[m + 1 + k]'h = e := fun h => he
            have hge := HHR.out k hkT hlt
            rw [he] at hge
            have HE := Aside0.mk (show e = d1 ∨ e = d2 by
              have : k = 0 ∨ k = 1 := by omega
              rcases this with rfl | rfl
              · left; exact (Option.some.inj hge).symm
              · right; exact (Option.some.inj hge).symm)
            have HT2 := Aside0.mk (show [d1, d2].take (k + 1) = [d1, d2].take k ++ [e] by rw [List.take_add_one, hge]; rfl)
            have hv : val ([d1, d2].take k) < 10 ^ 2 := Nat.lt_of_lt_of_le (val_lt _ HA.out) (Nat.pow_le_pow_right (by decide) (by rw [List.length_take]; omega))
            have hv2 : val ([d1, d2].take k) < 100 := hv
            obtain ⟨r, hr⟩ : ∃ n, val ([d1, d2].take k) = n := ⟨_, rfl⟩
            have HRR := Aside0.mk hr
            rw [hr] at hv2 ⊢
            have HNO := Aside0.mk (show digB e = false → parseL (tl s) = (0, 20) from fun hd => by
              rw [HPS2.out, if_neg]
              rintro ⟨h1, h2, -⟩
              rcases HE.out with rfl | rfl
              · rw [hd] at h1; cases h1
              · rw [hd] at h2; cases h2)
            have HLT := Aside0.mk hlt
            clear he hv hr hge
            by_cases c1 : e.toNat < 48
            · have g1 : decide ((e.toNat : Int) < 48) = true := decide_eq_true (by omega)
              have HF := Aside0.mk (HNO.out (by unfold digB; rw [decide_eq_false (by omega : ¬ 48 ≤ e.toNat)]; rfl))
              clear c1
              go_wp2_with fail
              go_ret2
              exact ⟨by rw [HF.out]; rfl, HB.out⟩
            · have g1 : decide ((e.toNat : Int) < 48) = false := decide_eq_false (by omega)
              by_cases c2 : 57 < e.toNat
              · have g2 : decide ((57 : Int) < (e.toNat : Int)) = true := decide_eq_true (by omega)
                have HF := Aside0.mk (HNO.out (by unfold digB; rw [decide_eq_false (by omega : ¬ e.toNat ≤ 57), Bool.and_false]))
                clear c1 c2
                go_wp2_with fail
                go_ret2
                exact ⟨by rw [HF.out]; rfl, HB.out⟩
              · have g2 : decide ((57 : Int) < (e.toNat : Int)) = false := decide_eq_false (by omega)
                have hcd : digB e = true := by unfold digB; rw [decide_eq_true (by omega : 48 ≤ e.toNat), decide_eq_true (by omega : e.toNat ≤ 57)]; rfl
                have HV := Aside0.mk (show ((val ([d1, d2].take (k + 1)) : Nat) : Int) = 10 * (r : Int) + ((e.toNat : Int) - 48) by
                  rw [HT2.out, val_snoc, HRR.out]; push_cast; omega)
                have HA2 := Aside0.mk (show ∀ x ∈ [d1, d2].take (k + 1), digB x = true by
                  rw [HT2.out]
                  intro x hx
                  rcases List.mem_append.1 hx with h | h
                  · exact HA.out x h
                  · rw [List.mem_singleton.1 h]; exact hcd)
                have hcr : 48 ≤ e.toNat ∧ e.toNat ≤ 57 := by omega
                clear hcd
                go_wp2_with fail
                go_roundw
                case rel => exact ⟨k + 1, by first | rfl | (push_cast; rfl) | (congr 1; push_cast; omega), by omega, by rw [HV.out], HA2, by first | rfl | trivial⟩
                case measure => simp [intOf]; omega
          · obtain rfl : k = 2 := by omega
            have hdd : digB d1 = true ∧ digB d2 = true := ⟨HA.out d1 (by simp), HA.out d2 (by simp)⟩
            have hd1 := dig_range hdd.1
            have hd2 := dig_range hdd.2
            have hvR : val ([d1, d2].take 2) = 10 * (d1.toNat - 48) + (d2.toNat - 48) := by
              show val ([d1] ++ [d2]) = _
              rw [val_snoc, show [d1] = [] ++ [d1] from rfl, val_snoc]
              have e : val [] = 0 := rfl
              omega
            obtain ⟨r, hr⟩ : ∃ n, val ([d1, d2].take 2) = n := ⟨_, rfl⟩
            have hAM := HAM.out
            rw [← hvR, hr] at hAM
            have hA : amt (tl s) Wd d1 d2 = (100 * n + (r : Int)) := by rw [hAM]; omega
            have HPF := Aside0.mk (show parseL (tl s) = if 0 ≤ n ∧ textL (100 * n + (r : Int)) = tl s then ((100 * n + (r : Int)), 0) else (0, 20) by
              rw [HPS2.out, hA, hdd.1, hdd.2]
              simp only [true_and])
            have hr100 : r < 100 := by rw [← hr, hvR]; omega
            rw [hr]
            clear hdd hd1 hd2 hvR hr hA hlt hAM
            by_cases hn0 : n < 0
            · have dn : decide (n < 0) = true := decide_eq_true hn0
              have HF := Aside0.mk (show parseL (tl s) = (0, 20) by rw [HPF.out, if_neg]; rintro ⟨h, -⟩; omega)
              go_wp2_with fail
              go_ret2
              exact ⟨by rw [HF.out]; rfl, HB.out⟩
            · have dn : decide (n < 0) = false := decide_eq_false hn0
              go_wp2_with fail
              refine (reftext_calls (100 * n + (r : Int)) w).mono ?_
              rintro e w1 ⟨rfl, b⟩
              have B1 := Aside0.mk b
              clear b
              have hUt : tl (bd (textL (100 * n + (r : Int)))) = textL (100 * n + (r : Int)) := tl_bd _
              obtain ⟨U, hU⟩ : ∃ U, bd (textL (100 * n + (r : Int))) = U := ⟨_, rfl⟩
              rw [hU] at hUt ⊢
              by_cases he : textL (100 * n + (r : Int)) = tl s
              · have HF := Aside0.mk (show parseL (tl s) = ((100 * n + (r : Int)), 0) by rw [HPF.out, if_pos ⟨by omega, he⟩])
                have bu : (U.toList == s.toList) = true := beq_iff_eq.2 (by rw [toList_data, toList_data]; exact hUt.trans he)
                clear hUt he hU hn0
                go_wp2_with fail
                go_ret2
                exact ⟨by rw [HF.out]; rfl, B1.out⟩
              · have HF := Aside0.mk (show parseL (tl s) = (0, 20) by rw [HPF.out, if_neg]; rintro ⟨-, h⟩; exact he h)
                have bu : (U.toList == s.toList) = false := beq_eq_false_iff_ne.2 (by rw [toList_data, toList_data]; intro h; exact he (hUt.symm.trans h))
                clear hUt he hU hn0
                go_wp2_with fail
                go_ret2
                exact ⟨by rw [HF.out]; rfl, B1.out⟩
      · have b46 : ((c.toNat : Int) != 46) = true := bne_iff_ne.2 (by omega)
        have HF := Aside0.mk (show parseL (tl s) = (0, 20) by rw [HPS.out, if_neg]; rintro ⟨e, -⟩; apply c46; rw [e]; rfl)
        clear hsp hR hgc c46 HPS h4 hTl hWd
        go_wp2_with fail
        go_ret2
        exact ⟨by rw [HF.out]; rfl, HB.out⟩
end Go.Proofs.YtbecemdehelooaaGreatDoor.FeedRc
