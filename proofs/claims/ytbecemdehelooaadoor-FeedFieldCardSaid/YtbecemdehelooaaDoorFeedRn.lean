/- The document's names. -/
import Derived.Test.YtbecemdehelooaaDoorFeedR
namespace Go.Proofs.YtbecemdehelooaaDoor.FeedRn
open Go.RowKit Go.Proofs.YtbecemdehelooaaDoor.FrameS Go.Proofs.YtbecemdehelooaaDoor.FrameP Go.Proofs.YtbecemdehelooaaDoor.FeedG Go.Proofs.YtbecemdehelooaaDoor.FeedD Go.Proofs.YtbecemdehelooaaDoor.FeedT Go.Proofs.YtbecemdehelooaaDoor.FeedP Go.Proofs.YtbecemdehelooaaDoor.FeedX Go.Proofs.YtbecemdehelooaaDoor.FeedN Go.Proofs.YtbecemdehelooaaDoor.FeedE Go.Proofs.YtbecemdehelooaaDoor.FeedPl Go.Proofs.YtbecemdehelooaaDoor.FeedR Go.Proofs.YtbecemdehelooaaDoorW.PrintWords Go.Proofs.YtbecemdehelooaaDoorW.PrintLast Go.Proofs.YtbecemdehelooaaDoorW.PrintMore
set_option linter.unusedVariables false
set_option linter.unusedSimpArgs false
def letB (c : UInt8) : Bool := decide (97 ≤ c.toNat) && decide (c.toNat ≤ 122)
theorem let_all : ∀ q : Fin 256, inB (tl lettersB) (UInt8.ofNat q.val) = letB (UInt8.ofNat q.val) := by decide +kernel
theorem low_all : ∀ q : Fin 256, inB (tl lowB) (UInt8.ofNat q.val) = (letB (UInt8.ofNat q.val) || digB (UInt8.ofNat q.val)) := by decide +kernel
theorem let_in (c : UInt8) : inB (tl lettersB) c = letB c := by
  have := let_all ⟨c.toNat, c.toNat_lt⟩
  simpa using this
theorem low_in (c : UInt8) : inB (tl lowB) c = (letB c || digB c) := by
  have := low_all ⟨c.toNat, c.toNat_lt⟩
  simpa using this
theorem letter_calls (c : UInt8) (w : World) : Calls Tryd.prog 27 #[.int .u8 (c.toNat : Int)] w fun e w' => e = .returned (.bool (letB c)) ∧ w = w' := by
  by_cases h1 : 97 ≤ c.toNat
  · have d1 : decide ((97 : Int) ≤ (c.toNat : Int)) = true := decide_eq_true (by omega)
    have HR := Aside0.mk (show letB c = decide ((c.toNat : Int) ≤ 122) by unfold letB; rw [decide_eq_true h1, Bool.true_and]; congr 1; exact propext (by omega))
    clear h1
    go_enter Tryd.func27, Tryd.ntmps27
    go_wp2_with fail
    go_ret
    exact ⟨by rw [HR.out]; rfl, rfl⟩
  · have d1 : decide ((97 : Int) ≤ (c.toNat : Int)) = false := decide_eq_false (by omega)
    have HR := Aside0.mk (show letB c = false by unfold letB; rw [decide_eq_false h1, Bool.false_and])
    clear h1
    go_enter Tryd.func27, Tryd.ntmps27
    go_wp2_with fail
    go_ret
    exact ⟨by rw [HR.out]; rfl, rfl⟩
theorem digit_calls (c : UInt8) (w : World) : Calls Tryd.prog 29 #[.int .u8 (c.toNat : Int)] w fun e w' => e = .returned (.bool (digB c)) ∧ w = w' := by
  by_cases h1 : 48 ≤ c.toNat
  · have d1 : decide ((48 : Int) ≤ (c.toNat : Int)) = true := decide_eq_true (by omega)
    have HR := Aside0.mk (show digB c = decide ((c.toNat : Int) ≤ 57) by unfold digB; rw [decide_eq_true h1, Bool.true_and]; congr 1; exact propext (by omega))
    clear h1
    go_enter Tryd.func29, Tryd.ntmps29
    go_wp2_with fail
    go_ret
    exact ⟨by rw [HR.out]; rfl, rfl⟩
  · have d1 : decide ((48 : Int) ≤ (c.toNat : Int)) = false := decide_eq_false (by omega)
    have HR := Aside0.mk (show digB c = false by unfold digB; rw [decide_eq_false h1, Bool.false_and])
    clear h1
    go_enter Tryd.func29, Tryd.ntmps29
    go_wp2_with fail
    go_ret
    exact ⟨by rw [HR.out]; rfl, rfl⟩
theorem word_at (k : Nat) (hk : k < 11) : wordCells[k]? = some (.string (words.getD k ⟨#[]⟩)) := by
  have hl : words.length = 11 := rfl
  unfold wordCells
  rw [List.getElem?_toArray, List.getElem?_map, List.getElem?_eq_getElem (by omega), List.getD_eq_getElem?_getD, List.getElem?_eq_getElem (by omega)]
  rfl
theorem words_take (k : Nat) (hk : k < 11) : words.take (k + 1) = words.take k ++ [words.getD k ⟨#[]⟩] := by
  have hl : words.length = 11 := rfl
  rw [List.take_add_one, List.getElem?_eq_getElem (by omega), List.getD_eq_getElem?_getD, List.getElem?_eq_getElem (by omega)]
  rfl
set_option maxHeartbeats 1000000 in
set_option maxRecDepth 20000 in
theorem refword_calls (s : ByteArray) (w : World) : Calls Tryd.prog 28 #[.string s] w fun e w' => e = .returned (.bool (Lib.containsS words s)) ∧ Below w.heap.size w w' := by
  have HB := Aside0.mk (below_alloc (Below.refl w.heap.size w) (.cells wordCells 9))
  have HC := Aside0.mk (fun j => new_cell w wordCells 9 j)
  go_enter Tryd.func28, Tryd.ntmps28
  go_wp2_with fail
  change Code.wp _ _ _ _ (w.alloc (.cells wordCells 9))
  obtain ⟨V, hV⟩ : ∃ V, w.alloc (.cells wordCells 9) = V := ⟨_, rfl⟩
  obtain ⟨g, hg⟩ : ∃ g, w.heap.size = g := ⟨_, rfl⟩
  have hBg := HB
  rw [hV] at HB HC ⊢
  rw [hg] at HC ⊢
  clear hV hg hBg
  go_loopw [4] (fun vi wx => ∃ (k : Nat), vi = .int .i64 k ∧ k ≤ 11 ∧ Aside0 (s ∉ words.take k) ∧ V = wx) (fun vi _ => 11 - (intOf vi).toNat)
  case atStart => exact ⟨0, rfl, by omega, ⟨by simp⟩, rfl⟩
  case round =>
    obtain ⟨k, rfl, hk, HN, rfl⟩ := hrel
    by_cases hlt : k < 11
    · have c0 : V.cell? ⟨g, k, none⟩ = some (.string (words.getD k ⟨#[]⟩)) := (HC.out k).trans (word_at k hlt)
      have HT := Aside0.mk (words_take k hlt)
      obtain ⟨x, hx⟩ : ∃ x, words.getD k ⟨#[]⟩ = x := ⟨_, rfl⟩
      rw [hx] at c0 HT
      have hw1 : wrap64 ((k : Int) + 1) = ((k + 1 : Nat) : Int) := by unfold wrap64; omega
      have l1 : (11 ≤ (k : Int)) = False := eq_false (by omega)
      have d1 : decide ((k : Int) < 11) = true := decide_eq_true (by omega)
      have HX := Aside0.mk hx
      clear hx
      by_cases e : x = s
      · have HR := Aside0.mk (show Lib.containsS words s = true by
          rw [Lib.containsS_iff, ← e, ← HX.out, List.getD_eq_getElem?_getD, List.getElem?_eq_getElem (show k < words.length from hlt)]
          exact List.getElem_mem _)
        have b1 : (x.toList == s.toList) = true := by rw [e]; exact beq_self_eq_true _
        clear e
        go_wp2_with fail
        go_ret
        exact ⟨by rw [HR.out]; rfl, HB.out⟩
      · have b1 : (x.toList == s.toList) = false := beq_eq_false_iff_ne.2 (fun h => e (tl_inj (by rw [toList_data, toList_data] at h; exact h)))
        have HE := Aside0.mk e
        clear e
        go_wp2_with fail
        go_roundw
        case rel => exact ⟨k + 1, by first | rfl | (push_cast; rfl), by omega, ⟨by rw [HT.out, List.mem_append, List.mem_singleton]; rintro (h | h); exact HN.out h; exact HE.out h.symm⟩, by first | rfl | trivial⟩
        case measure => simp [intOf]; omega
    · obtain rfl : k = 11 := by omega
      have HR := Aside0.mk (show Lib.containsS words s = false by
        rw [← Bool.not_eq_true, Lib.containsS_iff]; exact HN.out)
      go_wp2_with fail
      go_ret
      exact ⟨by rw [HR.out]; rfl, HB.out⟩
/-- What a name is, byte by byte. -/
theorem name_eq (s : ByteArray) : nameB s = (decide (0 < s.size) && decide (s.size ≤ 12) && letB ((tl s).headD 0) && !Lib.containsS words s && (tl s).all (fun c => letB c || digB c)) := by
  unfold nameB
  rw [let_in]
  have e1 : (!(tl s).isEmpty) = decide (0 < s.size) := by
    rw [← tl_length s]
    cases tl s <;> simp
  have e2 : decide (runL (tl lowB) (tl s) = s.size) = (tl s).all (fun c => letB c || digB c) := by
    rw [Bool.eq_iff_iff, decide_eq_true_eq, List.all_eq_true]
    constructor
    · intro h b hb
      rw [← low_in]
      exact runL_full _ _ (h.trans (tl_length s).symm) b hb
    · intro h
      rw [runL_all (fun j hj => by rw [low_in]; exact h _ (List.getElem_mem hj)), tl_length]
  rw [e1, e2]
  cases decide (0 < s.size) <;> cases decide (s.size ≤ 12) <;> cases letB ((tl s).headD 0) <;> cases Lib.containsS words s <;> cases (tl s).all (fun c => letB c || digB c) <;> rfl
set_option maxHeartbeats 2000000 in
set_option maxRecDepth 20000 in
theorem refname_calls (s : ByteArray) (w : World) : Calls Tryd.prog 15 #[.string s] w fun e w' => e = .returned (.bool (nameB s)) ∧ Below w.heap.size w w' := by
  have hl := tl_length s
  have hn := name_eq s
  have B0 := Aside0.mk (Below.refl w.heap.size w)
  by_cases h0 : tl s = []
  · have hs : s = ⟨#[]⟩ := tl_inj h0
    have hr := Aside0.mk (show nameB s = false by unfold nameB; rw [h0]; rfl)
    subst hs
    clear hn hl h0
    go_enter Tryd.func15, Tryd.ntmps15
    go_wp2_with fail
    go_ret
    exact ⟨by rw [hr.out]; rfl, Below.refl _ _⟩
  obtain ⟨c, l, hc⟩ : ∃ c l, tl s = c :: l := by
    cases h : tl s with
    | nil => exact absurd h h0
    | cons c l => exact ⟨c, l, rfl⟩
  have hp : 0 < s.size := by rw [← hl, hc]; simp
  have dne : s.toList.isEmpty = false := by rw [toList_data]; show (tl s).isEmpty = false; rw [hc]; rfl
  have hsc : ∀ h : 0 < s.size, s[0]'h = c := fun h => by
    have : (tl s)[0]'(by rw [hc]; simp) = c := by simp [hc]
    exact this
  rw [decide_eq_true hp, Bool.true_and, hc, List.headD_cons, ← hc] at hn
  by_cases h12 : s.size ≤ 12
  · have d12 : decide ((12 : Int) < (s.size : Int)) = false := decide_eq_false (by omega)
    rw [decide_eq_true h12, Bool.true_and] at hn
    have HS12 := Aside0.mk h12
    cases hin : letB c with
    | false =>
      rw [hin, Bool.false_and, Bool.false_and] at hn
      have HN := Aside0.mk hn
      have HI := Aside0.mk hin
      clear hl h0 hc h12 hn hin
      go_enter Tryd.func15, Tryd.ntmps15
      go_wp2_with fail
      refine (letter_calls c _).mono ?_
      rintro e w' ⟨rfl, rfl⟩
      rw [HI.out]
      go_wp2_with fail
      go_ret
      exact ⟨by rw [HN.out]; rfl, Below.refl _ _⟩
    | true =>
      rw [hin, Bool.true_and] at hn
      have HI := Aside0.mk hin
      have HL := Aside0.mk hl
      cases hw : Lib.containsS words s with
      | true =>
        rw [hw] at hn
        have HN := Aside0.mk (show nameB s = false by rw [hn]; rfl)
        have HW := Aside0.mk hw
        clear hl h0 hc h12 hn hin hw
        go_enter Tryd.func15, Tryd.ntmps15
        go_wp2_with fail
        refine (letter_calls c _).mono ?_
        rintro e w' ⟨rfl, rfl⟩
        rw [HI.out]
        go_wp2_with fail
        refine (refword_calls s _).mono ?_
        rintro e w1 ⟨rfl, b⟩
        rw [HW.out]
        have B1 := Aside0.mk b
        clear b
        go_wp2_with fail
        go_ret
        exact ⟨by rw [HN.out]; rfl, B1.out⟩
      | false =>
        rw [hw] at hn
        have HN := Aside0.mk (show nameB s = (tl s).all (fun c => letB c || digB c) by rw [hn]; rfl)
        have HW := Aside0.mk hw
        clear hl h0 hc h12 hn hin hw
        go_enter Tryd.func15, Tryd.ntmps15
        go_wp2_with fail
        refine (letter_calls c _).mono ?_
        rintro e w' ⟨rfl, rfl⟩
        rw [HI.out]
        go_wp2_with fail
        refine (refword_calls s _).mono ?_
        rintro e w1 ⟨rfl, b⟩
        rw [HW.out]
        have B1 := Aside0.mk b
        clear b dne hsc d12
        have h12 := HS12.out
        go_wp2_with fail
        go_loopw [3] (fun vi wx => ∃ (k : Nat), vi = .int .i64 k ∧ k ≤ s.size ∧ Aside0 (∀ j, ∀ hj : j < (tl s).length, j < k → (letB (tl s)[j] || digB (tl s)[j]) = true) ∧ w1 = wx) (fun vi _ => s.size - (intOf vi).toNat)
        case atStart => exact ⟨0, rfl, by omega, ⟨fun j _ h => absurd h (Nat.not_lt_zero j)⟩, rfl⟩
        case round =>
          obtain ⟨k, rfl, hk, hall, rfl⟩ := hrel
          by_cases hlt : k < s.size
          · have d0 : decide ((k : Int) < (s.size : Int)) = true := decide_eq_true (by omega)
            have hkl : k < (tl s).length := by have := HL.out; omega
            obtain ⟨b, hb⟩ : ∃ c, (tl s)[k] = c := ⟨_, rfl⟩
            have hsc : ∀ h : k < s.size, s[k]'h = b := fun h => by rw [← hb]; rfl
            have HK := Aside0.mk hkl
            have HBB := Aside0.mk hb
            have hw1 : wrap64 ((k : Int) + 1) = ((k + 1 : Nat) : Int) := by unfold wrap64; have := HS12.out; omega
            clear hb hw1
            cases hin : letB b with
            | true =>
              have HIN := Aside0.mk hin
              clear hin
              go_wp2_with fail
              refine (letter_calls b _).mono ?_
              rintro e w' ⟨rfl, rfl⟩
              rw [HIN.out]
              go_wp2_with fail
              go_roundw
              case rel =>
                refine ⟨k + 1, by first | rfl | (push_cast; rfl), hlt, ⟨fun j hj h => ?_⟩, by first | rfl | trivial⟩
                by_cases e : j = k
                · subst e; rw [HBB.out, HIN.out]; rfl
                · exact hall.out j hj (by omega)
              case measure => simp [intOf]; omega
            | false =>
              have HIN := Aside0.mk hin
              clear hin
              cases hdg : digB b with
              | true =>
                have HDG := Aside0.mk hdg
                clear hdg
                go_wp2_with fail
                refine (letter_calls b _).mono ?_
                rintro e w' ⟨rfl, rfl⟩
                rw [HIN.out]
                go_wp2_with fail
                refine (digit_calls b _).mono ?_
                rintro e w' ⟨rfl, rfl⟩
                rw [HDG.out]
                go_wp2_with fail
                go_roundw
                case rel =>
                  refine ⟨k + 1, by first | rfl | (push_cast; rfl), hlt, ⟨fun j hj h => ?_⟩, by first | rfl | trivial⟩
                  by_cases e : j = k
                  · subst e; rw [HBB.out, HIN.out, HDG.out]; rfl
                  · exact hall.out j hj (by omega)
                case measure => simp [intOf]; omega
              | false =>
                have HDG := Aside0.mk hdg
                have HR := Aside0.mk (show nameB s = false by
                  rw [HN.out, ← Bool.not_eq_true, List.all_eq_true]
                  intro h
                  have := h _ (List.getElem_mem HK.out)
                  rw [HBB.out, HIN.out, HDG.out] at this
                  cases this)
                clear hdg
                go_wp2_with fail
                refine (letter_calls b _).mono ?_
                rintro e w' ⟨rfl, rfl⟩
                rw [HIN.out]
                go_wp2_with fail
                refine (digit_calls b _).mono ?_
                rintro e w' ⟨rfl, rfl⟩
                rw [HDG.out]
                go_wp2_with fail
                go_ret
                exact ⟨by rw [HR.out]; rfl, B1.out⟩
          · have d0 : decide ((k : Int) < (s.size : Int)) = false := decide_eq_false (by omega)
            have HR := Aside0.mk (show nameB s = true by
              rw [HN.out, List.all_eq_true]
              intro b hb
              obtain ⟨j, hj, rfl⟩ := List.getElem_of_mem hb
              exact hall.out j hj (by have := HL.out; omega))
            go_wp2_with fail
            go_ret
            exact ⟨by rw [HR.out]; rfl, B1.out⟩
  · have HN := Aside0.mk (show nameB s = false by rw [hn, decide_eq_false h12]; rfl)
    have d12 : decide ((12 : Int) < (s.size : Int)) = true := decide_eq_true (by omega)
    clear hl h0 hc h12 hn
    go_enter Tryd.func15, Tryd.ntmps15
    go_wp2_with fail
    go_ret
    exact ⟨by rw [HN.out]; rfl, Below.refl _ _⟩
end Go.Proofs.YtbecemdehelooaaDoor.FeedRn
