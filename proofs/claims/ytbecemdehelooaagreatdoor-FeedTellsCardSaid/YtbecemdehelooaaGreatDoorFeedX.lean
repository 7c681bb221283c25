/- Names. -/
import Derived.Test.YtbecemdehelooaaGreatDoorFeedG
namespace Go.Proofs.YtbecemdehelooaaGreatDoor.FeedX
open Go.RowKit Go.Proofs.YtbecemdehelooaaGreatDoor.FrameS Go.Proofs.YtbecemdehelooaaGreatDoor.FeedG Go.Proofs.YtbecemdehelooaaGreatDoorW.PrintWords Go.Proofs.YtbecemdehelooaaGreatDoorW.PrintLast Go.Proofs.YtbecemdehelooaaGreatDoorW.PrintMore
set_option linter.unusedVariables false
set_option linter.unusedSimpArgs false
def inB (some_ : List UInt8) (c : UInt8) : Bool := decide (0 ≤ Lib.indexByte some_ c)
theorem in_calls (c : UInt8) (some_ : ByteArray) (w : World) : Calls Tryz.prog 49 #[.int .u8 (c.toNat : Int), .string some_] w fun e w' => e = .returned (.bool (inB (tl some_) c)) ∧ w = w' := by
  have hc : ((c.toNat : Int).toNat).toUInt8 = c := by simp
  have HC := Aside0.mk hc
  obtain ⟨i, hi⟩ : ∃ i, Lib.indexByte some_.data.toList c = i := ⟨_, rfl⟩
  have hr := Aside0.mk (show inB (tl some_) c = decide (0 ≤ i) by unfold inB tl; rw [hi])
  have HI := Aside0.mk hi
  clear hc hi
  go_enter Tryz.func49, Tryz.ntmps49
  go_wp2_with fail
  refine (Tryz.strings_IndexByte some_ (c.toNat : Int) _).mono ?_
  rintro e w' ⟨rfl, rfl⟩
  rw [HC.out, HI.out]
  go_wp2_with fail
  go_ret
  exact ⟨by rw [hr.out]; rfl, rfl⟩
/-- How many bytes there are ahead that are of some. -/
def runL (some_ l : List UInt8) : Nat := (l.takeWhile (inB some_)).length
theorem runL_at {some_ l : List UInt8} {k : Nat} (h : ∀ j, ∀ hj : j < l.length, j < k → inB some_ l[j] = true) (hk : k < l.length) (hn : inB some_ l[k] = false) : runL some_ l = k := by
  unfold runL
  induction l generalizing k with
  | nil => simp at hk
  | cons a l ih =>
    cases k with
    | zero =>
      have : inB some_ a = false := hn
      simp [List.takeWhile, this]
    | succ k =>
      have h0 : inB some_ a = true := h 0 (by simp) (by omega)
      simp only [List.takeWhile, h0]
      rw [List.length_cons, ih (k := k) (fun j hj hjk => h (j + 1) (by simp; omega) (by omega)) (by simpa using hk) hn]
theorem runL_all {some_ l : List UInt8} (h : ∀ j, ∀ hj : j < l.length, inB some_ l[j] = true) : runL some_ l = l.length := by
  unfold runL
  induction l with
  | nil => rfl
  | cons a l ih =>
    have h0 : inB some_ a = true := h 0 (by simp)
    simp only [List.takeWhile, h0]
    rw [List.length_cons, ih (fun j hj => h (j + 1) (by simp; omega)), List.length_cons]
set_option maxHeartbeats 1000000 in
set_option maxRecDepth 100000 in
theorem run_calls (s some_ : ByteArray) (w : World) (hs : s.size ≤ 9223372036854775806) : Calls Tryz.prog 50 #[.string s, .string some_] w fun e w' => e = .returned (.int .i64 (runL (tl some_) (tl s) : Nat)) ∧ w = w' := by
  have hl := tl_length s
  go_enter Tryz.func50, Tryz.ntmps50
  go_wp2_with fail
  go_loop [5, 8] (fun _ i => ∃ k : Nat, k ≤ s.size ∧ i = .int .i64 k ∧ Aside0 (∀ j, ∀ hj : j < (tl s).length, j < k → inB (tl some_) (tl s)[j] = true)) (fun _ i => s.size - (intOf i).toNat)
  case atStart => exact ⟨0, Nat.zero_le _, rfl, ⟨fun j _ h => absurd h (Nat.not_lt_zero j)⟩⟩
  case round =>
    obtain ⟨k, hk, rfl, hall⟩ := hrel
    by_cases hlt : k < s.size
    · have d0 : decide ((k : Int) < (s.size : Int)) = true := decide_eq_true (by omega)
      have hkl : k < (tl s).length := by omega
      obtain ⟨c, hc⟩ : ∃ c, (tl s)[k] = c := ⟨_, rfl⟩
      have hsc : ∀ h : k < s.size, s[k]'h = c := fun h => by rw [← hc]; rfl
      have HK := Aside0.mk hkl
      have HCC := Aside0.mk hc
      have hl' := Aside0.mk hl
      clear hl
      cases hin : inB (tl some_) c with
      | true =>
        have hin' := Aside0.mk hin
        clear hin
        have hw1 : wrap64 ((k : Int) + 1) = ((k + 1 : Nat) : Int) := by unfold wrap64; omega
        go_wp2_with (go_at_call 49; refine (in_calls c some_ _).mono ?_; rintro e w' ⟨rfl, rfl⟩; rw [hin'.out])
        go_round
        case rel =>
          refine ⟨k + 1, hlt, rfl, ⟨fun j hj h => ?_⟩⟩
          by_cases e : j = k
          · subst e; rw [HCC.out]; exact hin'.out
          · exact hall.out j hj (by omega)
        case measure => simp [intOf]; omega
      | false =>
        have hr := Aside0.mk (runL_at hall.out HK.out (by rw [HCC.out]; exact hin))
        have hin' := Aside0.mk hin
        clear hin
        go_wp2_with (go_at_call 49; refine (in_calls c some_ _).mono ?_; rintro e w' ⟨rfl, rfl⟩; rw [hin'.out])
        go_ret
        exact ⟨by rw [hr.out]; rfl, rfl⟩
    · have d0 : decide ((k : Int) < (s.size : Int)) = false := decide_eq_false (by omega)
      have hr := Aside0.mk (show ((runL (tl some_) (tl s) : Nat) : Int) = (s.size : Int) by rw [runL_all (fun j hj => hall.out j hj (by omega)), hl])
      go_wp2_with fail
      go_ret
      exact ⟨by rw [hr.out]; rfl, rfl⟩
end Go.Proofs.YtbecemdehelooaaGreatDoor.FeedX
