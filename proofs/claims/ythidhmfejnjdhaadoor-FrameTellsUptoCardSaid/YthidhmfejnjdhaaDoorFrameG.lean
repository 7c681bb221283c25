/- What the package-level variables hold; numbers and their texts; whether a record may be. -/
import Derived.Test.YthidhmfejnjdhaaDoorFrameSum
import Derived.Test.YthidhmfejnjdhaaDoorShelf
import Derived.WalkKit
import Derived.KernelRfl
import Derived.Outline
import Derived.Lib.Hide
import Derived.Handy
import Derived.RegionTactic
import Derived.Deep.QuietTactic
import Derived.BigQuiet
namespace Go.Proofs.YthidhmfejnjdhaaDoor.FrameG
open Go.RowKit Go.Proofs.YthidhmfejnjdhaaDoor.FrameS Go.Proofs.YthidhmfejnjdhaaDoorW.PrintWords Go.Proofs.YthidhmfejnjdhaaDoorW.PrintLast Go.Proofs.YthidhmfejnjdhaaDoorW.PrintMore
set_option linter.unusedVariables false
set_option linter.unusedSimpArgs false

structure G (w : World) : Prop where
  m0 : ∃ m, w.cell? ⟨0, 0, none⟩ = some (.int .i64 m)
  m1 : ∃ tp p, w.var? Tryd.prog "strconv.ErrSyntax" = some #[.iface tp p]
  m2 : ∃ tp p, w.var? Tryd.prog "strconv.ErrRange" = some #[.iface tp p]
  tab : Lib.TabIs Tryd.prog w "internal/strconv.uint64pow10" .u64 Lib.pow10Tab
theorem var_below {w w' : World} {n : String} {cs : Array Value} (h : w.var? Tryd.prog n = some cs) (b : Below w.heap.size w w') : w'.var? Tryd.prog n = some cs := by
  unfold World.var? at h ⊢
  cases hg : Tryd.prog.globalNamed n with
  | none => rw [hg] at h; cases h
  | some g =>
    rw [hg] at h
    simp only [Option.bind_some] at h ⊢
    have hlt : g < w.heap.size := by
      rcases Nat.lt_or_ge g w.heap.size with hl | hl
      · exact hl
      · rw [Array.getElem?_eq_none hl] at h; cases h
    rw [b.block g hlt]; exact h
theorem cell_lt {w : World} {a : Addr} {v : Value} (h : w.cell? a = some v) : a.block < w.heap.size := by
  rcases Nat.lt_or_ge a.block w.heap.size with hl | hl
  · exact hl
  · unfold World.cell? at h; rw [Array.getElem?_eq_none hl] at h; cases h
theorem G.below {w w' : World} (h : G w) (b : Below w.heap.size w w') : G w' := by
  obtain ⟨⟨m, h0⟩, ⟨t1, p1, h1⟩, ⟨t2, p2, h2⟩, h3⟩ := h
  exact ⟨⟨m, (b.cell (cell_lt h0)).trans h0⟩, ⟨t1, p1, var_below h1 b⟩, ⟨t2, p2, var_below h2 b⟩, var_below h3 b⟩

theorem below_grown' (w : World) (k : Nat) (os : Array Obj) : Below w.heap.size w (Sort.grow (w.drewN k) os) := by
  refine ⟨rfl, rfl, rfl, by simp [Sort.grow], fun i hi => ?_⟩
  show (w.heap ++ os)[i]? = _
  rw [Array.getElem?_append_left hi]

set_option maxHeartbeats 400000 in
theorem number_ok (n : Int) (w : World) (hG : G w) (h0 : -9223372036854775808 ≤ n) (h1 : n ≤ 9223372036854775807) :
    Calls Tryd.prog 32 #[.int .i64 n] w fun e w' => e = .returned (.string ⟨(Lib.itoa n).toArray⟩) ∧ Below w.heap.size w w' := by
  have ht := Aside0.mk hG.tab
  clear hG
  go_enter Tryd.func32, Tryd.ntmps32
  go_wp2_with (go_at_call 41; refine (Tryd.strconv_Itoa n h0 h1 _ ht.out).mono ?_; rintro e w' ⟨rfl, k, os, rfl⟩)
  go_ret
  exact ⟨rfl, below_grown' w k os⟩

theorem odd_calls (n : Int) (w : World) : Calls Tryd.prog 27 #[.int .i64 n] w fun e w' => e = .returned (.bool (Odd n)) ∧ w = w' := by
  by_cases c1 : n < -1125899906842624
  · have H : Odd n = true := by unfold Odd; simp [c1]
    have c := decide_eq_true c1
    have H' := Lib.hid H
    clear H
    go_enter Tryd.func27, Tryd.ntmps27
    go_wp2
    go_ret
    exact ⟨by rw [H'.out]; rfl, rfl⟩
  · have H : Odd n = decide (1125899906842624 < n) := by unfold Odd; simp [c1]
    have c := decide_eq_false c1
    have H' := Lib.hid H
    clear H
    go_enter Tryd.func27, Tryd.ntmps27
    go_wp2
    all_goals
      go_ret
      exact ⟨by rw [H'.out]; simp_all, rfl⟩

/-- Where the first one is that is odd; below 0: nowhere. -/
def FoundOdd (l : List Int) (w : World) (e : Ending) (w' : World) : Prop := ∃ r : Int, e = .returned (.int .i64 r) ∧ decide (0 ≤ r) = l.any Odd ∧ w = w'
theorem any_take (l : List Int) (k : Nat) (h : k < l.length) : (l.take (k + 1)).any Odd = ((l.take k).any Odd || Odd (l.getD k 0)) := by
  rw [List.take_add_one, List.getElem?_eq_getElem h, List.any_append]
  simp only [Option.toList_some, List.any_cons, List.any_nil, Bool.or_false, List.getD, List.getElem?_eq_getElem h, Option.getD_some]
set_option maxHeartbeats 400000 in
theorem idx_calls (A : Option Addr) (c : Nat) (l : List Int) (w : World) (hr : Kd.C (Kd.int .i64) w A l.length l) :
    Calls Tryd.prog 35 #[.slice A l.length c, .func (.func 27) #[] #[]] w (FoundOdd l w) := by
  have hmax : l.length ≤ 9223372036854775807 := hr.2.1
  have HR := Aside0.mk hr
  clear hr
  go_enter Tryd.func35, Tryd.ntmps35
  go_wp2
  go_loop [5, 8] (fun _ i => ∃ k : Nat, k ≤ l.length ∧ i = .int .i64 k ∧ Aside0 ((l.take k).any Odd = false)) (fun _ i => l.length - (intOf i).toNat)
  case atStart => exact ⟨0, Nat.zero_le _, rfl, ⟨rfl⟩⟩
  case round =>
    obtain ⟨k, hk, rfl, HA⟩ := hrel
    by_cases hlt : k < l.length
    · have hs := any_take l k hlt
      rw [HA.out, Bool.false_or] at hs
      obtain ⟨ad, e, hx⟩ := Kd.at_int HR.out (k : Int) (by omega) (by omega)
      cases e
      have hrd : rd l (k : Int) = l.getD k 0 := by unfold rd; simp
      rw [hrd, Int.toNat_natCast] at hx
      obtain ⟨x, hxx⟩ : ∃ x, x = l.getD k 0 := ⟨_, rfl⟩
      rw [← hxx] at hx hs
      clear hxx hrd
      by_cases ho : Odd x = true
      · have HS := Aside0.mk (hs.trans ho)
        clear hs
        go_wp2_with (go_at_call 27; refine (odd_calls x _).mono ?_; rintro e w' ⟨rfl, rfl⟩)
        go_ret
        refine ⟨k, rfl, ?_, rfl⟩
        have : l.any Odd = true := by
          rw [← List.take_append_drop (k + 1) l, List.any_append, HS.out]; rfl
        rw [this]; simp
      · have ho' : Odd x = false := by simpa using ho
        have HS := Aside0.mk (hs.trans ho')
        clear hs ho
        go_wp2_with (go_at_call 27; refine (odd_calls x _).mono ?_; rintro e w' ⟨rfl, rfl⟩)
        go_round
        case rel => exact ⟨k + 1, by omega, by go_num, HS⟩
        case measure => simp [intOf]; omega
    · have HS : Aside0 (l.any Odd = false) := ⟨by have := HA.out; rwa [List.take_of_length_le (by omega)] at this⟩
      go_wp2
      go_ret
      exact ⟨-1, rfl, by rw [HS.out]; rfl, rfl⟩
theorem contains_calls (A : Option Addr) (c : Nat) (l : List Int) (w : World) (hr : Kd.C (Kd.int .i64) w A l.length l) :
    Calls Tryd.prog 28 #[.slice A l.length c, .func (.func 27) #[] #[]] w fun e w' => e = .returned (.bool (l.any Odd)) ∧ w = w' := by
  have H := Aside0.mk hr
  clear hr
  go_enter Tryd.func28, Tryd.ntmps28
  go_wp2_with (go_at_call 35; refine (idx_calls A c l _ H.out).mono ?_; rintro e w' ⟨r, rfl, hq, rfl⟩; have HQ := Aside0.mk hq; clear hq)
  go_ret
  exact ⟨by rw [← HQ.out]; rfl, rfl⟩
set_option maxHeartbeats 400000 in
/-- Whether a record may be. -/
theorem right_calls (A : Option Addr) (c : Nat) (r : Rec) (w : World) (hr : Kd.C (Kd.int .i64) w A r.nums.length r.nums) :
    Calls Tryd.prog 13 #[.agg #[.int .i64 r.kind, .slice A r.nums.length c, .string r.text]] w fun e w' => e = .returned (.bool (RightB r)) ∧ Below w.heap.size w w' := by
  obtain ⟨kind, nums, text⟩ := r
  have HR := Aside0.mk hr
  have hmax : nums.length ≤ 9223372036854775807 := hr.2.1
  clear hr
  have HRB : Aside0 (RightB ⟨kind, nums, text⟩ = (decide (1 ≤ kind) && decide (kind ≤ 255) && decide (nums.length ≤ 20) && !nums.any Odd && decide (text.size ≤ 2000))) := ⟨rfl⟩
  obtain ⟨o, ho⟩ : ∃ o, nums.any Odd = o := ⟨_, rfl⟩
  rw [ho] at HRB
  have HO := Aside0.mk ho
  clear ho
  by_cases c1 : 1 ≤ kind
  · have d1 := decide_eq_true c1
    by_cases c2 : kind ≤ 255
    · have d2 := decide_eq_true c2
      by_cases c3 : nums.length ≤ 20
      · have d3 : decide (nums.length ≤ 20) = true := decide_eq_true c3
        have d3' : decide ((nums.length : Int) ≤ 20) = true := decide_eq_true (by omega)
        cases o with
        | true =>
          have HQ : Aside0 (RightB ⟨kind, nums, text⟩ = false) := ⟨by rw [HRB.out]; simp [*]⟩
          clear HRB
          go_enter Tryd.func13, Tryd.ntmps13
          go_wp2_with (go_at_call 28; refine (contains_calls A c nums _ (Kd.C_below HR.out (by first | exact Below.refl _ _ | exact (Below.refl _ _).alloc (Nat.le_refl _) _))).mono ?_; rintro e w' ⟨rfl, rfl⟩; rw [HO.out])
          go_ret
          exact ⟨by rw [HQ.out]; rfl, (Below.refl _ _).alloc (Nat.le_refl _) _⟩
        | false =>
          by_cases c4 : text.size ≤ 2000
          · have d4 : decide (text.size ≤ 2000) = true := decide_eq_true c4
            have d4' : decide ((text.size : Int) ≤ 2000) = true := decide_eq_true (by omega)
            have HQ : Aside0 (RightB ⟨kind, nums, text⟩ = true) := ⟨by rw [HRB.out]; simp [*]⟩
            clear HRB
            go_enter Tryd.func13, Tryd.ntmps13
            go_wp2_with (go_at_call 28; refine (contains_calls A c nums _ (Kd.C_below HR.out (by first | exact Below.refl _ _ | exact (Below.refl _ _).alloc (Nat.le_refl _) _))).mono ?_; rintro e w' ⟨rfl, rfl⟩; rw [HO.out])
            go_ret
            exact ⟨by rw [HQ.out]; rfl, (Below.refl _ _).alloc (Nat.le_refl _) _⟩
          · have d4 : decide (text.size ≤ 2000) = false := decide_eq_false c4
            have d4' : decide ((text.size : Int) ≤ 2000) = false := decide_eq_false (by omega)
            have HQ : Aside0 (RightB ⟨kind, nums, text⟩ = false) := ⟨by rw [HRB.out]; simp [*]⟩
            clear HRB
            go_enter Tryd.func13, Tryd.ntmps13
            go_wp2_with (go_at_call 28; refine (contains_calls A c nums _ (Kd.C_below HR.out (by first | exact Below.refl _ _ | exact (Below.refl _ _).alloc (Nat.le_refl _) _))).mono ?_; rintro e w' ⟨rfl, rfl⟩; rw [HO.out])
            go_ret
            exact ⟨by rw [HQ.out]; rfl, (Below.refl _ _).alloc (Nat.le_refl _) _⟩
      · have d3 : decide (nums.length ≤ 20) = false := decide_eq_false c3
        have d3' : decide ((nums.length : Int) ≤ 20) = false := decide_eq_false (by omega)
        have HQ : Aside0 (RightB ⟨kind, nums, text⟩ = false) := ⟨by rw [HRB.out]; simp [*]⟩
        clear HRB
        go_enter Tryd.func13, Tryd.ntmps13
        go_wp2_with (go_at_call 28; refine (contains_calls A c nums _ (Kd.C_below HR.out (by first | exact Below.refl _ _ | exact (Below.refl _ _).alloc (Nat.le_refl _) _))).mono ?_; rintro e w' ⟨rfl, rfl⟩; rw [HO.out])
        go_ret
        exact ⟨by rw [HQ.out]; rfl, (Below.refl _ _).alloc (Nat.le_refl _) _⟩
    · have d2 := decide_eq_false c2
      have HQ : Aside0 (RightB ⟨kind, nums, text⟩ = false) := ⟨by rw [HRB.out]; simp [*]⟩
      clear HRB
      go_enter Tryd.func13, Tryd.ntmps13
      go_wp2_with (go_at_call 28; refine (contains_calls A c nums _ (Kd.C_below HR.out (by first | exact Below.refl _ _ | exact (Below.refl _ _).alloc (Nat.le_refl _) _))).mono ?_; rintro e w' ⟨rfl, rfl⟩; rw [HO.out])
      go_ret
      exact ⟨by rw [HQ.out]; rfl, (Below.refl _ _).alloc (Nat.le_refl _) _⟩
  · have d1 := decide_eq_false c1
    have HQ : Aside0 (RightB ⟨kind, nums, text⟩ = false) := ⟨by rw [HRB.out]; simp [*]⟩
    clear HRB
    go_enter Tryd.func13, Tryd.ntmps13
    go_wp2_with (go_at_call 28; refine (contains_calls A c nums _ (Kd.C_below HR.out (by first | exact Below.refl _ _ | exact (Below.refl _ _).alloc (Nat.le_refl _) _))).mono ?_; rintro e w' ⟨rfl, rfl⟩; rw [HO.out])
    go_ret
    exact ⟨by rw [HQ.out]; rfl, (Below.refl _ _).alloc (Nat.le_refl _) _⟩
end Go.Proofs.YthidhmfejnjdhaaDoor.FrameG
